/- Proved: Rows.TallySizesCardSaid, the statement TallySizes with its card, of the given program at the commit; no conditions beyond those in the statement. -/
import Derived.Test.YtenkjadobkjaeaaDoorC11x13
set_option autoImplicit false
set_option linter.unusedVariables false
set_option linter.unusedSimpArgs false
set_option maxHeartbeats 4000000
set_option maxRecDepth 100000
namespace Go.Proofs.YtenkjadobkjaeaaDoor.VT
open Go Go.V Go.RowKit
abbrev ZC {a0 a1 a2 a3 a4 a5 a6 a7 a8 a9 a10 a11 a12 a13 a14 a15 a16 a17 a18 a19 a20 a21 a22 a23 a24 a25 a26 a27 a28 a29 a30 a31 a32 a33 a34 a35 a36 a37 a38 a39 a40 a41 a42 a43 a44 a45 a46 a47 a48 a49 a50 a51 a52 a53 a54 a55 a56 a57 a58 a59 a60 a61 a62 a63 a64 a65 a66 a67 a68 a69 a70 a71 a72 a73 a74 a75 a76 a77 a78 a79 a80 a81 a82 a83 a84 a85 a86 a87 a88 a89 a90 a91 a92 a93 a94 a95 a96 a97 a98 a99 a100 a101 : VVal} : VEnv := a0 :: a1 :: a2 :: a3 :: a4 :: a5 :: a6 :: a7 :: a8 :: a9 :: a10 :: a11 :: a12 :: a13 :: a14 :: a15 :: a16 :: a17 :: a18 :: a19 :: a20 :: a21 :: a22 :: a23 :: a24 :: a25 :: a26 :: a27 :: a28 :: a29 :: a30 :: a31 :: a32 :: a33 :: a34 :: a35 :: a36 :: a37 :: a38 :: a39 :: a40 :: a41 :: a42 :: a43 :: a44 :: a45 :: a46 :: a47 :: a48 :: a49 :: a50 :: a51 :: a52 :: a53 :: a54 :: a55 :: a56 :: a57 :: a58 :: a59 :: a60 :: a61 :: a62 :: a63 :: a64 :: a65 :: a66 :: a67 :: a68 :: a69 :: a70 :: a71 :: a72 :: a73 :: a74 :: a75 :: a76 :: a77 :: a78 :: a79 :: a80 :: a81 :: a82 :: a83 :: a84 :: a85 :: a86 :: a87 :: a88 :: a89 :: a90 :: a91 :: a92 :: a93 :: a94 :: a95 :: a96 :: a97 :: a98 :: a99 :: a100 :: a101 :: []
theorem W2o {S : V.Sys} {H : Zf} {fn : Func} {ex : Exit} {env : VEnv} {B L : Zf} {v : VVal} {R : VVal → Zf → Prop} (hx : ex = .normal ∨ ex = .ret) (hv : ZV S.C.T env (B ++ L) fn.results = some v) (h : R v B) (hB : BaseOk H B := by exact XH49) (hu : v.under H.length = true := by first | rfl | exact pb_under (p := cutP p)) : fnK S fn H R ex env (B ++ L) := YA hx hv hB hu h
abbrev Yr : VVal := .slice none 0 0 true 0
abbrev pqB (u : Int) (a b c : VVal) : VBlk := .cells [iI u, a, b, c] true
def cutR (r : Rul) : Rul := (r.kind, r.k, r.steps.take 20, ())
def cutP (p : Pb) : Pb := (p.users, p.who.take 20, p.fixed.take 20, (p.rules.take 40).map cutR, ())
theorem take_end {α : Type} {l : List α} {k m : Nat} (h1 : k ≤ m) (h2 : ¬ (k < l.length ∧ k < m)) : l.take k = l.take m := by
  by_cases h : k = m
  · rw [h]
  · rw [List.take_of_length_le (by omega), List.take_of_length_le (by omega)]
theorem cutR_step {l : List Rul} {m : Nat} (h : m < l.length) : (l.take (m + 1)).map cutR = (l.take m).map cutR ++ [cutR (l.getD m r0)] := by rw [Yh (d := r0) h, List.map_append]; rfl
theorem cutP_L {p : Pb} (h : -9223372036854775808 ≤ p.users ∧ p.users < 9223372036854775808) : PbL (cutP p) :=
  ⟨h, by show (List.take 20 _).length ≤ _; rw [List.length_take]; omega, by show (List.take 20 _).length ≤ _; rw [List.length_take]; omega, by show ((List.take 40 _).map cutR).length ≤ _; rw [List.length_map, List.length_take]; omega,
    fun r hr => by
      obtain ⟨r1, _, rfl⟩ := List.mem_map.1 hr
      show (List.take 20 _).length ≤ _
      rw [List.length_take]; omega⟩
theorem cutP_2 {p : Pb} : cutP (cutP p) = cutP p := by
  unfold cutP
  show (p.users, (p.who.take 20).take 20, (p.fixed.take 20).take 20, ((((p.rules.take 40).map cutR)).take 40).map cutR, ()) = _
  rw [List.take_take, List.take_take, ← List.map_take, List.take_take, List.map_map]
  congr 1; congr 1; congr 1; congr 1
  apply List.map_congr_left
  intro r _
  show cutR (cutR r) = cutR r
  unfold cutR
  show (r.kind, r.k, (r.steps.take 20).take 20, ()) = _
  rw [List.take_take]; rfl
theorem Cut_spec {x : SW} (H : Zf) (p : Pb) : F (psys x) 19 [.agg (pbB p)] H fun v G => v = .agg (pbB (cutP p)) ∧ G = H := by
 refine Zq Tryd.func19 rfl ZC rfl ?_
 refine Zd (Za ?_)
 refine Lo ZC (ZJ rfl rfl rfl) ?_
 refine Lo ZC (ZR rfl rfl) ?_
 refine Ze (Zc (Zd (Za ?_)))
 refine L_gh (Gh.freezePtrL (cs := pbB p) 1 0 rfl rfl rfl) ?_
 refine Lo ZC (rfl) ?_
 refine Lo ZC (W1p rfl rfl rfl rfl) ?_
 refine Lo ZC (rfl) ?_
 refine Lo ZC (ZR rfl rfl) ?_
 refine Lo ZC (W13 rfl rfl rfl rfl rfl rfl rfl) ?_
 refine Ze (Zc ?_)
 refine B_seqJ (mk 102 5070602400912917605986812821489) (fun (u0 : Unit) => []) (fun (u0 : Unit) G => (True) ∧ ∃ lv X, G = (H ++ [VBlk.dead, pqB 0 Yr Yr Yr, pqB p.users lv Yr Yr]) ++ X ∧ LV (H.length + 3) 1 X lv ((p.who.take 20).map iW) (p.who.take 20).length) ?_ ?_
 ·skip
  refine Zd (Za ?_)
  refine Lo ZC (Zg (VVal.int .i64 0) (.inr rfl) rfl) ?_
  refine Ze (Zc (Zi ?_))
  refine Zt (mk 102 5070602400912917605986812821473) (env' := ZC) rfl ?_
  refine Zy (fun (k : Nat) => p.who.length - k) (fun (k : Nat) => [(4, iI (k : Nat))]) (fun (k : Nat) G => (k ≤ p.who.length ∧ k ≤ 20) ∧ ∃ lv X, G = (H ++ [VBlk.dead, pqB 0 Yr Yr Yr, pqB p.users lv Yr Yr]) ++ X ∧ LV (H.length + 3) 1 X lv (((p.who).take k).map iW) ((p.who).take k).length) 0 rfl ?_ ?_
  ·refine ⟨?_, ⟨_, [], (List.append_nil _).symm, LV.nil _ _ _⟩⟩
   exact ⟨Nat.zero_le _, Nat.zero_le _⟩
  rintro k _ ⟨⟨hk1, hk2⟩, ⟨lv, X, rfl, hl⟩⟩
  refine ZM (env' := ZC) rfl ?_
  refine Zd (Zd (Za ?_))
  refine Lo ZC (Zb (.inl rfl) rfl) ?_
  refine Lo ZC (rfl) ?_
  refine Lo ZC (W1p rfl rfl rfl rfl) ?_
  refine Lo ZC (rfl) ?_
  refine Lo ZC (rfl) ?_
  refine Lo ZC (Zb (.inl rfl) rfl) ?_
  refine ZE 18 (env1 := ZC) (env2 := ZC) rfl rfl rfl (fun hg1 => ?_) (fun hg1 => ?_)
  ·try simp only [qB, qN] at hg1
   refine Lo ZC (Zb (.inl rfl) rfl) ?_
   refine Lo ZC (rfl) ?_
   refine Lo ZC (ZN rfl rfl rfl) ?_
   refine Ze (Zc ?_)
   refine Zk _ rfl (fun hc2 => ?_) (fun hc2 => ?_)
   ·try simp only [qB, qN] at hc2
    refine Zj (Zc (Zd (Zi ?_)))
    refine ZS [0, 1, 2, 3, 4, 5, 6, 7, 8, 9, 10] #[0, 1, 0, 4, 0, 28, 60, 124, 255, 511, 1023] XH7 XH7 XH7 ?_
    refine Oo ZC .calm rfl (rfl) ?_
    refine Oo ZC .look rfl (W1p rfl rfl rfl rfl) ?_
    refine Oo ZC .calm rfl (rfl) ?_
    refine Oo ZC .look rfl (W1p rfl rfl rfl rfl) ?_
    refine Oo ZC .calm rfl (Zb (.inl rfl) rfl) ?_
    refine Oo ZC .calm rfl (W18 rfl rfl rfl rfl rfl rfl rfl) ?_
    refine Oo ZC .look rfl (W1p rfl rfl rfl rfl) ?_
    refine Oo ZC .grow rfl (Zz rfl rfl (by decide) rfl) ?_
    refine O_opX .turn rfl rfl rfl (Y4 rfl rfl rfl rfl rfl rfl rfl (by simp) hl rfl rfl (by decide) XH27 (by decide)) rfl rfl ?_
    rintro _ _ ⟨Y1, rfl, rfl, hY1, hY2, hY3⟩
    refine O_env (env' := ZC) rfl ?_
    refine Oo ZC .calm rfl (rfl) ?_
    refine Oo ZC .turn rfl (W13 rfl rfl rfl rfl rfl rfl rfl) ?_
    refine ZU [] XH7 (trivial) ?_
    refine Zs (Zc (Za ?_))
    refine Lo ZC (Zb (.inl rfl) rfl) ?_
    refine Lo ZC (W14 rfl rfl rfl) ?_
    refine Lo ZC (Zb (.inr rfl) rfl) ?_
    refine Ze ?_
    refine Zu (mk 102 5070602400912917605986812821473) (env' := ZC) rfl ⟨k + 1, ?_, rfl, ?_⟩
    ·first | omega | (simp only []; omega)
    ·exact ⟨⟨by omega, by omega⟩, _, _, rfl, by rw [Yh (d := 0) (by omega)]; exact LV.pushW hY3⟩
   ·try simp only [qB, qN] at hc2
    refine ZB (ZD (Zv (ZA ?_)))
    refine Zu (mk 102 5070602400912917605986812821489) (env' := ZC) rfl ⟨(), rfl, ?_⟩
    exact ⟨trivial, _, _, rfl, by rw [← take_end (m := 20) hk2 (by omega)]; exact hl⟩
  ·try simp only [qB, qN] at hg1
   refine Lf ZC ?_
   refine Lf ZC ?_
   refine Lo ZC (ZI (VVal.bool false) rfl rfl rfl) ?_
   refine Ze (Zc ?_)
   refine Yi rfl rfl ?_
   refine ZB (ZD (Zv (ZA ?_)))
   refine Zu (mk 102 5070602400912917605986812821489) (env' := ZC) rfl ⟨(), rfl, ?_⟩
   exact ⟨trivial, _, _, rfl, by rw [← take_end (m := 20) hk2 (by omega)]; exact hl⟩
 ·rintro u0 _ ⟨_, ⟨lv, X, rfl, hl⟩⟩
  refine ZM (env' := ZC) rfl ?_
  refine B_seqJ (mk 102 5070602400912917605986812821489) (fun (u0 : Unit) => []) (fun (u0 : Unit) G => (True) ∧ ∃ lv X, G = (H ++ [VBlk.dead, pqB 0 Yr Yr Yr, pqB p.users (fzW (p.who.take 20)) lv Yr]) ++ X ∧ LV (H.length + 3) 1 X lv ((p.fixed.take 20).map iI) (p.fixed.take 20).length) ?_ ?_
  ·skip
   refine Zd ?_
   refine B_ghCell 2 1 hl rfl rfl (by simp) fun X1 _ _ => ?_
   refine Za ?_
   refine Lo ZC (Zg (VVal.int .i64 0) (.inr rfl) rfl) ?_
   refine Ze (Zc (Zi ?_))
   refine Zt (mk 102 5070602400912917605986812821457) (env' := ZC) rfl ?_
   refine Zy (fun (j : Nat) => p.fixed.length - j) (fun (j : Nat) => [(5, iI (j : Nat))]) (fun (j : Nat) G => (j ≤ p.fixed.length ∧ j ≤ 20) ∧ ∃ lv X, G = (H ++ [VBlk.dead, pqB 0 Yr Yr Yr, pqB p.users (fzW (p.who.take 20)) lv Yr]) ++ X ∧ LV (H.length + 3) 1 X lv (((p.fixed).take j).map iI) ((p.fixed).take j).length) 0 rfl ?_ ?_
   ·refine ⟨?_, ⟨_, X1, rfl, LV.nil _ _ _⟩⟩
    exact ⟨Nat.zero_le _, Nat.zero_le _⟩
   rintro j _ ⟨⟨hj1, hj2⟩, ⟨lv, X, rfl, hl⟩⟩
   refine ZM (env' := ZC) rfl ?_
   refine Zd (Zd (Za ?_))
   refine Lo ZC (Zb (.inl rfl) rfl) ?_
   refine Lo ZC (rfl) ?_
   refine Lo ZC (W1p rfl rfl rfl rfl) ?_
   refine Lo ZC (rfl) ?_
   refine Lo ZC (rfl) ?_
   refine Lo ZC (Zb (.inl rfl) rfl) ?_
   refine ZE 39 (env1 := ZC) (env2 := ZC) rfl rfl rfl (fun hg3 => ?_) (fun hg3 => ?_)
   ·try simp only [qB, qN] at hg3
    refine Lo ZC (Zb (.inl rfl) rfl) ?_
    refine Lo ZC (rfl) ?_
    refine Lo ZC (ZN rfl rfl rfl) ?_
    refine Ze (Zc ?_)
    refine Zk _ rfl (fun hc4 => ?_) (fun hc4 => ?_)
    ·try simp only [qB, qN] at hc4
     refine Zj (Zc (Zd (Zi ?_)))
     refine ZS [0, 1, 2, 3, 4, 5, 6, 7, 8, 9, 10] #[0, 1, 0, 4, 0, 28, 60, 124, 255, 511, 1023] XH7 XH7 XH7 ?_
     refine Oo ZC .calm rfl (rfl) ?_
     refine Oo ZC .look rfl (W1p rfl rfl rfl rfl) ?_
     refine Oo ZC .calm rfl (rfl) ?_
     refine Oo ZC .look rfl (W1p rfl rfl rfl rfl) ?_
     refine Oo ZC .calm rfl (Zb (.inl rfl) rfl) ?_
     refine Oo ZC .calm rfl (W18 rfl rfl rfl rfl rfl rfl rfl) ?_
     refine Oo ZC .look rfl (W1p rfl rfl rfl rfl) ?_
     refine Oo ZC .grow rfl (Zz rfl rfl (by decide) rfl) ?_
     refine O_opX .turn rfl rfl rfl (Y4 rfl rfl rfl rfl rfl rfl rfl (by simp) hl rfl rfl (by decide) XH27 (by decide)) rfl rfl ?_
     rintro _ _ ⟨Y1, rfl, rfl, hY1, hY2, hY3⟩
     refine O_env (env' := ZC) rfl ?_
     refine Oo ZC .calm rfl (rfl) ?_
     refine Oo ZC .turn rfl (W13 rfl rfl rfl rfl rfl rfl rfl) ?_
     refine ZU [] XH7 (trivial) ?_
     refine Zs (Zc (Za ?_))
     refine Lo ZC (Zb (.inl rfl) rfl) ?_
     refine Lo ZC (W14 rfl rfl rfl) ?_
     refine Lo ZC (Zb (.inr rfl) rfl) ?_
     refine Ze ?_
     refine Zu (mk 102 5070602400912917605986812821457) (env' := ZC) rfl ⟨j + 1, ?_, rfl, ?_⟩
     ·first | omega | (simp only []; omega)
     ·exact ⟨⟨by omega, by omega⟩, _, _, rfl, by rw [Yh (d := 0) (by omega)]; exact LV.pushI hY3⟩
    ·try simp only [qB, qN] at hc4
     refine ZB (ZD (Zv (ZA ?_)))
     refine Zu (mk 102 5070602400912917605986812821489) (env' := ZC) rfl ⟨(), rfl, ?_⟩
     exact ⟨trivial, _, _, rfl, by rw [← take_end (m := 20) hj2 (by omega)]; exact hl⟩
   ·try simp only [qB, qN] at hg3
    refine Lf ZC ?_
    refine Lf ZC ?_
    refine Lo ZC (ZI (VVal.bool false) rfl rfl rfl) ?_
    refine Ze (Zc ?_)
    refine Yi rfl rfl ?_
    refine ZB (ZD (Zv (ZA ?_)))
    refine Zu (mk 102 5070602400912917605986812821489) (env' := ZC) rfl ⟨(), rfl, ?_⟩
    exact ⟨trivial, _, _, rfl, by rw [← take_end (m := 20) hj2 (by omega)]; exact hl⟩
  ·rintro u0 _ ⟨_, ⟨lv, X, rfl, hl⟩⟩
   refine ZM (env' := ZC) rfl ?_
   refine B_seqJ (mk 102 5070602400912917605986812821491) (fun (u0 : Unit) => []) (fun (u0 : Unit) G => (True) ∧ ∃ lv X, G = (H ++ [VBlk.dead, pqB 0 Yr Yr Yr, pqB p.users (fzW (p.who.take 20)) (fzI (p.fixed.take 20)) lv]) ++ X ∧ LV (H.length + 3) 3 X lv (((p.rules.take 40).map cutR).flatMap rlB) ((p.rules.take 40).map cutR).length) ?_ ?_
   ·skip
    refine Zd ?_
    refine B_ghCell 2 2 hl rfl rfl (by simp) fun X2 _ _ => ?_
    refine Za ?_
    refine Lo ZC (Zg (VVal.int .i64 0) (.inr rfl) rfl) ?_
    refine Ze (Zc (Zi ?_))
    refine Zt (mk 102 5070602400912917605986812821425) (env' := ZC) rfl ?_
    refine Zy (fun (m : Nat) => p.rules.length - m) (fun (m : Nat) => [(6, iI (m : Nat))]) (fun (m : Nat) G => (m ≤ p.rules.length ∧ m ≤ 40) ∧ ∃ lv X, G = (H ++ [VBlk.dead, pqB 0 Yr Yr Yr, pqB p.users (fzW (p.who.take 20)) (fzI (p.fixed.take 20)) lv]) ++ X ∧ LV (H.length + 3) 3 X lv (((p.rules.take m).map cutR).flatMap rlB) ((p.rules.take m).map cutR).length) 0 rfl ?_ ?_
    ·refine ⟨?_, ⟨_, X2, rfl, LV.nil _ _ _⟩⟩
     exact ⟨Nat.zero_le _, Nat.zero_le _⟩
    rintro m _ ⟨⟨hm1, hm2⟩, ⟨lv, X, rfl, hl⟩⟩
    refine ZM (env' := ZC) rfl ?_
    refine Zd (Zd (Za ?_))
    refine Lo ZC (Zb (.inl rfl) rfl) ?_
    refine Lo ZC (rfl) ?_
    refine Lo ZC (W1p rfl rfl rfl rfl) ?_
    refine Lo ZC (rfl) ?_
    refine Lo ZC (rfl) ?_
    refine Lo ZC (Zb (.inl rfl) rfl) ?_
    refine ZE 60 (env1 := ZC) (env2 := ZC) rfl rfl rfl (fun hg5 => ?_) (fun hg5 => ?_)
    ·try simp only [qB, qN] at hg5
     refine Lo ZC (Zb (.inl rfl) rfl) ?_
     refine Lo ZC (rfl) ?_
     refine Lo ZC (ZN rfl rfl rfl) ?_
     refine Ze (Zc ?_)
     refine Zk _ rfl (fun hc6 => ?_) (fun hc6 => ?_)
     ·try simp only [qB, qN] at hc6
      refine Zj (Zc (Zd (Zi (Zd (Za ?_)))))
      refine Lo ZC (rfl) ?_
      refine Lo ZC (W1p rfl rfl rfl rfl) ?_
      refine Lo ZC (Zb (.inl rfl) rfl) ?_
      refine Lo ZC (W18 rfl rfl rfl rfl rfl rfl rfl) ?_
      refine Lo ZC (W1t rfl rfl rfl rfl rfl) ?_
      refine Lo ZC (ZR rfl rfl) ?_
      refine Lo ZC (W13 rfl rfl rfl rfl rfl rfl rfl) ?_
      refine Ze (Zc (Zd ?_))
      refine Yu (Gh.freezeEnd (cs := rlB (p.rules.getD m r0)) 7 rfl rfl) ?_
      refine Za ?_
      refine Lo ZC (Zg (VVal.slice none 0 0 true 0) (.inr rfl) rfl) ?_
      refine Ze (Zc (Zd (Zd (Za ?_))))
      refine Lo ZC (Zg (VVal.int .i64 0) (.inr rfl) rfl) ?_
      refine Ze (Zc (Zi ?_))
      refine Zt (mk 102 5070602400912917605986812820529) (env' := ZC) rfl ?_
      refine Zy (fun (⟨k, sv⟩ : Nat × VVal) => (p.rules.getD m r0).steps.length - k) (fun (⟨k, sv⟩ : Nat × VVal) => [(8, sv), (9, iI (k : Nat))]) (fun (⟨k, sv⟩ : Nat × VVal) G => (k ≤ (p.rules.getD m r0).steps.length ∧ k ≤ 20) ∧ ∃ X, G = (H ++ [VBlk.dead, pqB 0 Yr Yr Yr, pqB p.users (fzW (p.who.take 20)) (fzI (p.fixed.take 20)) lv]) ++ X ∧ LV (H.length + 3) 3 X lv (((p.rules.take m).map cutR).flatMap rlB) ((p.rules.take m).map cutR).length ∧ LV (H.length + 3) 1 X sv (((p.rules.getD m r0).steps.take k).map iI) ((p.rules.getD m r0).steps.take k).length ∧ ∀ n, YU lv = some n → YU sv ≠ some n) ⟨0, _⟩ rfl ?_ ?_
      ·refine ⟨?_, ⟨X ++ [.dead], rfl, LV.app hl _, LV.nil _ _ _, fun n _ e => by cases e⟩⟩
       exact ⟨Nat.zero_le _, Nat.zero_le _⟩
      rintro ⟨k, sv⟩ _ ⟨⟨hk1, hk2⟩, ⟨X3, rfl, hl3, hs, hd⟩⟩
      refine ZM (env' := ZC) rfl ?_
      refine Zd (Zd (Za ?_))
      refine Lo ZC (Zb (.inl rfl) rfl) ?_
      refine Lo ZC (rfl) ?_
      refine Lo ZC (W1p rfl rfl rfl rfl) ?_
      refine Lo ZC (rfl) ?_
      refine Lo ZC (rfl) ?_
      refine Lo ZC (Zb (.inl rfl) rfl) ?_
      refine ZE 76 (env1 := ZC) (env2 := ZC) rfl rfl rfl (fun hg7 => ?_) (fun hg7 => ?_)
      ·try simp only [qB, qN] at hg7
       refine Lo ZC (Zb (.inl rfl) rfl) ?_
       refine Lo ZC (rfl) ?_
       refine Lo ZC (ZN rfl rfl rfl) ?_
       refine Ze (Zc ?_)
       refine Zk _ rfl (fun hc8 => ?_) (fun hc8 => ?_)
       ·try simp only [qB, qN] at hc8
        refine Zj (Zc (Zd (Zi (Za ?_))))
        refine Lo ZC (Zb (.inl rfl) rfl) ?_
        refine Lo ZC (rfl) ?_
        refine Lo ZC (W1p rfl rfl rfl rfl) ?_
        refine Lo ZC (Zb (.inl rfl) rfl) ?_
        refine Lo ZC (W18 rfl rfl rfl rfl rfl rfl rfl) ?_
        refine Lo ZC (W1p rfl rfl rfl rfl) ?_
        refine Lo ZC (Zz rfl rfl (by decide) rfl) ?_
        refine L_opX rfl rfl (Y4 rfl rfl rfl rfl rfl rfl rfl (by simp) hs rfl rfl (by decide) XH27 (by decide)) ?_
        rintro _ _ ⟨Y1, rfl, rfl, hY1, hY2, hY3⟩
        refine Le ZC ?_
        refine Lo ZC (Zb (.inr rfl) rfl) ?_
        refine Ze (Zs (Zc (Za ?_)))
        refine Lo ZC (Zb (.inl rfl) rfl) ?_
        refine Lo ZC (W14 rfl rfl rfl) ?_
        refine Lo ZC (Zb (.inr rfl) rfl) ?_
        refine Ze ?_
        refine Zu (mk 102 5070602400912917605986812820529) (env' := ZC) rfl ⟨⟨k + 1, _⟩, ?_, rfl, ?_⟩
        ·first | omega | (simp only []; omega)
        ·exact ⟨⟨by omega, by omega⟩, _, rfl, LV.app (LV.keep hl3 hd hY2) _, by rw [Yh (d := 0) (by omega)]; exact LV.pushI hY3, LV.far hl3 (Nat.le_succ _)⟩
       ·try simp only [qB, qN] at hc8
        refine ZB (ZD (Zv (ZA (Zc ?_))))
        rw [take_end (m := 20) hk2 (by omega)] at hs
        refine B_ghLVh (env' := ZC) 8 hs (by simp) rfl rfl fun X4 hX4 hF4 => ?_
        have hl4 := LV.keep hl3 hd hF4
        refine Za ?_
        refine Lo ZC (rfl) ?_
        refine Lo ZC (W1p rfl rfl rfl rfl) ?_
        refine Lo ZC (rfl) ?_
        refine Lo ZC (W1p rfl rfl rfl rfl) ?_
        refine Lo ZC (rfl) ?_
        refine Lo ZC (W1p rfl rfl rfl rfl) ?_
        refine Lo ZC (Zb (.inl rfl) rfl) ?_
        refine Lo ZC (rfl) ?_
        refine Lo ZC (Zz rfl rfl (by decide) rfl) ?_
        refine L_opX rfl rfl (Y4 rfl rfl rfl rfl rfl rfl rfl (by simp) hl4 rfl rfl (by decide) (by rw [List.length_map, List.length_take]; show (_ + 1) * 40 ≤ _ ∧ _ + 1 ≤ _; omega) (by decide)) ?_
        rintro _ _ ⟨Y1, rfl, rfl, hY1, hY2, hY3⟩
        refine Le ZC ?_
        refine Lo ZC (rfl) ?_
        refine Lo ZC (W13 rfl rfl rfl rfl rfl rfl rfl) ?_
        refine Ze (Zs (Zc (Za ?_)))
        refine Lo ZC (Zb (.inl rfl) rfl) ?_
        refine Lo ZC (W14 rfl rfl rfl) ?_
        refine Lo ZC (Zb (.inr rfl) rfl) ?_
        refine Ze ?_
        refine Zu (mk 102 5070602400912917605986812821425) (env' := ZC) rfl ⟨m + 1, ?_, rfl, ?_⟩
        ·first | omega | (simp only []; omega)
        ·exact ⟨⟨by omega, by omega⟩, _, _, rfl, by rw [cutR_step (by omega)]; exact LV.pushF hY3⟩
      ·try simp only [qB, qN] at hg7
       refine Lf ZC ?_
       refine Lf ZC ?_
       refine Lo ZC (ZI (VVal.bool false) rfl rfl rfl) ?_
       refine Ze (Zc ?_)
       refine Yi rfl rfl ?_
       refine ZB (ZD (Zv (ZA (Zc ?_))))
       rw [take_end (m := 20) hk2 (by omega)] at hs
       refine B_ghLVh (env' := ZC) 8 hs (by simp) rfl rfl fun X4 hX4 hF4 => ?_
       have hl4 := LV.keep hl3 hd hF4
       refine Za ?_
       refine Lo ZC (rfl) ?_
       refine Lo ZC (W1p rfl rfl rfl rfl) ?_
       refine Lo ZC (rfl) ?_
       refine Lo ZC (W1p rfl rfl rfl rfl) ?_
       refine Lo ZC (rfl) ?_
       refine Lo ZC (W1p rfl rfl rfl rfl) ?_
       refine Lo ZC (Zb (.inl rfl) rfl) ?_
       refine Lo ZC (rfl) ?_
       refine Lo ZC (Zz rfl rfl (by decide) rfl) ?_
       refine L_opX rfl rfl (Y4 rfl rfl rfl rfl rfl rfl rfl (by simp) hl4 rfl rfl (by decide) (by rw [List.length_map, List.length_take]; show (_ + 1) * 40 ≤ _ ∧ _ + 1 ≤ _; omega) (by decide)) ?_
       rintro _ _ ⟨Y1, rfl, rfl, hY1, hY2, hY3⟩
       refine Le ZC ?_
       refine Lo ZC (rfl) ?_
       refine Lo ZC (W13 rfl rfl rfl rfl rfl rfl rfl) ?_
       refine Ze (Zs (Zc (Za ?_)))
       refine Lo ZC (Zb (.inl rfl) rfl) ?_
       refine Lo ZC (W14 rfl rfl rfl) ?_
       refine Lo ZC (Zb (.inr rfl) rfl) ?_
       refine Ze ?_
       refine Zu (mk 102 5070602400912917605986812821425) (env' := ZC) rfl ⟨m + 1, ?_, rfl, ?_⟩
       ·first | omega | (simp only []; omega)
       ·exact ⟨⟨by omega, by omega⟩, _, _, rfl, by rw [cutR_step (by omega)]; exact LV.pushF hY3⟩
     ·try simp only [qB, qN] at hc6
      refine ZB (ZD (Zv (ZA ?_)))
      refine Zu (mk 102 5070602400912917605986812821491) (env' := ZC) rfl ⟨(), rfl, ?_⟩
      exact ⟨trivial, _, _, rfl, by rw [← take_end (m := 40) hm2 (by omega)]; exact hl⟩
    ·try simp only [qB, qN] at hg5
     refine Lf ZC ?_
     refine Lf ZC ?_
     refine Lo ZC (ZI (VVal.bool false) rfl rfl rfl) ?_
     refine Ze (Zc ?_)
     refine Yi rfl rfl ?_
     refine ZB (ZD (Zv (ZA ?_)))
     refine Zu (mk 102 5070602400912917605986812821491) (env' := ZC) rfl ⟨(), rfl, ?_⟩
     exact ⟨trivial, _, _, rfl, by rw [← take_end (m := 40) hm2 (by omega)]; exact hl⟩
   ·rintro u0 _ ⟨_, ⟨lv, X, rfl, hl⟩⟩
    refine ZM (env' := ZC) rfl ?_
    refine Zd ?_
    refine B_ghCell 2 3 hl rfl rfl (by simp) fun X5 _ _ => ?_
    refine B_heap (List.append_assoc _ _ _) ?_
    refine Za ?_
    refine Lo ZC (W1t rfl rfl rfl rfl rfl) ?_
    refine Lo ZC (W13 rfl rfl rfl rfl rfl rfl rfl) ?_
    refine Ze (Zc (Zl ?_))
    refine W2o (.inr rfl) (YG rfl rfl rfl rfl XH0 (by first | rfl | assumption | exact YY (α := BitVec 64) 0 (by omega) | exact YY (α := Int) 0 (by omega) | exact rul_at (by omega))) ?_
    exact ⟨rfl, rfl⟩
abbrev u76 {a0 a1 a2 a3 a4 a5 a6 a7 a8 a9 a10 a11 a12 a13 a14 a15 a16 a17 a18 a19 a20 a21 a22 a23 a24 a25 a26 a27 a28 a29 a30 a31 a32 a33 a34 a35 a36 a37 a38 a39 a40 a41 a42 a43 a44 a45 a46 a47 a48 a49 a50 a51 a52 a53 a54 a55 a56 a57 a58 a59 a60 a61 a62 a63 a64 a65 a66 a67 a68 a69 a70 a71 a72 a73 a74 a75 : VVal} : VEnv := a0 :: a1 :: a2 :: a3 :: a4 :: a5 :: a6 :: a7 :: a8 :: a9 :: a10 :: a11 :: a12 :: a13 :: a14 :: a15 :: a16 :: a17 :: a18 :: a19 :: a20 :: a21 :: a22 :: a23 :: a24 :: a25 :: a26 :: a27 :: a28 :: a29 :: a30 :: a31 :: a32 :: a33 :: a34 :: a35 :: a36 :: a37 :: a38 :: a39 :: a40 :: a41 :: a42 :: a43 :: a44 :: a45 :: a46 :: a47 :: a48 :: a49 :: a50 :: a51 :: a52 :: a53 :: a54 :: a55 :: a56 :: a57 :: a58 :: a59 :: a60 :: a61 :: a62 :: a63 :: a64 :: a65 :: a66 :: a67 :: a68 :: a69 :: a70 :: a71 :: a72 :: a73 :: a74 :: a75 :: []
theorem W2p {T : TypeId → Option VTy} {H : Zf} {op : Op} {ρ : Operand → VVal} {t : TypeId} {a : Operand} {y : VTy} {p : VVal} {n : Nat} {vs : List VVal} (ho : op = .load t a) (ha : ρ a = p) (hy : T t = some y) (hd : Zo y.desc = true) (hn : y.size = n) (h : LdOkA H p n vs := by first | exact .inl ⟨_, _, rfl, XH45⟩ | exact .inr ⟨_, _, _, _, rfl, XH43, XH45⟩) : vop T ρ H op = some (.agg vs, H) := v_ldA ho ha hy hd hn h
theorem W2r {T : TypeId → Option VTy} {H : Zf} {op : Op} {ρ : Operand → VVal} {t : TypeId} {a : Operand} {y : VTy} {p v : VVal} (ho : op = .load t a) (ha : ρ a = p) (hy : T t = some y) (hd : Zo y.desc = false) (h : LdOk H p v := by first | exact .inl ⟨_, _, rfl, XH45⟩ | exact .inr ⟨_, _, _, _, rfl, XH43, XH45⟩) : vop T ρ H op = some (v, H) := v_ld ho ha hy hd h
theorem W2u {S : V.Sys} {H : Zf} {fn : Func} {ex : Exit} {env : VEnv} {B L : Zf} {v : VVal} {R : VVal → Zf → Prop} (hx : ex = .normal ∨ ex = .ret) (hv : ZV S.C.T env (B ++ L) fn.results = some v) (h : R v B) (hB : BaseOk H B := by exact BaseOk.refl _) (hu : v.under H.length = true := by exact pb_under (p := fewQ q m)) : fnK S fn H R ex env (B ++ L) := YA hx hv hB hu h
theorem cells_get {l w : List VVal} {off m j : Nat} (h : Zx l off m = some w) (hj : j < m) : l[off + j]? = w[j]? := by
  unfold Zx at h
  split at h
  · injection h with h; subst h
    rw [List.getElem?_take, if_pos hj, List.getElem?_drop]
  · cases h
theorem rul_f {l : List Rul} {k j : Nat} (h : k < l.length) (hj : j < 3) : (l.flatMap rlB)[((k : Nat) : Int).toNat * 3 + j]? = (rlB (l.getD k r0))[j]? := by
  exact cells_get (fm_nat (f := rlB) (m := 3) (fun _ => rfl) l k r0 h) hj
theorem rul_f0 {l : List Rul} {k : Nat} (h : k < l.length) : (l.flatMap rlB)[((k : Nat) : Int).toNat * 3 + 0]? = some (iI (l.getD k r0).kind) := rul_f h (by decide)
theorem rul_f1 {l : List Rul} {k : Nat} (h : k < l.length) : (l.flatMap rlB)[((k : Nat) : Int).toNat * 3 + 1]? = some (iI (l.getD k r0).k) := rul_f h (by decide)
theorem rul_f2 {l : List Rul} {k : Nat} (h : k < l.length) : (l.flatMap rlB)[((k : Nat) : Int).toNat * 3 + 2]? = some (fzI (l.getD k r0).steps) := rul_f h (by decide)
def myB (p : Pb) (i : Nat) (u : Int) : Bool := decide (0 ≤ u ∧ u < 64) && (wrd p i).getLsbD u.toNat
theorem okW_in {p : Pb} {i : Nat} (g : Go.V.Good p) (hi : i < p.who.length) : (-1 ≤ p.fixed.getD i 0 ∧ p.fixed.getD i 0 < p.users) ∧ (p.who.getD i 0) >>> p.users.toNat = 0#64 := by
  have hok := g.ok i hi
  unfold okW at hok
  rw [Bool.and_eq_true, decide_eq_true_eq, decide_eq_true_eq] at hok
  exact hok
theorem myB_f {p : Pb} {i : Nat} {u : Int} (g : Go.V.Good p) (hi : i < p.who.length) (h : 0 ≤ p.fixed.getD i 0) : myB p i u = decide (u = p.fixed.getD i 0) := by
  have hok := (okW_in g hi).1; have g2 := g.u64
  unfold myB
  rw [wrd_f h, one_shl, Bool.eq_iff_iff, Bool.and_eq_true, Bool.and_eq_true, decide_eq_true_eq, decide_eq_true_eq, decide_eq_true_eq, decide_eq_true_eq]
  omega
theorem myB_w {p : Pb} {i : Nat} {u : Int} (g : Go.V.Good p) (hi : i < p.who.length) (h : p.fixed.getD i 0 < 0) : myB p i u = (decide (0 ≤ u ∧ u < p.users) && (p.who.getD i 0).getLsbD u.toNat) := by
  have hok := (okW_in g hi).2; have g2 := g.u64; have g4 := g.u0
  unfold myB
  rw [wrd_w h]
  by_cases h1 : 0 ≤ u ∧ u < p.users
  · rw [decide_eq_true h1, decide_eq_true (by omega)]
  · rw [decide_eq_false h1, Bool.false_and]
    by_cases h2 : 0 ≤ u ∧ u < 64
    · rw [decide_eq_true h2, Bool.true_and]; exact high_bit hok (by omega)
    · rw [decide_eq_false h2, Bool.false_and]
theorem bit_eq {w : BitVec 64} {k : Nat} : (((w >>> k &&& 1#64).toNat : Int) == ((1#64 : BitVec 64).toNat : Int)) = w.getLsbD k := by
  have h : (w >>> k &&& 1#64) = if w.getLsbD k = true then 1#64 else 0#64 := by
    apply BitVec.eq_of_getLsbD_eq
    intro i hi
    rw [BitVec.getLsbD_and, BitVec.getLsbD_ushiftRight, BitVec.getLsbD_one]
    by_cases e : i = 0
    · subst e; cases hb : w.getLsbD k <;> simp [hb]
    · cases hb : w.getLsbD k <;> simp [e]
  rw [h]
  cases w.getLsbD k <;> rfl
def fewR (m : Nat) (r : Rul) : Bool := r.steps.all fun s => decide (s < (m : Int))
def fewQ (q : Pb) (m : Nat) : Pb := (q.users, q.who.take m, q.fixed.take m, q.rules.filter (fewR m), ())
def fewP (p : Pb) (m : Nat) : Pb := fewQ (cutP p) m
theorem fewP_L {p : Pb} {m : Nat} (h : -9223372036854775808 ≤ p.users ∧ p.users < 9223372036854775808) : PbL (fewP p m) := by
  have g := cutP_L h
  refine ⟨g.u, ?_, ?_, ?_, fun r hr => g.s r (List.mem_filter.1 hr).1⟩
  · have := g.w; show (List.take _ _).length ≤ _; rw [List.length_take]; omega
  · have := g.f; show (List.take _ _).length ≤ _; rw [List.length_take]; omega
  · have := g.r; exact Nat.le_trans (List.length_filter_le _ _) this
theorem fewP_cut {p : Pb} {m : Nat} : cutP (fewP p m) = fewP p m := by
  have h2 := @cutP_2 p
  have hw : (cutP p).who.take 20 = (cutP p).who := congrArg Pb.who h2
  have hf : (cutP p).fixed.take 20 = (cutP p).fixed := congrArg Pb.fixed h2
  have hr : ((cutP p).rules.take 40).map cutR = (cutP p).rules := congrArg Pb.rules h2
  have hlen : (cutP p).rules.length ≤ 40 := by show ((List.take 40 _).map cutR).length ≤ _; rw [List.length_map, List.length_take]; omega
  have hr2 : ∀ r, r ∈ (cutP p).rules → cutR r = r := fun r hr1 => by
    have h1 : r ∈ (p.rules.take 40).map cutR := hr1
    obtain ⟨r1, _, rfl⟩ := List.mem_map.1 h1
    show (r1.kind, r1.k, (r1.steps.take 20).take 20, ()) = (r1.kind, r1.k, r1.steps.take 20, ())
    rw [List.take_take]; rfl
  have hwl : (cutP p).who.length ≤ 20 := by show (List.take 20 _).length ≤ _; rw [List.length_take]; omega
  have hfl : (cutP p).fixed.length ≤ 20 := by show (List.take 20 _).length ≤ _; rw [List.length_take]; omega
  unfold fewP fewQ
  show ((cutP p).users, ((cutP p).who.take m).take 20, ((cutP p).fixed.take m).take 20, ((((cutP p).rules.filter (fewR m)).take 40).map cutR), ()) = _
  rw [List.take_of_length_le (l := (cutP p).who.take m) XH31, List.take_of_length_le (l := (cutP p).fixed.take m) XH31, List.take_of_length_le (Nat.le_trans (List.length_filter_le _ _) hlen)]
  congr 1; congr 1; congr 1; congr 1
  conv => rhs; rw [← List.map_id ((cutP p).rules.filter (fewR m))]
  exact List.map_congr_left fun r hr1 => hr2 r (List.mem_filter.1 hr1).1
theorem fewR_step {l : List Rul} {m k : Nat} (h : k < l.length) : (l.take (k + 1)).filter (fewR m) = (l.take k).filter (fewR m) ++ if fewR m (l.getD k r0) = true then [l.getD k r0] else [] := by
  rw [Yh (d := r0) h, List.filter_append]
  congr 1
  by_cases e : fewR m (l.getD k r0) = true
  · rw [if_pos e, List.filter_cons, if_pos e]; rfl
  · rw [if_neg e, List.filter_cons, if_neg e]; rfl
theorem allS_step {l : List Int} {k : Nat} {f : Int → Bool} (h : k < l.length) : (l.take (k + 1)).all f = ((l.take k).all f && f (l.getD k 0)) := by
  rw [Yh (d := 0) h, List.all_append, List.all_cons, List.all_nil, Bool.and_true]
theorem Few_q {x : SW} (H : Zf) (p : Pb) (m : Nat) (hu : -9223372036854775808 ≤ p.users ∧ p.users < 9223372036854775808) (q : Pb) (hq : cutP p = q) : F (psys x) 15 [.agg (pbB p), iI (m : Nat)] H fun v G => v = .agg (pbB (fewQ q m)) ∧ G = H := by
 have hL := cutP_L hu
 rw [hq] at hL
 have h1 := hL.w; have h2 := hL.f; have h3 := hL.r; have h4 := hL.s
 have h40 : q.rules.length ≤ 40 := by rw [← hq]; show ((List.take 40 _).map cutR).length ≤ _; rw [List.length_map, List.length_take]; omega
 refine Zq Tryd.func15 rfl u76 rfl ?_
 refine Zd (Za ?_)
 refine Lo u76 (ZJ rfl rfl rfl) ?_
 refine Lo u76 (ZR rfl rfl) ?_
 refine Ze (Zc (Zd ?_))
 refine Yu (Gh.freezePtrL (cs := pbB p) 2 0 rfl rfl rfl) ?_
 refine Za ?_
 refine Lo u76 (W2p rfl rfl rfl rfl rfl) ?_
 refine Zp rfl rfl rfl (by exact hq ▸ Cut_spec _ p) ?_
 rintro _ _ ⟨rfl, rfl⟩
 refine Le u76 ?_
 refine Lo u76 (ZR rfl rfl) ?_
 refine Lo u76 (W13 rfl rfl rfl rfl rfl rfl rfl) ?_
 refine Ze (Zc ?_)
 refine B_seqJ (mk 76 75557863725914323419085) (fun (u0 : Unit) => []) (fun (u0 : Unit) G => (True) ∧ G = H ++ [.dead, pqB 0 Yr Yr Yr, .cells [iI q.users, fzW (q.who.take m), fzI q.fixed, fzR q.rules] true]) ?_ ?_
 ·skip
  refine Zd (Za ?_)
  refine Lo u76 (rfl) ?_
  refine Lo u76 (W2r rfl rfl rfl rfl) ?_
  refine Lo u76 (rfl) ?_
  refine Lo u76 (Zb (.inl rfl) rfl) ?_
  refine Lo u76 (rfl) ?_
  refine Ze (Zc ?_)
  refine Zk _ rfl (fun hc1 => ?_) (fun hc1 => ?_)
  ·try simp only [qB, qN] at hc1
   refine Za ?_
   refine Lo u76 (rfl) ?_
   refine Lo u76 (W2r rfl rfl rfl rfl) ?_
   refine Lo u76 (Zb (.inl rfl) rfl) ?_
   refine Lo u76 (v_wHi (k := m) rfl rfl rfl rfl rfl rfl rfl (by omega)) ?_
   refine Lo u76 (rfl) ?_
   refine Lo u76 (W13 rfl rfl rfl rfl rfl rfl rfl) ?_
   refine Ze ?_
   refine Zu (mk 76 75557863725914323419085) (env' := u76) rfl ⟨(), rfl, ?_⟩
   first
     | exact ⟨trivial, rfl⟩
     | exact ⟨trivial, by rw [List.take_of_length_le (l := q.who) (by omega)]; rfl⟩
  ·try simp only [qB, qN] at hc1
   refine Zj ?_
   refine Zu (mk 76 75557863725914323419085) (env' := u76) rfl ⟨(), rfl, ?_⟩
   first
     | exact ⟨trivial, rfl⟩
     | exact ⟨trivial, by rw [List.take_of_length_le (l := q.who) (by omega)]; rfl⟩
 ·rintro u0 _ ⟨_, rfl⟩
  refine ZM (env' := u76) rfl ?_
  refine B_seqJ (mk 76 75557863725914323419085) (fun (u0 : Unit) => []) (fun (u0 : Unit) G => (True) ∧ G = H ++ [.dead, pqB 0 Yr Yr Yr, .cells [iI q.users, fzW (q.who.take m), fzI (q.fixed.take m), fzR q.rules] true]) ?_ ?_
  ·skip
   refine Zd (Za ?_)
   refine Lo u76 (rfl) ?_
   refine Lo u76 (W2r rfl rfl rfl rfl) ?_
   refine Lo u76 (rfl) ?_
   refine Lo u76 (Zb (.inl rfl) rfl) ?_
   refine Lo u76 (rfl) ?_
   refine Ze (Zc ?_)
   refine Zk _ rfl (fun hc2 => ?_) (fun hc2 => ?_)
   ·try simp only [qB, qN] at hc2
    refine Za ?_
    refine Lo u76 (rfl) ?_
    refine Lo u76 (W2r rfl rfl rfl rfl) ?_
    refine Lo u76 (Zb (.inl rfl) rfl) ?_
    refine Lo u76 (v_iHi (k := m) rfl rfl rfl rfl rfl rfl rfl (by omega)) ?_
    refine Lo u76 (rfl) ?_
    refine Lo u76 (W13 rfl rfl rfl rfl rfl rfl rfl) ?_
    refine Ze ?_
    refine Zu (mk 76 75557863725914323419085) (env' := u76) rfl ⟨(), rfl, ?_⟩
    first
      | exact ⟨trivial, rfl⟩
      | exact ⟨trivial, by rw [List.take_of_length_le (l := q.fixed) (by omega)]⟩
   ·try simp only [qB, qN] at hc2
    refine Zj ?_
    refine Zu (mk 76 75557863725914323419085) (env' := u76) rfl ⟨(), rfl, ?_⟩
    first
      | exact ⟨trivial, rfl⟩
      | exact ⟨trivial, by rw [List.take_of_length_le (l := q.fixed) (by omega)]⟩
  ·rintro u0 _ ⟨_, rfl⟩
   refine ZM (env' := u76) rfl ?_
   refine Zd (Za ?_)
   refine Lo u76 (Zg (VVal.slice none 0 0 true 0) (.inr rfl) rfl) ?_
   refine Ze (Zc (Zd (Zd (Za ?_))))
   refine Lo u76 (Zg (VVal.int .i64 0) (.inr rfl) rfl) ?_
   refine Ze (Zc (Zi ?_))
   refine Zt (mk 76 75557863725914323418893) (env' := u76) rfl ?_
   refine Zy (fun (⟨k, lv⟩ : Nat × VVal) => q.rules.length - k) (fun (⟨k, lv⟩ : Nat × VVal) => [(6, lv), (7, iI (k : Nat))]) (fun (⟨k, lv⟩ : Nat × VVal) G => (k ≤ q.rules.length) ∧ ∃ X, G = (H ++ [.dead, pqB 0 Yr Yr Yr, .cells [iI q.users, fzW (q.who.take m), fzI (q.fixed.take m), fzR q.rules] true]) ++ X ∧ LV (H.length + 3) 3 X lv (((q.rules.take k).filter (fewR m)).flatMap rlB) ((q.rules.take k).filter (fewR m)).length) ⟨0, _⟩ rfl ?_ ?_
   ·refine ⟨?_, ⟨[], (List.append_nil _).symm, LV.nil _ _ _⟩⟩
    exact Nat.zero_le _
   rintro ⟨k, lv⟩ _ ⟨hk, ⟨X, rfl, hl⟩⟩
   refine ZM (env' := u76) rfl ?_
   refine Zd (Zd (Za ?_))
   refine Lo u76 (Zb (.inl rfl) rfl) ?_
   refine Lo u76 (rfl) ?_
   refine Lo u76 (W2r rfl rfl rfl rfl) ?_
   refine Lo u76 (rfl) ?_
   refine Lo u76 (rfl) ?_
   refine Ze (Zc ?_)
   refine Zk _ rfl (fun hc3 => ?_) (fun hc3 => ?_)
   ·try simp only [qB, qN] at hc3
    refine Zj (Zc (Zd (Zi (Zd (Za ?_)))))
    refine Lo u76 (Zg (VVal.bool true) (.inr rfl) rfl) ?_
    refine Ze (Zc (Zd (Zd (Za ?_))))
    refine Lo u76 (Zg (VVal.int .i64 0) (.inr rfl) rfl) ?_
    refine Ze (Zc (Zi ?_))
    refine Zt (mk 76 75557863725914323418125) (env' := u76) rfl ?_
    refine Zy (fun (⟨s, b⟩ : Nat × Bool) => (q.rules.getD k r0).steps.length - s) (fun (⟨s, b⟩ : Nat × Bool) => [(8, .bool b), (9, iI (s : Nat))]) (fun (⟨s, b⟩ : Nat × Bool) G => (s ≤ (q.rules.getD k r0).steps.length ∧ b = ((q.rules.getD k r0).steps.take s).all fun x => decide (x < (m : Int))) ∧ G = (H ++ [.dead, pqB 0 Yr Yr Yr, .cells [iI q.users, fzW (q.who.take m), fzI (q.fixed.take m), fzR q.rules] true]) ++ X) ⟨0, true⟩ rfl ?_ ?_
    ·refine ⟨?_, rfl⟩
     exact ⟨Nat.zero_le _, rfl⟩
    rintro ⟨s, b⟩ _ ⟨⟨hs, hb⟩, rfl⟩
    refine ZM (env' := u76) rfl ?_
    refine Zd (Zd ?_)
    have hst := h4 _ (Y5 (l := q.rules) (k := k) (by omega))
    refine Za ?_
    refine Lo u76 (Zb (.inl rfl) rfl) ?_
    refine Lo u76 (rfl) ?_
    refine Lo u76 (W2r rfl rfl rfl rfl) ?_
    refine Lo u76 (Zb (.inl rfl) rfl) ?_
    refine Lo u76 (W18 rfl rfl rfl rfl rfl rfl rfl) ?_
    refine Lo u76 (rfl) ?_
    refine Lo u76 (W2r rfl rfl rfl rfl) ?_
    refine Lo u76 (rfl) ?_
    refine Lo u76 (rfl) ?_
    refine Ze (Zc ?_)
    refine Zk _ rfl (fun hc4 => ?_) (fun hc4 => ?_)
    ·try simp only [qB, qN] at hc4
     refine Zj (Zc (Zd (Zi (Za ?_))))
     refine Lo u76 (Zb (.inl rfl) rfl) ?_
     refine Lo u76 (Zb (.inl rfl) rfl) ?_
     refine ZE 51 (env1 := u76) (env2 := u76) rfl rfl rfl (fun hg5 => ?_) (fun hg5 => ?_)
     ·try simp only [qB, qN] at hg5
      refine Lo u76 (rfl) ?_
      refine Lo u76 (W2r rfl rfl rfl rfl) ?_
      refine Lo u76 (Zb (.inl rfl) rfl) ?_
      refine Lo u76 (W18 rfl rfl rfl rfl rfl rfl rfl) ?_
      refine Lo u76 (rfl) ?_
      refine Lo u76 (W2r rfl rfl rfl rfl) ?_
      refine Lo u76 (Zb (.inl rfl) rfl) ?_
      refine Lo u76 (W18 rfl rfl rfl rfl rfl rfl rfl) ?_
      refine Lo u76 (W2r rfl rfl rfl rfl) ?_
      refine Lo u76 (Zb (.inl rfl) rfl) ?_
      refine Lo u76 (rfl) ?_
      refine Lo u76 (ZN rfl rfl rfl) ?_
      refine Lo u76 (Zb (.inr rfl) rfl) ?_
      refine Ze (Zs (Zc (Za ?_)))
      refine Lo u76 (Zb (.inl rfl) rfl) ?_
      refine Lo u76 (W14 rfl rfl rfl) ?_
      refine Lo u76 (Zb (.inr rfl) rfl) ?_
      refine Ze ?_
      refine Zu (mk 76 75557863725914323418125) (env' := u76) rfl ⟨⟨s + 1, _⟩, ?_, rfl, ?_⟩
      ·first | omega | (simp only []; omega)
      ·first | exact ⟨⟨by omega, by rw [allS_step (by omega), ← hb, (show b = true by assumption), Bool.true_and]⟩, rfl⟩ | exact ⟨⟨by omega, by rw [allS_step (by omega), ← hb, (show b = false by simp_all), Bool.false_and]⟩, rfl⟩
     ·try simp only [qB, qN] at hg5
      refine Lf u76 ?_
      refine Lf u76 ?_
      refine Lf u76 ?_
      refine Lf u76 ?_
      refine Lf u76 ?_
      refine Lf u76 ?_
      refine Lf u76 ?_
      refine Lf u76 ?_
      refine Lf u76 ?_
      refine Lf u76 ?_
      refine Lf u76 ?_
      refine Lo u76 (ZI (VVal.bool false) rfl rfl rfl) ?_
      refine Lo u76 (Zb (.inr rfl) rfl) ?_
      refine Ze (Zs (Zc (Za ?_)))
      refine Lo u76 (Zb (.inl rfl) rfl) ?_
      refine Lo u76 (W14 rfl rfl rfl) ?_
      refine Lo u76 (Zb (.inr rfl) rfl) ?_
      refine Ze ?_
      refine Zu (mk 76 75557863725914323418125) (env' := u76) rfl ⟨⟨s + 1, _⟩, ?_, rfl, ?_⟩
      ·first | omega | (simp only []; omega)
      ·first | exact ⟨⟨by omega, by rw [allS_step (by omega), ← hb, (show b = true by assumption), Bool.true_and]⟩, rfl⟩ | exact ⟨⟨by omega, by rw [allS_step (by omega), ← hb, (show b = false by simp_all), Bool.false_and]⟩, rfl⟩
    ·try simp only [qB, qN] at hc4
     refine ZB (ZD (Zv (ZA (Zc (Zd (Za ?_))))))
     refine Lo u76 (Zb (.inl rfl) rfl) ?_
     refine Ze (Zc ?_)
     refine Zk _ rfl (fun hc6 => ?_) (fun hc6 => ?_)
     ·try simp only [qB, qN] at hc6
      refine Za ?_
      refine Lo u76 (Zb (.inl rfl) rfl) ?_
      refine Lo u76 (rfl) ?_
      refine Lo u76 (W2r rfl rfl rfl rfl) ?_
      refine Lo u76 (Zb (.inl rfl) rfl) ?_
      refine Lo u76 (W18 rfl rfl rfl rfl rfl rfl rfl) ?_
      refine Lo u76 (W2p rfl rfl rfl rfl rfl) ?_
      refine Lo u76 (Zz rfl rfl (by decide) rfl) ?_
      refine L_opX rfl rfl (Y4 rfl rfl rfl rfl rfl rfl rfl (by simp) hl rfl rfl (by decide) (by have h9 := List.length_filter_le (fewR m) ((q.rules).take k); rw [List.length_take] at h9; show (_ + 1) * 40 ≤ _ ∧ _ + 1 ≤ _; omega) (by decide)) ?_
      rintro _ _ ⟨Y1, rfl, rfl, hY1, hY2, hY3⟩
      refine Le u76 ?_
      refine Lo u76 (Zb (.inr rfl) rfl) ?_
      refine Ze (Zs (Zc (Za ?_)))
      refine Lo u76 (Zb (.inl rfl) rfl) ?_
      refine Lo u76 (W14 rfl rfl rfl) ?_
      refine Lo u76 (Zb (.inr rfl) rfl) ?_
      refine Ze ?_
      obtain rfl : s = (q.rules.getD k r0).steps.length := by omega
      rw [List.take_length] at hb
      refine Zu (mk 76 75557863725914323418893) (env' := u76) rfl ⟨⟨k + 1, _⟩, ?_, rfl, ?_⟩
      ·first | omega | (simp only []; omega)
      ·first | exact ⟨by omega, _, rfl, by rw [fewR_step (by omega), if_pos (show fewR m (q.rules.getD k r0) = true from hb.symm.trans (by assumption))]; exact LV.pushF hY3⟩ | exact ⟨by omega, _, rfl, by rw [fewR_step (by omega), if_neg (fun e => by rw [show fewR m (q.rules.getD k r0) = b from hb.symm] at e; rw [(by assumption : b = false)] at e; cases e), List.append_nil]; exact hl⟩
     ·try simp only [qB, qN] at hc6
      refine Zj (Zs (Zc (Za ?_)))
      refine Lo u76 (Zb (.inl rfl) rfl) ?_
      refine Lo u76 (W14 rfl rfl rfl) ?_
      refine Lo u76 (Zb (.inr rfl) rfl) ?_
      refine Ze ?_
      obtain rfl : s = (q.rules.getD k r0).steps.length := by omega
      rw [List.take_length] at hb
      refine Zu (mk 76 75557863725914323418893) (env' := u76) rfl ⟨⟨k + 1, _⟩, ?_, rfl, ?_⟩
      ·first | omega | (simp only []; omega)
      ·first | exact ⟨by omega, _, rfl, by rw [fewR_step (by omega), if_pos (show fewR m (q.rules.getD k r0) = true from hb.symm.trans (by assumption))]; exact LV.pushF hY3⟩ | exact ⟨by omega, _, rfl, by rw [fewR_step (by omega), if_neg (fun e => by rw [show fewR m (q.rules.getD k r0) = b from hb.symm] at e; rw [(by assumption : b = false)] at e; cases e), List.append_nil]; exact hl⟩
   ·try simp only [qB, qN] at hc3
    refine ZB (ZD (Zv (ZA (Zc (Zd ?_)))))
    obtain rfl : k = q.rules.length := by omega
    rw [List.take_length] at hl
    refine B_ghLVh (env' := u76) 6 hl (by simp) rfl rfl fun X4 hX4 hF4 => ?_
    refine B_heap (List.append_assoc _ _ _) ?_
    refine Za ?_
    refine Lo u76 (Zb (.inl rfl) rfl) ?_
    refine Lo u76 (rfl) ?_
    refine Lo u76 (W13 rfl rfl rfl rfl rfl rfl rfl) ?_
    refine Ze (Zc (Zd (Za ?_)))
    refine Lo u76 (W2p rfl rfl rfl rfl rfl) ?_
    refine Lo u76 (W13 rfl rfl rfl rfl rfl rfl rfl) ?_
    refine Ze (Zc (Zl ?_))
    refine W2u (.inr rfl) (YG rfl rfl rfl rfl XH0 XH19) ?_
    exact ⟨rfl, rfl⟩
theorem Few_spec {x : SW} (H : Zf) (p : Pb) (m : Nat) (hu : -9223372036854775808 ≤ p.users ∧ p.users < 9223372036854775808) : F (psys x) 15 [.agg (pbB p), iI (m : Nat)] H fun v G => v = .agg (pbB (fewP p m)) ∧ G = H := Few_q H p m hu _ rfl
abbrev hmB (s : Nat) (rows : List (BitVec 64)) (O : List Int) : VBlk := .cells (fzW rows :: (O.map iI ++ [.ptr (some (s, 0))])) true
abbrev hsB (w : BitVec 64) : VBlk := .cells [iW w] true
abbrev gw (g : Gz) (w : BitVec 64) : Gz := ⟨g.n, g.p, g.e + Yz 64 w⟩
def htH (H : Zf) (p q s : Nat) (rows : List (BitVec 64)) (t : GSt) (g : Gz) : Zf := ((H.set p (hmB s rows t.1)).set q (hsB t.2)).set s (gaB g)
section
variable {H L : Zf} {p q s : Nat} {rows : List (BitVec 64)} {t : GSt} {g : Gz}
structure Apart3 (H : Zf) (p q s : Nat) : Prop where
  hp : p < H.length
  hq : q < H.length
  hs : s < H.length
  pq : p ≠ q
  ps : p ≠ s
  qs : q ≠ s
theorem YP {n : Nat} (h : H.length = n) : (htH H p q s rows t g).length = n := by unfold htH; rw [List.length_set, List.length_set, List.length_set]; exact h
theorem htH_id {O : List Int} {w : BitVec 64} (hp : H[p]? = some (hmB s rows O)) (hq : H[q]? = some (hsB w)) (hs : H[s]? = some (gaB g)) : htH H p q s rows (O, w) g = H := by
  unfold htH; rw [← YK hp, ← YK hq, ← YK hs]
theorem ht_s (a : Apart3 H p q s) : (htH H p q s rows t g ++ L)[s]? = some (gaB g) := by
  unfold htH; exact Zw (List.getElem?_set_self (by rw [List.length_set, List.length_set]; exact a.hs))
theorem ht_q (a : Apart3 H p q s) : (htH H p q s rows t g ++ L)[q]? = some (hsB t.2) := by
  unfold htH; exact Zw (by rw [List.getElem?_set_ne (Ne.symm a.qs)]; exact List.getElem?_set_self (by rw [List.length_set]; exact a.hq))
theorem ht_p (a : Apart3 H p q s) : (htH H p q s rows t g ++ L)[p]? = some (hmB s rows t.1) := by
  unfold htH; exact Zw (by rw [List.getElem?_set_ne (Ne.symm a.ps), List.getElem?_set_ne (Ne.symm a.pq)]; exact List.getElem?_set_self a.hp)
theorem ht_sets0 {k : VBlk} (a : Apart3 H p q s) : (htH H p q s rows t g ++ L).set s k = ((H.set p (hmB s rows t.1)).set q (hsB t.2)).set s k ++ L := by
  rw [Yx (by rw [YP rfl]; exact a.hs)]; unfold htH; rw [List.set_set]
theorem ht_setq0 {k : VBlk} (a : Apart3 H p q s) : (htH H p q s rows t g ++ L).set q k = ((H.set p (hmB s rows t.1)).set q k).set s (gaB g) ++ L := by
  rw [Yx (by rw [YP rfl]; exact a.hq)]; unfold htH; rw [List.set_comm _ _ (Ne.symm a.qs), List.set_set]
theorem ht_setq {w : BitVec 64} (a : Apart3 H p q s) : (htH H p q s rows t g ++ L).set q (hsB w) = htH H p q s rows (t.1, w) g ++ L := ht_setq0 a
theorem ht_setp0 {k : VBlk} (a : Apart3 H p q s) : (htH H p q s rows t g ++ L).set p k = ((H.set p k).set q (hsB t.2)).set s (gaB g) ++ L := by
  rw [Yx (by rw [YP rfl]; exact a.hp)]; unfold htH
  rw [List.set_comm _ _ (Ne.symm a.ps), List.set_comm _ _ (Ne.symm a.pq), List.set_set]
theorem ht_setp {u : Int} {r : Int} (a : Apart3 H p q s) (hu : u.toNat < t.1.length) : (htH H p q s rows t g ++ L).set p (.cells (ZH (fzW rows :: (t.1.map iI ++ [.ptr (some (s, 0))])) (0 + 1 + u.toNat * 1) [iI r]) true) = htH H p q s rows (t.1.set u.toNat r, t.2) g ++ L := by
  have : ZH (fzW rows :: (t.1.map iI ++ [.ptr (some (s, 0))])) (0 + 1 + u.toNat * 1) [iI r] = fzW rows :: ((t.1.set u.toNat r).map iI ++ [.ptr (some (s, 0))]) := by
    rw [show 0 + 1 + u.toNat * 1 = u.toNat + 1 by omega]
    unfold ZH
    rw [List.map_set, ← List.set_append_left _ _ (by rw [List.length_map]; exact hu), List.set_eq_take_append_cons_drop, if_pos (by rw [List.length_append, List.length_map]; omega)]; simp
  rw [this, ht_setp0 a]; rfl
theorem ht_ht {t' : GSt} {g' : Gz} (a : Apart3 H p q s) : htH (htH H p q s rows t g ++ L) p q s rows t' g' = htH H p q s rows t' g' ++ L := by
  have : htH (htH H p q s rows t g ++ L) p q s rows t' g' = (((htH H p q s rows t g ++ L).set p (hmB s rows t'.1)).set q (hsB t'.2)).set s (gaB g') := rfl
  rw [this, ht_setp0 a]
  rw [Yx (by simp; exact a.hq), List.set_comm _ _ (Ne.symm a.qs), List.set_set, Yx (by simp; exact a.hs), List.set_set]; rfl
theorem ht_len6 {u : Int} {v : VVal} (h : u.toNat < t.1.length) : 0 + 1 + u.toNat * 1 + [v].length ≤ (fzW rows :: (t.1.map iI ++ [.ptr (some (s, 0))])).length := by
  show 0 + 1 + u.toNat * 1 + 1 ≤ (t.1.map iI ++ [_]).length + 1
  rw [List.length_append, List.length_map]; show _ ≤ _ + 1 + 1; omega
theorem ht_base (a : Apart3 H p q s) : BaseOk H (htH H p q s rows t g) := BaseOk.set (BaseOk.set (BaseOk.set (BaseOk.refl _) _ (by
    show VVal.underL _ (fzW rows :: (t.1.map iI ++ [.ptr (some (s, 0))])) = true
    have h1 : VVal.underL H.length (t.1.map iI ++ [.ptr (some (s, 0))]) = true := VVal.underL_app (VVal.underL_map fun _ => rfl) (by simp [VVal.underL, VVal.under, a.hs])
    simp only [VVal.underL, h1, Bool.and_true]
    exact VVal.underL_map fun _ => rfl)) _ rfl) _ rfl
theorem hown_cell {u : Int} (h : 0 ≤ u ∧ u < t.1.length) : (fzW rows :: (t.1.map iI ++ [.ptr (some (s, 0))]))[0 + 1 + u.toNat * 1]? = some (iI (t.1.getD u.toNat 0)) := by
  rw [show 0 + 1 + u.toNat * 1 = u.toNat + 1 by omega, List.getElem?_cons_succ]
  have : u.toNat < t.1.length := by omega
  rw [List.getElem?_append_left (by rw [List.length_map]; exact this)]
  simp [List.getElem?_eq_getElem this]
theorem hgp_cell (h : t.1.length = 64) : (fzW rows :: (t.1.map iI ++ [.ptr (some (s, 0))]))[0 + 65]? = some (.ptr (some (s, 0))) := by
  rw [show 0 + 65 = 64 + 1 by omega, List.getElem?_cons_succ, List.getElem?_append_right (by rw [List.length_map, h]; omega), List.length_map, h]; rfl
theorem apart_app {X : Zf} (a : Apart3 H p q s) : Apart3 (htH H p q s rows t g ++ X) p q s := ⟨by rw [List.length_append, YP rfl]; have := a.hp; omega, by rw [List.length_append, YP rfl]; have := a.hq; omega, by rw [List.length_append, YP rfl]; have := a.hs; omega, a.pq, a.ps, a.qs⟩
end
theorem come_one {w : BitVec 64} {u : Nat} (hu : u < 64) (h : w.getLsbD u = false) (g : Gz) : (⟨g.n, g.p, (g.e + Yz 64 w) + 1⟩ : Gz) = gw g (w ||| 1#64 <<< u) := by
  unfold gw; rw [come_next hu (Nat.le_refl _) h, Nat.add_assoc]
section
variable {H L : Zf} {p q s : Nat} {rows : List (BitVec 64)} {t : GSt} {g : Gz}
theorem ht_incw {w : BitVec 64} (a : Apart3 H p q s) : (htH H p q s rows t (gw g w) ++ L).set s (.cells (ZH [iN (gw g w).n, iN (gw g w).p, iN (gw g w).e] (0 + 2) [iW (BitVec.ofNat 64 (gw g w).e + 1#64)]) true) = htH H p q s rows t ⟨g.n, g.p, (g.e + Yz 64 w) + 1⟩ ++ L := by
  rw [iN_one]; exact ht_sets0 a
end
abbrev u67 {a0 a1 a2 a3 a4 a5 a6 a7 a8 a9 a10 a11 a12 a13 a14 a15 a16 a17 a18 a19 a20 a21 a22 a23 a24 a25 a26 a27 a28 a29 a30 a31 a32 a33 a34 a35 a36 a37 a38 a39 a40 a41 a42 a43 a44 a45 a46 a47 a48 a49 a50 a51 a52 a53 a54 a55 a56 a57 a58 a59 a60 a61 a62 a63 a64 a65 a66 : VVal} : VEnv := a0 :: a1 :: a2 :: a3 :: a4 :: a5 :: a6 :: a7 :: a8 :: a9 :: a10 :: a11 :: a12 :: a13 :: a14 :: a15 :: a16 :: a17 :: a18 :: a19 :: a20 :: a21 :: a22 :: a23 :: a24 :: a25 :: a26 :: a27 :: a28 :: a29 :: a30 :: a31 :: a32 :: a33 :: a34 :: a35 :: a36 :: a37 :: a38 :: a39 :: a40 :: a41 :: a42 :: a43 :: a44 :: a45 :: a46 :: a47 :: a48 :: a49 :: a50 :: a51 :: a52 :: a53 :: a54 :: a55 :: a56 :: a57 :: a58 :: a59 :: a60 :: a61 :: a62 :: a63 :: a64 :: a65 :: a66 :: []
theorem W2x {T : TypeId → Option VTy} {H : Zf} {op : Op} {ρ : Operand → VVal} {t : TypeId} {a : Operand} {y : VTy} {p v : VVal} (ho : op = .load t a) (ha : ρ a = p) (hy : T t = some y) (hd : Zo y.desc = false) (h : LdOk H p v := by first | exact .inl ⟨_, _, rfl, by first | rfl | assumption | exact hown_cell (by omega) | exact hgp_cell hl1 | exact fget (α := BitVec 64) 0 (by omega)⟩ | exact .inr ⟨_, _, _, _, rfl, XH48, by first | rfl | assumption | exact hown_cell (by omega) | exact hgp_cell hl1 | exact fget (α := BitVec 64) 0 (by omega)⟩) : vop T ρ H op = some (v, H) := v_ld ho ha hy hd h
theorem W2z {T : TypeId → Option VTy} {H : Zf} {op : Op} {ρ : Operand → VVal} {t : TypeId} {a : Operand} {y : VTy} {p v : VVal} (ho : op = .load t a) (ha : ρ a = p) (hy : T t = some y) (hd : Zo y.desc = false) (h : LdOk H p v := by first | exact .inl ⟨_, _, rfl, by rfl⟩ | exact .inr ⟨_, _, _, _, rfl, by exact ZL (YP rfl) rfl, by rfl⟩) : vop T ρ H op = some (v, H) := v_ld ho ha hy hd h
theorem W30 {T : TypeId → Option VTy} {H : Zf} {op : Op} {ρ : Operand → VVal} {t : TypeId} {a : Operand} {y : VTy} {p v : VVal} (ho : op = .load t a) (ha : ρ a = p) (hy : T t = some y) (hd : Zo y.desc = false) (h : LdOk H p v := by first | exact .inl ⟨_, _, rfl, by rfl⟩ | exact .inr ⟨_, _, _, _, rfl, XH48, by rfl⟩) : vop T ρ H op = some (v, H) := v_ld ho ha hy hd h
theorem W31 {T : TypeId → Option VTy} {H : Zf} {op : Op} {ρ : VEnv} {H' : Zf} {t : TypeId} {a : Operand} {i : Nat} {v : VVal} {y : VTy} {b off : Nat} {cs new : List VVal} (ho : op = .store t a (.tmp i)) (hv : ρ[i]? = some v) (ha : ρ.eval a = .ptr (some (b, off))) (hy : T t = some y) (hx : v.cells = some new) (hn : new.length = y.size) (h1 : new.all VVal.one = true) (hb : H[b]? = some (.cells cs true) := by exact XH48) (hl : off + new.length ≤ cs.length := by exact XH46) (hH : H.set b (.cells (ZH cs off new) true) = H' := by exact ht_incw hA) : vop T ρ.eval H op = some (.skip, H') := Z0 ho hv ha hy hx hn h1 hb hl hH
theorem W32 {T : TypeId → Option VTy} {H : Zf} {op : Op} {ρ : VEnv} {H' : Zf} {t : TypeId} {a : Operand} {i : Nat} {v : VVal} {y : VTy} {b off : Nat} {cs new : List VVal} (ho : op = .store t a (.tmp i)) (hv : ρ[i]? = some v) (ha : ρ.eval a = .ptr (some (b, off))) (hy : T t = some y) (hx : v.cells = some new) (hn : new.length = y.size) (h1 : new.all VVal.one = true) (hb : H[b]? = some (.cells cs true) := by exact XH48) (hl : off + new.length ≤ cs.length := by exact XH46) (hH : H.set b (.cells (ZH cs off new) true) = H' := by exact ht_setq hA) : vop T ρ.eval H op = some (.skip, H') := Z0 ho hv ha hy hx hn h1 hb hl hH
theorem W33 {T : TypeId → Option VTy} {H : Zf} {op : Op} {ρ : Operand → VVal} {t : TypeId} {a : Operand} {y : VTy} {p v : VVal} (ho : op = .load t a) (ha : ρ a = p) (hy : T t = some y) (hd : Zo y.desc = false) (h : LdOk H p v := by first | exact .inl ⟨_, _, rfl, by exact hown_cell (t := (s1.1, s1.2 ||| 1#64 <<< c)) (by show 0 ≤ (c : Int) ∧ (c : Int) < s1.1.length; omega)⟩ | exact .inr ⟨_, _, _, _, rfl, XH48, by exact hown_cell (t := (s1.1, s1.2 ||| 1#64 <<< c)) (by show 0 ≤ (c : Int) ∧ (c : Int) < s1.1.length; omega)⟩) : vop T ρ H op = some (v, H) := v_ld ho ha hy hd h
theorem W35 {T : TypeId → Option VTy} {H : Zf} {op : Op} {ρ : VEnv} {H' : Zf} {t : TypeId} {a : Operand} {i : Nat} {v : VVal} {y : VTy} {b off : Nat} {cs new : List VVal} (ho : op = .store t a (.tmp i)) (hv : ρ[i]? = some v) (ha : ρ.eval a = .ptr (some (b, off))) (hy : T t = some y) (hx : v.cells = some new) (hn : new.length = y.size) (h1 : new.all VVal.one = true) (hb : H[b]? = some (.cells cs true) := by exact XH48) (hl : off + new.length ≤ cs.length := by first | exact ht_len6 (t := (s1.1, 0#64)) (show c < s1.1.length by omega) | exact ht_len6 (Nat.lt_of_lt_of_eq hc64 (hgr.yes (by assumption)).1.len.symm)) (hH : H.set b (.cells (ZH cs off new) true) = H' := by first | exact ht_setp hA (show c < s1.1.length by omega) | exact ht_setp hA (Nat.lt_of_lt_of_eq hc64 (hgr.yes (by assumption)).1.len.symm)) : vop T ρ.eval H op = some (.skip, H') := Z0 ho hv ha hy hx hn h1 hb hl hH
theorem W37 {S : V.Sys} {H : Zf} {fn : Func} {ex : Exit} {env : VEnv} {B L : Zf} {v : VVal} {R : VVal → Zf → Prop} (hx : ex = .normal ∨ ex = .ret) (hv : ZV S.C.T env (B ++ L) fn.results = some v) (h : R v B) (hB : BaseOk H B := by exact ht_base hA) (hu : v.under H.length = true := by first | rfl | simp [VVal.under, VVal.underL, *]) : fnK S fn H R ex env (B ++ L) := YA hx hv hB hu h
theorem hset_spec {x : SW} (H : Zf) (w : BitVec 64) : F (psys x) 145 [iW w] H fun v G => v = .agg [iW w] ∧ G = H := by
 refine Zq Tryd.func145 rfl u6 rfl ?_
 refine Zd (Za ?_)
 refine Lo u6 (ZR rfl rfl) ?_
 refine Ze (Zc (Zd (Za ?_)))
 refine Lo u6 (rfl) ?_
 refine Lo u6 (Zb (.inl rfl) rfl) ?_
 refine Zp rfl rfl rfl (by exact Of_spec _ 0#64 _) ?_
 rintro _ _ ⟨rfl, rfl⟩
 refine Le u6 ?_
 refine Lo u6 (W13 rfl rfl rfl rfl rfl rfl rfl) ?_
 refine Ze (Zc (Zl ?_))
 refine W10 (.inr rfl) (YG rfl rfl rfl rfl XH0 XH3) ?_
 exact ⟨rfl, rfl⟩
theorem hgrow_in {x : SW} {p q y n : Nat} {rows : List (BitVec 64)} (ih : ∀ (H : Zf) (row : Int) (O : List Int) (S : BitVec 64) (g : Gz), Apart3 H p q y → H[p]? = some (hmB y rows O) → H[q]? = some (hsB S) → H[y]? = some (gaB (gw g S)) → 0 ≤ row → row < rows.length → Gok rows O → 64 - Yz 64 S < n → F (psys x) 119 [.ptr (some (p, 0)), iI row, .ptr (some (q, 0))] H fun v G => v = .bool (grw rows n row (O, S)).1 ∧ G = htH H p q y rows (grw rows n row (O, S)).2 (gw g (grw rows n row (O, S)).2.2)) {H L : Zf} (a : Apart3 H p q y) (t : GSt) (g : Gz) (row : Int) (h0 : 0 ≤ row) (h1 : row < rows.length) (hk : Gok rows t.1) (hm : 64 - Yz 64 t.2 < n) :
    F (psys x) 119 [.ptr (some (p, 0)), iI row, .ptr (some (q, 0))] (htH H p q y rows t (gw g t.2) ++ L) fun v G => v = .bool (grw rows n row t).1 ∧ G = htH H p q y rows (grw rows n row t).2 (gw g (grw rows n row t).2.2) ++ L := by
  have := ih (htH H p q y rows t (gw g t.2) ++ L) row t.1 t.2 g (apart_app a) (ht_p a) (ht_q a) (ht_s a) h0 h1 hk hm
  rw [ht_ht a] at this
  exact this
theorem hgrow_s {x : SW} (p q y n : Nat) (rows : List (BitVec 64)) (ih : ∀ (H : Zf) (row : Int) (O : List Int) (S : BitVec 64) (g : Gz), Apart3 H p q y → H[p]? = some (hmB y rows O) → H[q]? = some (hsB S) → H[y]? = some (gaB (gw g S)) → 0 ≤ row → row < rows.length → Gok rows O → 64 - Yz 64 S < n → F (psys x) 119 [.ptr (some (p, 0)), iI row, .ptr (some (q, 0))] H fun v G => v = .bool (grw rows n row (O, S)).1 ∧ G = htH H p q y rows (grw rows n row (O, S)).2 (gw g (grw rows n row (O, S)).2.2)) (H : Zf) (hA : Apart3 H p q y) (row : Int) (O : List Int) (S : BitVec 64) (g : Gz) (hp : H[p]? = some (hmB y rows O)) (hq : H[q]? = some (hsB S)) (hs : H[y]? = some (gaB (gw g S))) (h0 : 0 ≤ row) (h1 : row < rows.length) (hO : Gok rows O) (hm : 64 - Yz 64 S < n + 1) (h62 : rows.length < 4611686018427387904) : F (psys x) 119 [.ptr (some (p, 0)), iI row, .ptr (some (q, 0))] H fun v G => v = .bool (grw rows (n + 1) row (O, S)).1 ∧ G = htH H p q y rows (grw rows (n + 1) row (O, S)).2 (gw g (grw rows (n + 1) row (O, S)).2.2) := by
 refine Zq Tryd.func119 rfl u67 rfl ?_
 refine Zd (Za ?_)
 refine Lo u67 (ZJ rfl rfl rfl) ?_
 refine Lo u67 (ZJ rfl rfl rfl) ?_
 refine Lo u67 (ZJ rfl rfl rfl) ?_
 refine Lo u67 (ZR rfl rfl) ?_
 refine Ze (Zc (Zd (Zd ?_)))
 refine ZS [0, 1, 2, 3, 4, 5, 6, 7, 8] #[0, 1, 3, 7, 0, 31, 63, 127, 255] XH7 XH7 XH7 ?_
 refine Oo u67 .look rfl (W2x rfl rfl rfl rfl) ?_
 refine Oo u67 .calm rfl (rfl) ?_
 refine Oo u67 .calm rfl (rfl) ?_
 refine Oo u67 .look rfl (W2x rfl rfl rfl rfl) ?_
 refine Oo u67 .look rfl (W2x rfl rfl rfl rfl) ?_
 refine Oo u67 .calm rfl (W18 rfl rfl rfl rfl rfl rfl rfl) ?_
 refine Oo u67 .look rfl (W2x rfl rfl rfl rfl) ?_
 refine Yj (env' := u67) rfl rfl rfl rfl rfl (by exact hset_spec _ _) XH26 rfl rfl ?_
 refine Yj (env' := u67) rfl rfl rfl rfl rfl (by exact All_spec _ _) XH26 rfl rfl ?_
 refine ZU [] XH7 (trivial) ?_
 refine Zc (Zi ?_)
 refine Zt (mk 67 147573952589676347271) (env' := u67) rfl ?_
 refine B_rangeM cI (pl (rows.getD row.toNat 0) 0) (fun l0 h => by cases h) rfl (fun l G R h => All1_spec _ _ _ _ h) (σ := GSt × Bool) (fun k s => htH H p q y rows s.1 (gw g (s.1).2) ++ [.cells [.ptr (some (p, 0))] true, .cells [iI row] true, .cells [.ptr (some (q, 0))] true, .cells [.bool s.2] true, k]) ((O, S), false) (fun k => by show _ = htH H p q y rows (O, S) (gw g S) ++ _; rw [htH_id hp hq hs, List.append_assoc]; rfl) (fun k s => by rw [List.length_append]; exact ZL (YP rfl) rfl) (fun k k1 s => by rw [List.length_append]; exact ZO (YP rfl)) (fun pre s => ∃ z, (pl (rows.getD row.toNat 0) 0) = pre ++ z ∧ grL (grw rows n) row (pl (rows.getD row.toNat 0) 0) (O, S) = grL (grw rows n) row z s.1 ∧ s.1.1 = O ∧ 64 - Yz 64 s.1.2 ≤ n ∧ s.2 = false) ?_ (fun j pre c s => (j = Code.ret ∧ (grL (grw rows n) row (pl (rows.getD row.toNat 0) 0) (O, S) = (true, s.1) ∧ s.2 = true))) rfl ?_ ?_ ?_
 ·exact ⟨_, rfl, rfl, rfl, by show 64 - Yz 64 S ≤ n; omega, rfl⟩
 ·intro pre c post s hx hI kr kb hkr hkb
  obtain ⟨s1, res⟩ := s
  try dsimp only at hI ⊢
  obtain ⟨z, hz, hg, hO1, hcm, hres⟩ := hI
  have hres : res = false := hres
  subst hres
  obtain rfl : z = c :: post := List.append_cancel_left (hz.symm.trans hx)
  have hO1 : s1.1 = O := hO1
  have hcm : 64 - Yz 64 s1.2 ≤ n := hcm
  have hg : grL (grw rows n) row (pl (rows.getD row.toNat 0) 0) (O, S) = grL (grw rows n) row (c :: post) s1 := hg
  have hcx : c ∈ (pl (rows.getD row.toNat 0) 0) := by rw [hx]; simp
  obtain ⟨_, hc64, _⟩ := mem_pl.1 hcx
  have hk1 : Gok rows s1.1 := by rw [hO1]; exact hO
  have hl1 : s1.1.length = 64 := hk1.len
  have hnn1 := hk1.nn c hc64
  refine ZM (env' := u67) rfl ?_
  refine Za ?_
  refine Lo u67 (Zb (.inr rfl) rfl) ?_
  refine Ze ?_
  refine ⟨rfl, (s1, false), rfl, ?_⟩
  try dsimp only
  refine Zi (Zd (Zd (Za ?_)))
  refine Lo u67 (W2z rfl rfl rfl rfl) ?_
  refine Lo u67 (rfl) ?_
  refine Lo u67 (W30 rfl rfl rfl rfl) ?_
  refine Zp rfl rfl rfl (by exact hset_spec _ _) ?_
  rintro _ _ ⟨rfl, rfl⟩
  refine Le u67 ?_
  refine Lo u67 (Zb (.inl rfl) rfl) ?_
  refine Zp rfl rfl rfl (by exact Has_spec _ _ _) ?_
  rintro v _ ⟨hv, rfl⟩; obtain rfl : v = .bool (s1.2.getLsbD c) := hv.trans (by rw [decide_eq_true ⟨Int.natCast_nonneg c, by omega⟩, Bool.true_and]; rfl)
  refine Le u67 ?_
  refine Ze (Zc ?_)
  refine Zk _ rfl (fun hc1 => ?_) (fun hc1 => ?_)
  ·try simp only [qB] at hc1
   refine ZB (ZD (ZA ?_))
   have hseen : s1.2.getLsbD c = true := by assumption
   refine ⟨(s1, false), rfl, .inl ⟨rfl, ?_⟩⟩
   exact ⟨post, by rw [hx, List.append_assoc]; rfl, by rw [hg, grL, if_pos hseen], hO1, hcm, rfl⟩
  ·try simp only [qB] at hc1
   refine Zj (Zc (Zd (Za ?_)))
   have hnseen : ¬ s1.2.getLsbD c = true := nof (by assumption)
   have hcg := come_grow (s := s1.2) (t := s1.2 ||| 1#64 <<< c) (fun a ha => (or1 hc64).2 (.inl ha)) ⟨c, (or1 hc64).2 (.inr rfl), bool_f hnseen⟩
   have hcl := come_le (s1.2 ||| 1#64 <<< c)
   refine Lo u67 (W2z rfl rfl rfl rfl) ?_
   refine Lo u67 (rfl) ?_
   refine Lo u67 (rfl) ?_
   refine Lo u67 (W2x rfl rfl rfl rfl) ?_
   refine Lo u67 (rfl) ?_
   refine Lo u67 (rfl) ?_
   refine Lo u67 (W30 rfl rfl rfl rfl) ?_
   refine Lo u67 (v_addW (b := 1#64) rfl rfl rfl) ?_
   refine Lo u67 (rfl) ?_
   refine Lo u67 (rfl) ?_
   refine Lo u67 (W31 rfl rfl rfl rfl rfl rfl rfl) ?_
   refine Ze (Zc (Zd ?_))
   refine ZS [0, 1, 2, 3, 4, 5, 6, 7] #[0, 1, 3, 0, 8, 31, 63, 127] XH7 XH7 XH7 ?_
   refine Oo u67 .look rfl (W2z rfl rfl rfl rfl) ?_
   refine Oo u67 .calm rfl (rfl) ?_
   refine Oo u67 .look rfl (W2x rfl rfl rfl rfl) ?_
   refine Oo u67 .calm rfl (Zb (.inl rfl) rfl) ?_
   refine Oo u67 .calm rfl (v_shl1 rfl rfl rfl XH2) ?_
   refine Oo u67 .calm rfl (v_orW rfl rfl rfl) ?_
   refine Oo u67 .calm rfl (rfl) ?_
   refine Oo u67 .turn rfl (W32 rfl rfl rfl rfl rfl rfl rfl) ?_
   refine ZU [] XH7 (trivial) ?_
   refine Zc (Zd ?_)
   rw [come_one hc64 (bool_f hnseen) g]
   refine ZS [0, 1, 2, 3, 4, 5, 6, 7, 8, 9, 10, 11, 12, 13, 14, 15, 16, 17, 18] #[0, 0, 1, 5, 15, 31, 63, 127, 255, 255, 255, 767, 2815, 7935, 16127, 32511, 255, 131071, 262143] XH7 XH7 XH7 ?_
   refine Oo u67 .look rfl (W2z rfl rfl rfl rfl) ?_
   refine Oo u67 .calm rfl (Zb (.inl rfl) rfl) ?_
   refine Oo u67 .calm rfl (rfl) ?_
   refine Oo u67 .calm rfl (rfl) ?_
   refine Oo u67 .calm rfl XH39 ?_
   refine Oo u67 .look rfl (W33 rfl rfl rfl rfl) ?_
   refine Oo u67 .calm rfl (rfl) ?_
   refine Oo u67 .calm rfl (Zb (.inl rfl) rfl) ?_
   refine O_split 48 (env1 := u67) (env2 := u67) rfl rfl rfl (fun hg2 => ?_) (fun hg2 => ?_)
   ·try simp only [qB] at hg2
    refine Of u67 rfl ?_
    refine Of u67 rfl ?_
    refine Of u67 rfl ?_
    refine Of u67 rfl ?_
    refine Of u67 rfl ?_
    refine Of u67 rfl ?_
    refine Of u67 rfl ?_
    refine Of u67 rfl ?_
    refine Of u67 rfl ?_
    refine Of u67 rfl ?_
    refine Oo u67 .calm rfl (ZK (VVal.bool true) rfl rfl rfl) ?_
    refine ZU [] XH7 (trivial) ?_
    refine Zc ?_
    refine ZP rfl rfl ?_
    refine Zd ?_
    refine ZS [0, 1, 2, 3, 4, 5, 6, 7] #[0, 0, 0, 4, 1, 17, 63, 127] XH7 XH7 XH7 ?_
    refine Oo u67 .look rfl (W2z rfl rfl rfl rfl) ?_
    refine Oo u67 .calm rfl (Zb (.inl rfl) rfl) ?_
    refine Oo u67 .look rfl (W2z rfl rfl rfl rfl) ?_
    refine Oo u67 .calm rfl (W14 rfl rfl rfl) ?_
    refine Oo u67 .calm rfl (rfl) ?_
    refine Oo u67 .calm rfl (rfl) ?_
    refine Oo u67 .calm rfl XH39 ?_
    refine Oo u67 .turn rfl (W35 rfl rfl rfl rfl rfl rfl rfl) ?_
    refine ZU [] XH7 (trivial) ?_
    refine Zc (Zd (Za ?_))
    refine Lo u67 (Yg (VVal.bool true) rfl rfl rfl rfl rfl rfl rfl XH24 XH6 (by exact ZO (YP rfl))) ?_
    refine Ze (Zc (Zl (ZF ?_)))
    refine ⟨(_, true), rfl, .inr ⟨Code.ret, rfl, ⟨rfl, ?_⟩⟩⟩
    first
      | exact ⟨by rw [hg, grL, if_neg hnseen, if_pos (by assumption)]; rfl, rfl⟩
      | exact ⟨by rw [hg, grL, if_neg hnseen, if_neg hno, if_pos (by assumption)]; rfl, rfl⟩
   ·try simp only [qB] at hg2
    have hno : ¬ s1.1.getD c 0 = 0 := by assumption
    have hgr := grw_ok (rows := rows) (n := n) (row := s1.1.getD c 0 - 1) (s := (s1.1, s1.2 ||| 1#64 <<< c)) (by omega) (by omega) hk1 XH34
    refine Oo u67 .look rfl (W2z rfl rfl rfl rfl) ?_
    refine Oo u67 .look rfl (W2z rfl rfl rfl rfl) ?_
    refine Oo u67 .calm rfl (Zb (.inl rfl) rfl) ?_
    refine Oo u67 .calm rfl (rfl) ?_
    refine Oo u67 .calm rfl (rfl) ?_
    refine Oo u67 .calm rfl XH39 ?_
    refine Oo u67 .look rfl (W33 rfl rfl rfl rfl) ?_
    refine Oo u67 .calm rfl (W1y rfl rfl rfl) ?_
    refine Oo u67 .look rfl (W2z rfl rfl rfl rfl) ?_
    refine Yj (env' := u67) rfl rfl rfl rfl rfl (by exact hgrow_in ih hA (s1.1, s1.2 ||| 1#64 <<< c) g _ (show (0 : Int) ≤ s1.1.getD c 0 - 1 by omega) (show s1.1.getD c 0 - 1 < (rows.length : Int) by omega) hk1 XH34) XH26 rfl rfl ?_
    refine Oo u67 .calm rfl (ZT rfl rfl rfl) ?_
    refine ZU [] XH7 (trivial) ?_
    refine Zc ?_
    refine Zk _ rfl (fun hc3 => ?_) (fun hc3 => ?_)
    ·try simp only [qB] at hc3
     refine Zd ?_
     refine ZS [0, 1, 2, 3, 4, 5, 6, 7] #[0, 0, 0, 4, 1, 17, 63, 127] XH7 XH7 XH7 ?_
     refine Oo u67 .look rfl (W2z rfl rfl rfl rfl) ?_
     refine Oo u67 .calm rfl (Zb (.inl rfl) rfl) ?_
     refine Oo u67 .look rfl (W2z rfl rfl rfl rfl) ?_
     refine Oo u67 .calm rfl (W14 rfl rfl rfl) ?_
     refine Oo u67 .calm rfl (rfl) ?_
     refine Oo u67 .calm rfl (rfl) ?_
     refine Oo u67 .calm rfl XH39 ?_
     refine Oo u67 .turn rfl (W35 rfl rfl rfl rfl rfl rfl rfl) ?_
     refine ZU [] XH7 (trivial) ?_
     refine Zc (Zd (Za ?_))
     refine Lo u67 (Yg (VVal.bool true) rfl rfl rfl rfl rfl rfl rfl XH24 XH6 (by exact ZO (YP rfl))) ?_
     refine Ze (Zc (Zl (ZF ?_)))
     refine ⟨(_, true), rfl, .inr ⟨Code.ret, rfl, ⟨rfl, ?_⟩⟩⟩
     first
       | exact ⟨by rw [hg, grL, if_neg hnseen, if_pos (by assumption)]; rfl, rfl⟩
       | exact ⟨by rw [hg, grL, if_neg hnseen, if_neg hno, if_pos (by assumption)]; rfl, rfl⟩
    ·try simp only [qB] at hc3
     refine Zj (Zs ?_)
     have hcg2 : Yz 64 (s1.2 ||| 1#64 <<< c) ≤ Yz 64 (grw rows n (s1.1.getD c 0 - 1) (s1.1, s1.2 ||| 1#64 <<< c)).2.2 := come_le2 hgr.sub
     refine ⟨(_, false), rfl, .inl ⟨rfl, ?_⟩⟩
     exact ⟨post, by rw [hx, List.append_assoc]; rfl, by rw [hg, grL, if_neg hnseen, if_neg hno, if_neg (nof (by assumption))]; rfl, ((hgr.no (by assumption)).1).trans hO1, (by show 64 - Yz 64 (grw rows n (s1.1.getD c 0 - 1) (s1.1, s1.2 ||| 1#64 <<< c)).2.2 ≤ n; omega), rfl⟩
 ·intro s k hk hI
  obtain ⟨s1, res⟩ := s
  try dsimp only at hI ⊢
  obtain ⟨z, hz, hg, hO1, hcm, hres⟩ := hI
  have hres : res = false := hres
  subst hres
  obtain rfl : z = [] := by simpa using hz
  refine Zs (Zc (Zd (Za ?_)))
  refine Lo u67 (Yg (VVal.bool false) rfl rfl rfl rfl rfl rfl rfl XH24 XH6 (by exact ZO (YP rfl))) ?_
  refine Ze (Zc (Zl ?_))
  refine W37 (.inr rfl) (vres_cell rfl rfl rfl rfl (by exact ZL (YP rfl) rfl) (by first | rfl | assumption | exact hown_cell (by omega) | exact hgp_cell hl1 | exact fget (α := BitVec 64) 0 (by omega))) ?_
  exact ⟨by rw [show grw rows (n + 1) row (O, S) = (false, s1) from grw_all.trans hg], by rw [show grw rows (n + 1) row (O, S) = (false, s1) from grw_all.trans hg]⟩
 ·rintro j pre c post s k hk hx (⟨rfl, hX⟩)
  obtain ⟨s1, res⟩ := s
  try dsimp only
  obtain ⟨hX1, hX2⟩ := hX
  have hX2 : res = true := hX2
  subst hX2
  refine J_ret ?_
  refine ZF (Zm ?_)
  refine W37 (.inr rfl) (vres_cell rfl rfl rfl rfl (by exact ZL (YP rfl) rfl) (by first | rfl | assumption | exact hown_cell (by omega) | exact hgp_cell hl1 | exact fget (α := BitVec 64) 0 (by omega))) ?_
  exact ⟨by rw [show grw rows (n + 1) row (O, S) = (true, s1) from grw_all.trans hX1], by rw [show grw rows (n + 1) row (O, S) = (true, s1) from grw_all.trans hX1]⟩
abbrev u51 {a0 a1 a2 a3 a4 a5 a6 a7 a8 a9 a10 a11 a12 a13 a14 a15 a16 a17 a18 a19 a20 a21 a22 a23 a24 a25 a26 a27 a28 a29 a30 a31 a32 a33 a34 a35 a36 a37 a38 a39 a40 a41 a42 a43 a44 a45 a46 a47 a48 a49 a50 : VVal} : VEnv := a0 :: a1 :: a2 :: a3 :: a4 :: a5 :: a6 :: a7 :: a8 :: a9 :: a10 :: a11 :: a12 :: a13 :: a14 :: a15 :: a16 :: a17 :: a18 :: a19 :: a20 :: a21 :: a22 :: a23 :: a24 :: a25 :: a26 :: a27 :: a28 :: a29 :: a30 :: a31 :: a32 :: a33 :: a34 :: a35 :: a36 :: a37 :: a38 :: a39 :: a40 :: a41 :: a42 :: a43 :: a44 :: a45 :: a46 :: a47 :: a48 :: a49 :: a50 :: []
theorem W3a {T : TypeId → Option VTy} {H : Zf} {op : Op} {ρ : Operand → VVal} {t : TypeId} {a : Operand} {y : VTy} {p v : VVal} (ho : op = .load t a) (ha : ρ a = p) (hy : T t = some y) (hd : Zo y.desc = false) (h : LdOk H p v := by first | exact .inl ⟨_, _, rfl, by first | exact fget0 (α := BitVec 64) 0 (by rw [mkT_len]; omega) | rfl⟩ | exact .inr ⟨_, _, _, _, rfl, XH43, by first | exact fget0 (α := BitVec 64) 0 (by rw [mkT_len]; omega) | rfl⟩) : vop T ρ H op = some (v, H) := v_ld ho ha hy hd h
theorem W3c {T : TypeId → Option VTy} {H : Zf} {op : Op} {ρ : VEnv} {H' : Zf} {t : TypeId} {a : Operand} {i : Nat} {v : VVal} {y : VTy} {b off : Nat} {cs new : List VVal} (ho : op = .store t a (.tmp i)) (hv : ρ[i]? = some v) (ha : ρ.eval a = .ptr (some (b, off))) (hy : T t = some y) (hx : v.cells = some new) (hn : new.length = y.size) (h1 : new.all VVal.one = true) (hb : H[b]? = some (.cells cs true) := by exact XH43) (hl : off + new.length ≤ cs.length := by show 0 + (k : Int).toNat * 1 + 1 ≤ _; rw [List.length_map, mkT_len]; omega) (hH : H.set b (.cells (ZH cs off new) true) = H' := by exact (ZO rfl).trans (by show H ++ [VBlk.cells (ZH (List.map iW (mkT l t k)) (0 + (k : Int).toNat * 1) [_]) true, _] = _; rw [spl_w (by rw [mkT_len]; omega)])) : vop T ρ.eval H op = some (.skip, H') := Z0 ho hv ha hy hx hn h1 hb hl hH
theorem W3e {S : V.Sys} {H : Zf} {fn : Func} {ex : Exit} {env : VEnv} {B L : Zf} {v : VVal} {R : VVal → Zf → Prop} (hx : ex = .normal ∨ ex = .ret) (hv : ZV S.C.T env (B ++ L) fn.results = some v) (h : R v B) (hB : BaseOk H B := by exact BaseOk.set (BaseOk.refl _) _ rfl) (hu : v.under H.length = true := by first | rfl | simp [VVal.under, VVal.underL, *]) : fnK S fn H R ex env (B ++ L) := YA hx hv hB hu h
theorem W3f {P : Prop} (h : P := by first | exact ⟨by rw [(full_no (by omega) hz (by assumption)).1], by rw [show fuG l t = ⟨0, 0, edN (msk l t) (k + 1)⟩ from congrArg (Gz.mk 0 0) (full_no (by omega) hz (by assumption)).2]⟩ | (obtain rfl : k = l.length := by omega); exact ⟨by rw [full_yes hz], rfl⟩) : P := h
theorem hgrow_spec {x : SW} (p q y : Nat) (rows : List (BitVec 64)) (h62 : rows.length < 4611686018427387904) : ∀ (n : Nat) (H : Zf) (row : Int) (O : List Int) (S : BitVec 64) (g : Gz), Apart3 H p q y → H[p]? = some (hmB y rows O) → H[q]? = some (hsB S) → H[y]? = some (gaB (gw g S)) → 0 ≤ row → row < rows.length → Gok rows O → 64 - Yz 64 S < n → F (psys x) 119 [.ptr (some (p, 0)), iI row, .ptr (some (q, 0))] H fun v G => v = .bool (grw rows n row (O, S)).1 ∧ G = htH H p q y rows (grw rows n row (O, S)).2 (gw g (grw rows n row (O, S)).2.2)
  | 0, _, _, _, _, _, _, _, _, _, _, _, _, h => absurd h (by omega)
  | n + 1, H, row, O, S, g, a, hp, hq, hs, h0, h1, hO, hm => hgrow_s p q y n rows (fun H row O S g a b c d e f h i => hgrow_spec p q y rows h62 n H row O S g a b c d e f h i) H a row O S g hp hq hs h0 h1 hO hm h62
theorem gw_0 (g : Gz) : gw g 0#64 = g := by unfold gw; rw [come_0]; rfl
theorem gw_ed {rows : List (BitVec 64)} {k : Nat} {g : Gz} (h : (szO rows k).2 = k) : gw (g + ⟨0, 0, edN rows k⟩) (grw rows 65 k ((szO rows k).1, 0#64)).2.2 = g + ⟨0, 0, edN rows (k + 1)⟩ := by
  rw [edN_yes h]; exact Gz.ext' rfl rfl (Nat.add_assoc _ _ _)
theorem hgrow_at {x : SW} {H : Zf} {y p q : Nat} (hp : p = H.length + 1) (hq : q = H.length + 2) (g : Gz) (hy : y < H.length) (rows : List (BitVec 64)) (O : List Int) (row : Int) (h0 : 0 ≤ row) (h1 : row < rows.length) (hO : Gok rows O) (h62 : rows.length < 4611686018427387904) : F (psys x) 119 [.ptr (some (p, 0)), iI row, .ptr (some (q, 0))] (H.set y (gaB g) ++ [.dead, hmB y rows O, hsB 0#64]) fun v G => v = .bool (grw rows 65 row (O, 0#64)).1 ∧ G = H.set y (gaB (gw g (grw rows 65 row (O, 0#64)).2.2)) ++ [.dead, hmB y rows (grw rows 65 row (O, 0#64)).2.1, hsB (grw rows 65 row (O, 0#64)).2.2] := by
  subst hp hq
  have := hgrow_spec (x := x) (H.length + 1) (H.length + 2) y rows h62 65 (H.set y (gaB g) ++ [.dead, hmB y rows O, hsB 0#64]) row O 0#64 g ⟨by simp, by simp, by simp; omega, by omega, by omega, by omega⟩ (ZL (List.length_set) rfl) (ZL (List.length_set) rfl) (by rw [gw_0]; exact get_out (List.getElem?_set_self hy)) h0 h1 hO (by rw [come_0]; omega)
  unfold htH at this
  rw [ZO (List.length_set), ZO (List.length_set), Yx (by rw [List.length_set]; exact hy), List.set_set] at this
  exact this
theorem hmB_under {n y : Nat} {rows : List (BitVec 64)} {O : List Int} (h : y < n) : (hmB y rows O).under n = true := by
  show VVal.underL n (fzW rows :: (O.map iI ++ [.ptr (some (y, 0))])) = true
  have h1 : VVal.underL n (O.map iI ++ [.ptr (some (y, 0))]) = true := VVal.underL_app (VVal.underL_map fun _ => rfl) (by simp [VVal.underL, VVal.under, h])
  simp only [VVal.underL, h1, Bool.and_true]
  exact VVal.underL_map fun _ => rfl
theorem wApp_c {l : List (BitVec 64)} : Zx (l.map iW) 0 (l.length * 1) = some (l.map iW) := by
  unfold Zx; rw [if_pos XH20, List.drop_zero, List.take_of_length_le XH20]
theorem spl_w {l : List (BitVec 64)} {k : Nat} {w : BitVec 64} (h : k < l.length) : ZH (l.map iW) (0 + k * 1) [iW w] = (l.set k w).map iW := by
  rw [show 0 + k * 1 = k by omega]
  unfold ZH
  rw [List.map_set, List.set_eq_take_append_cons_drop, if_pos (by rw [List.length_map]; exact h)]; simp
section
variable {T : TypeId → Option VTy} {ρ : Operand → VVal} {H : Zf} {op : Op}
theorem v_eqNilC {t : TypeId} {x y : Operand} {ty : TypeId} {cs : List VVal} {len es : Nat} {ex : Bool} {i : VTy} {e : TypeId} (ho : op = .binOp .eql t x y ty) (hx : ρ x = .fsl cs len es ex) (hy : ρ y = .slice none 0 0 true 0) (hT : T t = some i) (hd : i.desc = .slice e) (hl : len ≠ 0) : vop T ρ H op = some (.bool false, H) := by
  rw [ho]; simp [vop, vbin, hx, hy, veq, hT, hd, hl]
end
theorem CloW_nil {x : SW} (H : Zf) : F (psys x) 99 [.slice none 0 0 true 0] H fun v G => v = .fsl [] 0 1 false ∧ G = H := by
 refine Zq Tryd.func99 rfl u8 rfl ?_
 refine Zd (Za ?_)
 refine Lo u8 (Zg (VVal.slice none 0 0 true 0) (.inr rfl) rfl) ?_
 refine Ze (Zc (Zd (Zd (Za ?_))))
 refine Lo u8 (Zb (.inl rfl) rfl) ?_
 refine Lo u8 (rfl) ?_
 refine Ze (Zc ?_)
 refine ZP rfl rfl ?_
 refine Zd (Za ?_)
 refine Lo u8 (Zg (VVal.slice none 0 0 true 0) (.inr rfl) rfl) ?_
 refine Ze (Zc (Zl (Zm ?_)))
 refine E_gh (.inr rfl) (Zh rfl rfl) (Gh.ansLV (BaseOk.refl _) (LV.nil H.length 1 []) rfl) ?_
 exact ⟨rfl, rfl⟩
theorem CloW_emp {x : SW} (H : Zf) : F (psys x) 99 [.slice none 0 0 false 0] H fun v G => v = .fsl [] 0 1 false ∧ G = H := by
 refine Zq Tryd.func99 rfl u8 rfl ?_
 refine Zd (Za ?_)
 refine Lo u8 (Zg (VVal.slice none 0 0 true 0) (.inr rfl) rfl) ?_
 refine Ze (Zc (Zd (Zd (Za ?_))))
 refine Lo u8 (Zb (.inl rfl) rfl) ?_
 refine Lo u8 (rfl) ?_
 refine Ze (Zc ?_)
 refine Yi rfl rfl ?_
 refine Zj (Zc (Zd (Za ?_)))
 refine Lo u8 (Zz rfl rfl (by decide) rfl) ?_
 refine Lo u8 (Zb (.inl rfl) rfl) ?_
 refine Lo u8 (v_appIn rfl rfl rfl rfl rfl rfl rfl (ZL rfl rfl) rfl rfl rfl rfl (by decide) (by decide) (by decide)) ?_
 refine L_heap (H' := H ++ [.cells [] true]) (by rw [ZO rfl]; rfl) ?_
 refine Lo u8 (Zb (.inr rfl) rfl) ?_
 refine Ze (Zc (Zl ?_))
 refine E_gh (.inr rfl) (Zh rfl rfl) (Gh.fsl (j := 0) (off := 0) (len := 0) (l := []) (BaseOk.refl _) rfl rfl (Nat.le_refl _) rfl) ?_
 exact ⟨rfl, rfl⟩
theorem CloW_c {x : SW} (H : Zf) (l : List (BitVec 64)) (hne : l ≠ []) (hl : l.length ≤ 1000000) : F (psys x) 99 [fzW l] H fun v G => v = .slice (some (H.length, 0)) l.length l.length (decide (l.length = 0)) 1 ∧ G = H ++ [.cells (l.map iW) true] := by
 refine Zq Tryd.func99 rfl u8 rfl ?_
 refine Zd (Za ?_)
 refine Lo u8 (Zg (VVal.slice none 0 0 true 0) (.inr rfl) rfl) ?_
 refine Ze (Zc (Zd (Zd (Za ?_))))
 refine Lo u8 (Zb (.inl rfl) rfl) ?_
 refine Lo u8 (v_eqNilC rfl rfl rfl rfl rfl (fun e => hne (List.eq_nil_of_length_eq_zero e))) ?_
 refine Ze (Zc ?_)
 refine Yi rfl rfl ?_
 refine Zj (Zc (Zd (Za ?_)))
 refine Lo u8 (Zz rfl rfl (by decide) rfl) ?_
 refine Lo u8 (Zb (.inl rfl) rfl) ?_
 refine L_opX rfl rfl (v_appE rfl rfl rfl rfl rfl rfl rfl rfl XH28 (mapW_one _) (by decide) (by show l.length * 8 ≤ _ ∧ l.length ≤ _; omega)) ?_
 rintro _ _ ⟨Z, i, rfl, rfl, hi⟩
 refine Le u8 ?_
 refine Lo u8 (Zb (.inr rfl) rfl) ?_
 refine Ze (Zc (Zl ?_))
 refine E_gh (.inr rfl) (Zh rfl rfl) (Gh.pack (BaseOk.refl _) hi (YC _ _)) ?_
 exact ⟨rfl, rfl⟩
theorem CloW_0 {x : SW} (H : Zf) : F (psys x) 99 [fzW []] H fun v G => v = .fsl [] 0 1 false ∧ G = H := F_split0 (CloW_nil H) (CloW_emp H)
theorem CloW_L {x : SW} (H L : Zf) (l : List (BitVec 64)) (hne : l ≠ []) (hl : l.length ≤ 1000000) : F (psys x) 99 [fzW l] (H ++ L) fun v G => v = .slice (some (H.length + L.length, 0)) l.length l.length (decide (l.length = 0)) 1 ∧ G = H ++ (L ++ [.cells (l.map iW) true]) := by
  have := CloW_c (x := x) (H ++ L) l hne hl
  rw [List.length_append, List.append_assoc] at this
  exact this
abbrev huC (u : Int) (ws rs : VVal) (y : Nat) : List VVal := [iI u, ws, rs, .ptr (some (y, 0))]
abbrev huP (u : Int) (ws rs : VVal) (y : Nat) : VVal := .fptr (huC u ws rs y) 0
theorem hfull_0 {x : SW} {u : Int} {ws rs : VVal} (H : Zf) (y : Nat) (g : Gz) (hs : H[y]? = some (gaB g)) (t : BitVec 64) : F (psys x) 87 [huP u ws rs y, fzW [], iW t] H fun v G => v = .bool (Yp [] t) ∧ G = H := by
 refine Zq Tryd.func87 rfl u51 rfl ?_
 refine Zd (Za ?_)
 refine Lo u51 (Zg (VVal.bool false) (.inr rfl) rfl) ?_
 refine Ze (Zc (Zd ?_))
 refine ZS [0, 2, 3, 4, 5, 1, 6, 7, 8] #[0, 1, 0, 4, 12, 28, 63, 127, 255] XH7 XH7 XH7 ?_
 refine Oo u51 .calm rfl (Zb (.inl rfl) rfl) ?_
 refine Oo u51 .calm rfl (Zb (.inl rfl) rfl) ?_
 refine Oo u51 .calm rfl (rfl) ?_
 refine Oo u51 .calm rfl (rfl) ?_
 refine Yn (env' := u51) (x := .look _ _) rfl rfl rfl (W12 rfl rfl rfl rfl) rfl rfl rfl ?_
 refine Yj (env' := u51) rfl rfl rfl rfl rfl (by exact CloW_0 _) XH9 rfl rfl ?_
 refine Oo u51 .calm rfl (rfl) ?_
 refine Oo u51 .grow rfl (ZJ rfl rfl rfl) ?_
 refine Oo u51 .calm rfl (Zb (.inr rfl) rfl) ?_
 refine ZU [_] (by rfl) (And.intro (And.intro (W12 rfl rfl rfl rfl) (W12 rfl rfl rfl rfl)) trivial) ?_
 refine Zc (Zd (Zd (Za ?_)))
 refine Lo u51 (Zb (.inl rfl) rfl) ?_
 refine Lo u51 (rfl) ?_
 refine Lo u51 (rfl) ?_
 refine Lo u51 (W12 rfl rfl rfl rfl) ?_
 refine Lo u51 (rfl) ?_
 refine Lo u51 (Zg (VVal.int .i64 0) (.inl rfl) rfl) ?_
 refine Ze (Zc (Zi ?_))
 refine Zt (mk 51 2251799788519291) (env' := u51) rfl ?_
 refine Zy (fun (k : Nat) => 0) (fun (k : Nat) => [(24, iI (k : Nat))]) (fun (k : Nat) G => (k = 0) ∧ G = H ++ [hmB y [] (szO [] 0).1]) 0 rfl ?_ ?_
 ·refine ⟨?_, rfl⟩
  trivial
 rintro k _ ⟨_, rfl⟩
 refine ZM (env' := u51) rfl ?_
 refine Zd (Za ?_)
 refine Lo u51 (rfl) ?_
 refine Ze (Zc (Zd ?_))
 refine Zk _ rfl (fun hc1 => ?_) (fun hc1 => ?_)
 ·try simp only [qB] at hc1
  exfalso; try simp only [List.length_nil] at *
  omega
 ·try simp only [qB] at hc1
  refine ZB (ZD (Zv (ZA (Zc (Zd (Zd (Za ?_)))))))
  refine Lo u51 (Zb (.inl rfl) rfl) ?_
  refine Lo u51 (rfl) ?_
  refine Lo u51 (rfl) ?_
  refine Lo u51 (W12 rfl rfl rfl rfl) ?_
  refine Lo u51 (rfl) ?_
  refine Lo u51 (Zg (VVal.int .i64 0) (.inl rfl) rfl) ?_
  refine Ze (Zc (Zi ?_))
  refine Zt (mk 51 2238605674151807) (env' := u51) rfl ?_
  refine Zy (fun (k : Nat) => 0) (fun (k : Nat) => [(43, iI (k : Nat))]) (fun (k : Nat) G => (k = 0) ∧ G = H ++ [hmB y [] (szO [] 0).1]) 0 rfl ?_ ?_
  ·refine ⟨?_, rfl⟩
   trivial
  rintro k _ ⟨_, rfl⟩
  refine ZM (env' := u51) rfl ?_
  refine Zd (Za ?_)
  refine Lo u51 (rfl) ?_
  refine Ze (Zc (Zd ?_))
  refine Zk _ rfl (fun hc2 => ?_) (fun hc2 => ?_)
  ·try simp only [qB] at hc2
   exfalso; try simp only [List.length_nil] at *
   omega
  ·try simp only [qB] at hc2
   refine ZB (ZD (Zv (ZA (Zc (Zd (Za ?_))))))
   refine Lo u51 (Zg (VVal.bool true) (.inr rfl) rfl) ?_
   refine Ze (Zc (Zl ?_))
   refine W10 (.inr rfl) (Zh rfl rfl) ?_
   exact ⟨rfl, rfl⟩
theorem hfull_c {x : SW} {u : Int} {ws rs : VVal} (H : Zf) (y : Nat) (g : Gz) (hs : H[y]? = some (gaB g)) (l : List (BitVec 64)) (t : BitVec 64) (hne : l ≠ []) (hl : l.length ≤ 1000000) : F (psys x) 87 [huP u ws rs y, fzW l, iW t] H fun v G => v = .bool (Yp l t) ∧ G = H.set y (gaB (g + fuG l t)) := by
 have hy := ZY hs
 refine Zq Tryd.func87 rfl u51 rfl ?_
 refine Zd (Za ?_)
 refine Lo u51 (Zg (VVal.bool false) (.inr rfl) rfl) ?_
 refine Ze (Zc (Zd ?_))
 refine ZS [0, 2, 3, 4, 5, 1, 6, 7, 8] #[0, 1, 0, 4, 12, 28, 63, 127, 255] XH7 XH7 XH7 ?_
 refine Oo u51 .calm rfl (Zb (.inl rfl) rfl) ?_
 refine Oo u51 .calm rfl (Zb (.inl rfl) rfl) ?_
 refine Oo u51 .calm rfl (rfl) ?_
 refine Oo u51 .calm rfl (rfl) ?_
 refine Yn (env' := u51) (x := .look _ _) rfl rfl rfl (W3a rfl rfl rfl rfl) rfl rfl rfl ?_
 refine Yj (env' := u51) rfl rfl rfl rfl rfl (by exact CloW_L _ _ _ hne hl) XH9 rfl rfl ?_
 refine Oo u51 .calm rfl (rfl) ?_
 refine Oo u51 .grow rfl (ZJ rfl rfl rfl) ?_
 refine Oo u51 .calm rfl (Zb (.inr rfl) rfl) ?_
 refine ZU [_] (by rfl) (And.intro (And.intro (W3a rfl rfl rfl rfl) (W3a rfl rfl rfl rfl)) trivial) ?_
 refine Zc (Zd (Zd (Za ?_)))
 refine Lo u51 (Zb (.inl rfl) rfl) ?_
 refine Lo u51 (rfl) ?_
 refine Lo u51 (rfl) ?_
 refine Lo u51 (W3a rfl rfl rfl rfl) ?_
 refine Lo u51 (rfl) ?_
 refine Lo u51 (Zg (VVal.int .i64 0) (.inl rfl) rfl) ?_
 refine Ze (Zc (Zi ?_))
 refine Zt (mk 51 2251799788519291) (env' := u51) rfl ?_
 refine Zy (fun (k : Nat) => l.length - k) (fun (k : Nat) => [(24, iI (k : Nat))]) (fun (k : Nat) G => (k ≤ l.length) ∧ G = H ++ [.cells ((mkT l t k).map iW) true, .cells (.slice (some (H.length + 0, 0)) l.length l.length (decide (l.length = 0)) 1 :: ((List.replicate 64 0).map iI ++ [.ptr (some (y, 0))])) true]) 0 rfl ?_ ?_
 ·refine ⟨?_, (by rw [mkT_0]; rfl)⟩
  exact Nat.zero_le _
 rintro k _ ⟨hk, rfl⟩
 refine ZM (env' := u51) rfl ?_
 refine Zd (Za ?_)
 refine Lo u51 (rfl) ?_
 refine Ze (Zc (Zd ?_))
 refine Zk _ rfl (fun hc1 => ?_) (fun hc1 => ?_)
 ·try simp only [qB] at hc1
  refine Zj (Zc (Zd (Zi (Zd (Za ?_)))))
  refine Lo u51 (Zb (.inl rfl) rfl) ?_
  refine Lo u51 (Zb (.inr rfl) rfl) ?_
  refine Ze (Zc (Za ?_))
  refine Lo u51 (Zb (.inl rfl) rfl) ?_
  refine Lo u51 (rfl) ?_
  refine Lo u51 (rfl) ?_
  refine Lo u51 (W3a rfl rfl rfl rfl) ?_
  refine Lo u51 (Zb (.inl rfl) rfl) ?_
  refine Lo u51 (W18 rfl rfl rfl rfl rfl rfl rfl) ?_
  refine Lo u51 (W3a rfl rfl rfl rfl) ?_
  refine Lo u51 (Zb (.inl rfl) rfl) ?_
  refine Lo u51 (v_andNotW rfl rfl rfl) ?_
  refine Lo u51 (W18 rfl rfl rfl rfl rfl rfl rfl) ?_
  refine Lo u51 (W3c rfl rfl rfl rfl rfl rfl rfl) ?_
  refine Ze (Zs (Zc (Za ?_)))
  refine Lo u51 (W14 rfl rfl rfl) ?_
  refine Lo u51 (Zb (.inl rfl) rfl) ?_
  refine Ze ?_
  have hE : (mkT l t k).set (k : Int).toNat ((mkT l t k).getD (k : Int).toNat 0 &&& ~~~t) = mkT l t (k + 1) := by rw [Int.toNat_natCast, mkT_get (by omega), mkT_set (by omega)]
  refine Zu (mk 51 2251799788519291) (env' := u51) rfl ⟨k + 1, ?_, rfl, ?_⟩
  ·first | omega | (simp only []; omega)
  ·exact ⟨by omega, by rw [← hE]⟩
 ·try simp only [qB] at hc1
  refine ZB (ZD (Zv (ZA (Zc (Zd (Zd ?_))))))
  obtain rfl : k = l.length := by omega
  rw [mkT_all]
  refine Yu (Gh.cellL (l := (msk l t).map iW) 1 0 0 rfl rfl (by decide) rfl (by rw [show l.length * 1 = (msk l t).length * 1 by rw [Ye]]; exact wApp_c) (Nat.le_refl _)) ?_
  refine Za ?_
  refine Lo u51 (Zb (.inl rfl) rfl) ?_
  refine Lo u51 (rfl) ?_
  refine Lo u51 (rfl) ?_
  refine Lo u51 (W3a rfl rfl rfl rfl) ?_
  refine Lo u51 (rfl) ?_
  refine Lo u51 (Zg (VVal.int .i64 0) (.inl rfl) rfl) ?_
  refine Ze (Zc (Zi ?_))
  refine Zt (mk 51 2238605674151807) (env' := u51) rfl ?_
  refine Zy (fun (k : Nat) => l.length - k) (fun (k : Nat) => [(43, iI (k : Nat))]) (fun (k : Nat) G => (k ≤ l.length ∧ (szO (msk l t) k).2 = k) ∧ G = H.set y (gaB (g + ⟨0, 0, edN (msk l t) k⟩)) ++ [.dead, hmB y (msk l t) (szO (msk l t) k).1]) 0 rfl ?_ ?_
  ·refine ⟨?_, (by rw [edN, show g + ⟨0, 0, 0⟩ = g from Gz.add_zero g, ← YK hs]; show H ++ [VBlk.dead, VBlk.cells (VVal.fsl ((msk l t).map iW) l.length 1 false :: _) true] = H ++ [VBlk.dead, VBlk.cells (VVal.fsl ((msk l t).map iW) (msk l t).length 1 false :: _) true]; rw [Ye]; rfl)⟩
   exact ⟨Nat.zero_le _, rfl⟩
  rintro k _ ⟨⟨hk, hz⟩, rfl⟩
  refine ZM (env' := u51) rfl ?_
  refine Zd (Za ?_)
  refine Lo u51 (rfl) ?_
  refine Ze (Zc (Zd ?_))
  refine Zk _ rfl (fun hc2 => ?_) (fun hc2 => ?_)
  ·try simp only [qB] at hc2
   refine Zj (Zc (Zd (Zi (Zd (Za ?_)))))
   refine Lo u51 (Zb (.inl rfl) rfl) ?_
   refine Lo u51 (Zb (.inr rfl) rfl) ?_
   refine Ze (Zc (Zd (Za ?_)))
   refine Lo u51 (ZR rfl rfl) ?_
   refine Lo u51 (Yg (VVal.int .u64 0) rfl rfl rfl rfl rfl rfl rfl XH0 XH6 XH1) ?_
   refine Ze (Zc (Zd (Za ?_)))
   refine Lo u51 (Zb (.inl rfl) rfl) ?_
   refine Lo u51 (Zb (.inl rfl) rfl) ?_
   refine Zp rfl rfl rfl (by exact hgrow_at (p := H.length + 1) (q := (H.set y (gaB (g + ⟨0, 0, edN (msk l t) k⟩))).length + 2) rfl (by rw [List.length_set]) (g + ⟨0, 0, edN (msk l t) k⟩) hy (msk l t) (szO (msk l t) k).1 k (by omega) (by rw [Ye]; omega) (szO_ok (by rw [Ye]; omega)) (by rw [Ye]; omega)) ?_
   rintro v _ ⟨rfl, rfl⟩; rw [gw_ed hz]
   refine Le u51 ?_
   refine Lo u51 (rfl) ?_
   refine Ze (Zc ?_)
   refine Zk _ rfl (fun hc3 => ?_) (fun hc3 => ?_)
   ·try simp only [qB] at hc3
    refine Zd (Za ?_)
    refine Lo u51 (Zg (VVal.bool false) (.inr rfl) rfl) ?_
    refine Ze (Zc (Zl (ZF (Zm (Yf (ZF (Zm ?_)))))))
    refine W3e (.inr rfl) (Zh rfl rfl) ?_
    exact W3f
   ·try simp only [qB] at hc3
    refine Zj (Zs (Zc (Za ?_)))
    refine Lo u51 (W14 rfl rfl rfl) ?_
    refine Lo u51 (Zb (.inl rfl) rfl) ?_
    refine Ze ?_
    refine K_loopG (mk 51 2238605674151807) (env' := u51) rfl (Gh.dropTo (L := [.dead, hmB y (msk l t) (szO (msk l t) (k + 1)).1]) (X := [hsB _]) 2 rfl (BaseOk.set (BaseOk.refl _) _ rfl) (by first | (simp [VVal.underL, VVal.under]; done) | (simp [VVal.underL, VVal.under]; omega)) (by show (true && ((hmB y _ _).under _ && true)) = true; rw [hmB_under (by first | omega | (rw [List.length_set]; omega))]; rfl)) ⟨k + 1, ?_, rfl, ?_⟩
    ·first | omega | (simp only []; omega)
    ·exact ⟨⟨by omega, szO_yes hz (by assumption)⟩, rfl⟩
  ·try simp only [qB] at hc2
   refine ZB (ZD (Zv (ZA (Zc (Zd (Za ?_))))))
   refine Lo u51 (Zg (VVal.bool true) (.inr rfl) rfl) ?_
   refine Ze (Zc (Zl ?_))
   refine W3e (.inr rfl) (Zh rfl rfl) ?_
   exact W3f
abbrev u44 {a0 a1 a2 a3 a4 a5 a6 a7 a8 a9 a10 a11 a12 a13 a14 a15 a16 a17 a18 a19 a20 a21 a22 a23 a24 a25 a26 a27 a28 a29 a30 a31 a32 a33 a34 a35 a36 a37 a38 a39 a40 a41 a42 a43 : VVal} : VEnv := a0 :: a1 :: a2 :: a3 :: a4 :: a5 :: a6 :: a7 :: a8 :: a9 :: a10 :: a11 :: a12 :: a13 :: a14 :: a15 :: a16 :: a17 :: a18 :: a19 :: a20 :: a21 :: a22 :: a23 :: a24 :: a25 :: a26 :: a27 :: a28 :: a29 :: a30 :: a31 :: a32 :: a33 :: a34 :: a35 :: a36 :: a37 :: a38 :: a39 :: a40 :: a41 :: a42 :: a43 :: []
theorem W3h {T : TypeId → Option VTy} {H : Zf} {op : Op} {ρ : Operand → VVal} {t : TypeId} {a : Operand} {y : VTy} {p v : VVal} (ho : op = .load t a) (ha : ρ a = p) (hy : T t = some y) (hd : Zo y.desc = false) (h : LdOk H p v := by first | exact .inl ⟨_, _, rfl, by first | rfl | assumption | exact YY (α := Nat) 0 (by omega) | exact YY (α := BitVec 64) 0 (by omega)⟩ | exact .inr ⟨_, _, _, _, rfl, XH43, by first | rfl | assumption | exact YY (α := Nat) 0 (by omega) | exact YY (α := BitVec 64) 0 (by omega)⟩) : vop T ρ H op = some (v, H) := v_ld ho ha hy hd h
theorem W3j {T : TypeId → Option VTy} {H : Zf} {op : Op} {ρ : Operand → VVal} {t : TypeId} {a : Operand} {y : VTy} {p v : VVal} (ho : op = .load t a) (ha : ρ a = p) (hy : T t = some y) (hd : Zo y.desc = false) (h : LdOk H p v := by first | exact .inl ⟨_, _, rfl, by exact fget0N (f := iW) (l := Yb ws a k) (k := a.getD k 0) 0 hlt⟩ | exact .inr ⟨_, _, _, _, rfl, by exact ZL rfl hbX, by exact fget0N (f := iW) (l := Yb ws a k) (k := a.getD k 0) 0 hlt⟩) : vop T ρ H op = some (v, H) := v_ld ho ha hy hd h
theorem W3k {T : TypeId → Option VTy} {H : Zf} {op : Op} {ρ : VEnv} {H' : Zf} {t : TypeId} {a : Operand} {i : Nat} {v : VVal} {y : VTy} {b off : Nat} {cs new : List VVal} (ho : op = .store t a (.tmp i)) (hv : ρ[i]? = some v) (ha : ρ.eval a = .ptr (some (b, off))) (hy : T t = some y) (hx : v.cells = some new) (hn : new.length = y.size) (h1 : new.all VVal.one = true) (hb : H[b]? = some (.cells cs true) := by exact XH43) (hl : off + new.length ≤ cs.length := by show 0 + ((a.getD k 0 : Nat) : Int).toNat * 1 + 1 ≤ (List.map iW (Yb ws a k)).length; rw [List.length_map]; omega) (hH : H.set b (.cells (ZH cs off new) true) = H' := by exact (ZO rfl).trans (by show H ++ X.set b (VBlk.cells (ZH ((Yb ws a k).map iW) (0 + ((a.getD k 0 : Nat) : Int).toNat * 1) [_]) true) = _; rw [Int.toNat_natCast, spl_w hlt])) : vop T ρ.eval H op = some (.skip, H') := Z0 ho hv ha hy hx hn h1 hb hl hH
theorem hfull_spec {x : SW} {u : Int} {ws rs : VVal} (H : Zf) (y : Nat) (g : Gz) (hs : H[y]? = some (gaB g)) (l : List (BitVec 64)) (t : BitVec 64) (hl : l.length ≤ 1000000) : F (psys x) 87 [huP u ws rs y, fzW l, iW t] H fun v G => v = .bool (Yp l t) ∧ G = H.set y (gaB (g + fuG l t)) := by
  by_cases h : l = []
  · subst h
    refine (hfull_0 H y g hs t).mono ?_
    rintro v G ⟨rfl, rfl⟩
    exact ⟨rfl, by rw [show fuG [] t = 0 from rfl, Gz.add_zero, ← YK hs]⟩
  · exact hfull_c H y g hs l t h hl
theorem hBlocks_spec {x : SW} {u : Int} {rs : VVal} {y : Nat} (H : Zf) (ws : List (BitVec 64)) (a : List Nat) (ha : Pat a) (hw : a.length ≤ ws.length) (hn : ws.length ≤ 1000000) : F (psys x) 85 [huP u (fzW ws) rs y, fzN a] H fun v G => v = fzW (Yb ws a a.length) ∧ G = H := by
 refine Zq Tryd.func85 rfl u44 rfl ?_
 refine Zd (Za ?_)
 refine Lo u44 (Zg (VVal.slice none 0 0 true 0) (.inr rfl) rfl) ?_
 refine Ze (Zc (Zd (Za ?_)))
 refine Lo u44 (Zg (VVal.slice none 0 0 true 0) (.inr rfl) rfl) ?_
 refine Ze (Zc (Zd (Zd (Za ?_))))
 refine Lo u44 (Zb (.inl rfl) rfl) ?_
 refine Lo u44 (rfl) ?_
 refine Lo u44 (Zg (VVal.int .i64 0) (.inl rfl) rfl) ?_
 refine Ze (Zc (Zi ?_))
 refine Zt (mk 44 17592186042590) (env' := u44) rfl ?_
 refine Zy (fun (⟨k, lv⟩ : Nat × VVal) => a.length - k) (fun (⟨k, lv⟩ : Nat × VVal) => [(5, lv), (10, iI (k : Nat))]) (fun (⟨k, lv⟩ : Nat × VVal) G => (k ≤ a.length) ∧ ∃ X, G = H ++ X ∧ LV H.length 1 X lv ((Yb ws a k).map iW) (Yb ws a k).length) ⟨0, _⟩ rfl ?_ ?_
 ·refine ⟨?_, ⟨_, rfl, LV.nil _ _ _⟩⟩
  exact Nat.zero_le _
 rintro ⟨k, lv⟩ _ ⟨hk, ⟨X, rfl, hl⟩⟩
 refine ZM (env' := u44) rfl ?_
 refine Zd (Za ?_)
 refine Lo u44 (rfl) ?_
 refine Ze (Zc (Zd ?_))
 refine Zk _ rfl (fun hc1 => ?_) (fun hc1 => ?_)
 ·try simp only [qB, qN] at hc1
  refine Zj (Zc (Zd (Zi (Zd (Za ?_)))))
  refine Lo u44 (Zb (.inl rfl) rfl) ?_
  refine Lo u44 (W18 rfl rfl rfl rfl rfl rfl rfl) ?_
  refine Lo u44 (W3h rfl rfl rfl rfl) ?_
  refine Lo u44 (Zb (.inr rfl) rfl) ?_
  refine Lo u44 (Zb (.inr rfl) rfl) ?_
  refine Ze (Zc (Zd (Za ?_)))
  refine Lo u44 (Zb (.inl rfl) rfl) ?_
  refine Lo u44 (Zb (.inl rfl) rfl) ?_
  refine Lo u44 (v_len rfl rfl rfl rfl hl) ?_
  refine Lo u44 (rfl) ?_
  refine Ze (Zc ?_)
  refine Zk _ rfl (fun hc2 => ?_) (fun hc2 => ?_)
  ·try simp only [qB, qN] at hc2
   refine Za ?_
   refine Lo u44 (Zb (.inl rfl) rfl) ?_
   refine Lo u44 (Zb (.inl rfl) rfl) ?_
   refine Lo u44 (rfl) ?_
   refine Lo u44 (rfl) ?_
   refine Lo u44 (W3h rfl rfl rfl rfl) ?_
   refine Lo u44 (Zb (.inl rfl) rfl) ?_
   refine Lo u44 (W18 rfl rfl rfl rfl rfl rfl rfl) ?_
   refine Lo u44 (W3h rfl rfl rfl rfl) ?_
   refine Lo u44 (Zz rfl rfl (by decide) rfl) ?_
   refine L_opX rfl rfl (v_appX rfl rfl rfl rfl rfl rfl rfl hl rfl rfl (by decide) (by have := @YB ws a k; have := @Yy a k; show (_ + 1) * 8 ≤ _ ∧ _ + 1 ≤ _; omega) (by decide)) ?_
   rintro _ _ ⟨Y1, rfl, rfl, hY1, hY2, hY3⟩
   refine Le u44 ?_
   refine Lo u44 (Zb (.inr rfl) rfl) ?_
   refine Ze (Zs (Zc (Za ?_)))
   refine Lo u44 (W14 rfl rfl rfl) ?_
   refine Lo u44 (Zb (.inl rfl) rfl) ?_
   refine Ze ?_
   refine Zu (mk 44 17592186042590) (env' := u44) rfl ⟨⟨k + 1, _⟩, ?_, rfl, ?_⟩
   ·first | omega | (simp only []; omega)
   ·first | exact ⟨by omega, _, rfl, by rw [blkN_new (by assumption)]; exact LV.pushW hY3⟩ | exact ⟨by omega, _, rfl, by rw [blkN_old (by assumption), List.length_set]; exact LV.upW hl h0 (ZY hbX) (by rw [List.length_set])⟩
  ·try simp only [qB, qN] at hc2
   have hak := ha k (by omega)
   have hbl := @YB ws a k
   have hlt : a.getD k 0 < (Yb ws a k).length := by omega
   have h0 : 0 < (Yb ws a k).length := by omega
   obtain ⟨b, rfl, hbX⟩ := LV.pos hl h0
   refine ZS [0, 1, 2, 3, 4, 5, 6, 7, 8, 9, 10, 11, 12, 13] #[0, 0, 3, 7, 0, 16, 48, 112, 0, 496, 1008, 2047, 4095, 8191] XH7 XH7 XH7 ?_
   refine Oo u44 .calm rfl (Zb (.inl rfl) rfl) ?_
   refine Oo u44 .calm rfl (Zb (.inl rfl) rfl) ?_
   refine Oo u44 .calm rfl (W18 rfl rfl rfl rfl rfl rfl rfl) ?_
   refine Oo u44 .look rfl (W3j rfl rfl rfl rfl) ?_
   refine Oo u44 .calm rfl (Zb (.inl rfl) rfl) ?_
   refine Oo u44 .calm rfl (rfl) ?_
   refine Oo u44 .calm rfl (rfl) ?_
   refine Oo u44 .look rfl (W3h rfl rfl rfl rfl) ?_
   refine Oo u44 .calm rfl (Zb (.inl rfl) rfl) ?_
   refine Oo u44 .calm rfl (W18 rfl rfl rfl rfl rfl rfl rfl) ?_
   refine Oo u44 .look rfl (W3h rfl rfl rfl rfl) ?_
   refine Oo u44 .calm rfl (v_andW rfl rfl rfl) ?_
   refine Oo u44 .calm rfl (W18 rfl rfl rfl rfl rfl rfl rfl) ?_
   refine Oo u44 .turn rfl (W3k rfl rfl rfl rfl rfl rfl rfl) ?_
   refine ZU [] XH7 (trivial) ?_
   refine Zs (Zc (Za ?_))
   refine Lo u44 (W14 rfl rfl rfl) ?_
   refine Lo u44 (Zb (.inl rfl) rfl) ?_
   refine Ze ?_
   refine Zu (mk 44 17592186042590) (env' := u44) rfl ⟨⟨k + 1, _⟩, ?_, rfl, ?_⟩
   ·first | omega | (simp only []; omega)
   ·first | exact ⟨by omega, _, rfl, by rw [blkN_new (by assumption)]; exact LV.pushW hY3⟩ | exact ⟨by omega, _, rfl, by rw [blkN_old (by assumption), List.length_set]; exact LV.upW hl h0 (ZY hbX) (by rw [List.length_set])⟩
 ·try simp only [qB, qN] at hc1
  refine ZB (ZD (Zv (ZA (Zc (Zd (Za ?_))))))
  refine Lo u44 (Zb (.inl rfl) rfl) ?_
  refine Lo u44 (Zb (.inr rfl) rfl) ?_
  refine Ze (Zc (Zl ?_))
  refine E_gh (.inr rfl) (Zh rfl rfl) (Gh.ansLV (BaseOk.refl _) hl (YC _ _)) ?_
  obtain rfl : k = a.length := by omega
  exact ⟨rfl, rfl⟩
abbrev u22 {a0 a1 a2 a3 a4 a5 a6 a7 a8 a9 a10 a11 a12 a13 a14 a15 a16 a17 a18 a19 a20 a21 : VVal} : VEnv := a0 :: a1 :: a2 :: a3 :: a4 :: a5 :: a6 :: a7 :: a8 :: a9 :: a10 :: a11 :: a12 :: a13 :: a14 :: a15 :: a16 :: a17 :: a18 :: a19 :: a20 :: a21 :: []
abbrev u73 {a0 a1 a2 a3 a4 a5 a6 a7 a8 a9 a10 a11 a12 a13 a14 a15 a16 a17 a18 a19 a20 a21 a22 a23 a24 a25 a26 a27 a28 a29 a30 a31 a32 a33 a34 a35 a36 a37 a38 a39 a40 a41 a42 a43 a44 a45 a46 a47 a48 a49 a50 a51 a52 a53 a54 a55 a56 a57 a58 a59 a60 a61 a62 a63 a64 a65 a66 a67 a68 a69 a70 a71 a72 : VVal} : VEnv := a0 :: a1 :: a2 :: a3 :: a4 :: a5 :: a6 :: a7 :: a8 :: a9 :: a10 :: a11 :: a12 :: a13 :: a14 :: a15 :: a16 :: a17 :: a18 :: a19 :: a20 :: a21 :: a22 :: a23 :: a24 :: a25 :: a26 :: a27 :: a28 :: a29 :: a30 :: a31 :: a32 :: a33 :: a34 :: a35 :: a36 :: a37 :: a38 :: a39 :: a40 :: a41 :: a42 :: a43 :: a44 :: a45 :: a46 :: a47 :: a48 :: a49 :: a50 :: a51 :: a52 :: a53 :: a54 :: a55 :: a56 :: a57 :: a58 :: a59 :: a60 :: a61 :: a62 :: a63 :: a64 :: a65 :: a66 :: a67 :: a68 :: a69 :: a70 :: a71 :: a72 :: []
theorem W3n {P : Prop} (h : P := by first | exact ⟨by unfold erl; rw [hck, decide_eq_true hg2]; rfl, rfl⟩ | exact ⟨by unfold erl; rw [hck, decide_eq_false (by omega)]; rfl, rfl⟩ | exact ⟨by unfold erl; rw [hck]; rfl, rfl⟩) : P := h
theorem W3o {T : TypeId → Option VTy} {H : Zf} {op : Op} {ρ : Operand → VVal} {t : TypeId} {a : Operand} {y : VTy} {p v : VVal} (ho : op = .load t a) (ha : ρ a = p) (hy : T t = some y) (hd : Zo y.desc = false) (h : LdOk H p v := by first | exact .inl ⟨_, _, rfl, XH50⟩ | exact .inr ⟨_, _, _, _, rfl, XH43, XH50⟩) : vop T ρ H op = some (v, H) := v_ld ho ha hy hd h
theorem W3p {T : TypeId → Option VTy} {H : Zf} {op : Op} {ρ : VEnv} {H' : Zf} {t : TypeId} {a : Operand} {i : Nat} {v : VVal} {y : VTy} {b off : Nat} {cs new : List VVal} (ho : op = .store t a (.tmp i)) (hv : ρ[i]? = some v) (ha : ρ.eval a = .ptr (some (b, off))) (hy : T t = some y) (hx : v.cells = some new) (hn : new.length = y.size) (h1 : new.all VVal.one = true) (hb : H[b]? = some (.cells cs true) := by exact XH43) (hl : off + new.length ≤ cs.length := by exact XH46) (hH : H.set b (.cells (ZH cs off new) true) = H' := by exact ga_n0 hs) : vop T ρ.eval H op = some (.skip, H') := Z0 ho hv ha hy hx hn h1 hb hl hH
theorem W3q {T : TypeId → Option VTy} {H : Zf} {op : Op} {ρ : Operand → VVal} {t : TypeId} {a : Operand} {y : VTy} {p v : VVal} (ho : op = .load t a) (ha : ρ a = p) (hy : T t = some y) (hd : Zo y.desc = false) (h : LdOk H p v := by first | exact .inl ⟨_, _, rfl, XH50⟩ | exact .inr ⟨_, _, _, _, rfl, by exact get_out (List.getElem?_set_self hy), XH50⟩) : vop T ρ H op = some (v, H) := v_ld ho ha hy hd h
theorem W3r {T : TypeId → Option VTy} {H : Zf} {op : Op} {ρ : VEnv} {H' : Zf} {t : TypeId} {a : Operand} {i : Nat} {v : VVal} {y : VTy} {b off : Nat} {cs new : List VVal} (ho : op = .store t a (.tmp i)) (hv : ρ[i]? = some v) (ha : ρ.eval a = .ptr (some (b, off))) (hy : T t = some y) (hx : v.cells = some new) (hn : new.length = y.size) (h1 : new.all VVal.one = true) (hb : H[b]? = some (.cells cs true) := by exact get_out (List.getElem?_set_self hy)) (hl : off + new.length ≤ cs.length := by exact XH46) (hH : H.set b (.cells (ZH cs off new) true) = H' := by exact ga_p hy) : vop T ρ.eval H op = some (.skip, H') := Z0 ho hv ha hy hx hn h1 hb hl hH
theorem W3v {P : Prop} (h : P := by first | exact ⟨by rw [(kpK_0 (u := u) (by assumption)).1], by rw [(kpK_0 (by assumption)).2]; rfl⟩ | exact ⟨by rw [(kpK_1 (u := u) (by assumption) (all_bad (k := k) (d := r0) (by omega) (by first | assumption | exact Bool.eq_false_iff.2 ‹_›))).1], by rw [(kpK_1 (by assumption) (all_bad (k := k) (d := r0) (by omega) (by first | assumption | exact Bool.eq_false_iff.2 ‹_›))).2]; rfl⟩ | exact ⟨by rw [(kpK_2 (u := u) (by assumption) (all_full (by omega) hall)).1], by rw [(kpK_2 (by assumption) (all_full (by omega) hall)).2, ← Gz.assoc]; rfl⟩) : P := h
theorem W3w {T : TypeId → Option VTy} {H : Zf} {op : Op} {ρ : Operand → VVal} {t : TypeId} {a : Operand} {y : VTy} {p v : VVal} (ho : op = .load t a) (ha : ρ a = p) (hy : T t = some y) (hd : Zo y.desc = false) (h : LdOk H p v := by first | exact .inl ⟨_, _, rfl, by exact YY (f := fzR) (l := rss) (k := a.length - 1) [] (by omega)⟩ | exact .inr ⟨_, _, _, _, rfl, XH43, by exact YY (f := fzR) (l := rss) (k := a.length - 1) [] (by omega)⟩) : vop T ρ H op = some (v, H) := v_ld ho ha hy hd h
theorem W3x {T : TypeId → Option VTy} {H : Zf} {op : Op} {ρ : Operand → VVal} {t : TypeId} {a : Operand} {y : VTy} {p : VVal} {n : Nat} {vs : List VVal} (ho : op = .load t a) (ha : ρ a = p) (hy : T t = some y) (hd : Zo y.desc = true) (hn : y.size = n) (h : LdOkA H p n vs := by first | exact .inl ⟨_, _, rfl, XH50⟩ | exact .inr ⟨_, _, _, _, rfl, XH43, XH50⟩) : vop T ρ H op = some (.agg vs, H) := v_ldA ho ha hy hd hn h
abbrev fzRR (rss : List (List Rul)) : VVal := .fsl (rss.map fzR) rss.length 1 false
theorem fzR_und (n : Nat) (l : List Rul) : (fzR l).under n = true := VVal.underL_all (n := n) (vs := l.flatMap rlB) fun v hv => by
  obtain ⟨r, _, h⟩ := List.mem_flatMap.1 hv
  simp only [List.mem_cons, List.not_mem_nil, or_false] at h
  rcases h with rfl | rfl | rfl
  · rfl
  · rfl
  · exact VVal.underL_map fun _ => rfl
theorem mapN_under (n : Nat) (l : List Nat) : VVal.underL n (l.map fun (m : Nat) => iI (m : Nat)) = true := VVal.underL_map fun _ => rfl
theorem rss_under (n : Nat) (rss : List (List Rul)) : VVal.underL n (rss.map fzR) = true := VVal.underL_map fun l => fzR_und n l
theorem huUnder {H : Zf} {y : Nat} (hy : y < H.length) (u : Int) (ws : List (BitVec 64)) (rss : List (List Rul)) : (huP u (fzW ws) (fzRR rss) y).under H.length = true := by
  show VVal.underL _ [iI u, fzW ws, fzRR rss, .ptr (some (y, 0))] = true
  simp only [VVal.underL, VVal.under, YM, YC, rss_under, hy, decide_true, Bool.and_true]
theorem rEarly_spec {x : SW} (H : Zf) (r : Rul) (n : Int) (l : List Int) (hl : r.steps.length ≤ 1000000) : F (psys x) 86 [.agg (rlB r), iI n, fzI l] H fun v G => v = .bool (erl r n l) ∧ G = H := by
 refine Zq Tryd.func86 rfl u22 rfl ?_
 refine Zd (Za ?_)
 refine Lo u22 (ZJ rfl rfl rfl) ?_
 refine Lo u22 (Zg (VVal.bool false) (.inr rfl) rfl) ?_
 refine Ze (Zc (Zd (Za ?_)))
 refine Lo u22 (Zb (.inl rfl) rfl) ?_
 refine Lo u22 (W11 rfl rfl rfl rfl rfl) ?_
 refine Zp rfl rfl rfl (by exact rCheck_spec _ _ _ (by omega)) ?_
 rintro _ _ ⟨rfl, rfl⟩
 refine Le u22 ?_
 refine Lo u22 (rfl) ?_
 refine Lo u22 (Zb (.inl rfl) rfl) ?_
 refine ZE 11 (env1 := u22) (env2 := u22) rfl rfl rfl (fun hg1 => ?_) (fun hg1 => ?_)
 ·try simp only [qB] at hg1
  have hck : rck n r = true := rcE_eq.1 hg1
  refine Lo u22 (Zb (.inl rfl) rfl) ?_
  refine Lo u22 (rfl) ?_
  refine Lo u22 (Zb (.inl rfl) rfl) ?_
  refine Lo u22 (rfl) ?_
  refine Lo u22 (ZN rfl rfl rfl) ?_
  refine Lo u22 (Zb (.inl rfl) rfl) ?_
  refine ZE 17 (env1 := u22) (env2 := u22) rfl rfl rfl (fun hg2 => ?_) (fun hg2 => ?_)
  ·try simp only [qB] at hg2
   refine Lo u22 (W11 rfl rfl rfl rfl rfl) ?_
   refine Lo u22 (Zb (.inl rfl) rfl) ?_
   refine Zp rfl rfl rfl (by exact keeps_spec _ _ _ (rck_kind hck) (rck_pos hck) (Nat.le_trans (rck_len hck) (by decide))) ?_
   rintro _ _ ⟨rfl, rfl⟩
   refine Le u22 ?_
   refine Lo u22 (ZN rfl rfl rfl) ?_
   refine Lo u22 (Zb (.inr rfl) rfl) ?_
   refine Ze (Zc (Zl ?_))
   refine W10 (.inr rfl) (Zh rfl rfl) ?_
   exact W3n
  ·try simp only [qB] at hg2
   refine Lf u22 ?_
   refine Lf u22 ?_
   refine Lf u22 ?_
   refine Lo u22 (ZI (VVal.bool false) rfl rfl rfl) ?_
   refine Lo u22 (Zb (.inr rfl) rfl) ?_
   refine Ze (Zc (Zl ?_))
   refine W10 (.inr rfl) (Zh rfl rfl) ?_
   exact W3n
 ·try simp only [qB] at hg1
  have hck : rck n r = false := bool_f fun e => hg1 (rcE_eq.2 e)
  refine Lf u22 ?_
  refine Lf u22 ?_
  refine Lf u22 ?_
  refine Lf u22 ?_
  refine Lo u22 (ZI (VVal.bool false) rfl rfl rfl) ?_
  refine Lo u22 (Zb (.inl rfl) rfl) ?_
  refine Lf u22 ?_
  refine Lf u22 ?_
  refine Lf u22 ?_
  refine Lo u22 (ZI (VVal.bool false) rfl rfl rfl) ?_
  refine Lo u22 (Zb (.inr rfl) rfl) ?_
  refine Ze (Zc (Zl ?_))
  refine W10 (.inr rfl) (Zh rfl rfl) ?_
  exact W3n
theorem rEarlyN {x : SW} (H : Zf) (r : Rul) (n : Int) (a : List Nat) (hl : r.steps.length ≤ 1000000) : F (psys x) 86 [.agg (rlB r), iI n, fzN a] H fun v G => v = .bool (erl r n (zI a)) ∧ G = H := by
  rw [fzN_is]; exact rEarly_spec H r n (zI a) hl
theorem hKeep_spec {x : SW} {u : Nat} (H : Zf) (y : Nat) (g : Gz) (hs : H[y]? = some (gaB g)) (ws : List (BitVec 64)) (rss : List (List Rul)) (a : List Nat) (ha : Pat a) (h0 : 0 < a.length) (hw : a.length ≤ ws.length) (hn : ws.length ≤ 1000000) (hr : rss.length = ws.length) (hR : ∀ i, (rss.getD i []).length ≤ 1000000 ∧ ∀ r, r ∈ rss.getD i [] → r.steps.length ≤ 1000000) : F (psys x) 53 [huP (u : Nat) (fzW ws) (fzRR rss) y, fzN a] H fun v G => v = .bool (kpB ws rss a) ∧ G = H.set y (gaB (g + kpG u ws rss a)) := by
 have hy := ZY hs
 have hbl := @YB ws a a.length
 have hla := ha (a.length - 1) (by omega)
 have hsl : a.getD (a.length - 1) 0 < szP a a.length := by
    obtain ⟨m, hm⟩ : ∃ m, a.length = m + 1 := ⟨a.length - 1, by omega⟩
    rw [hm] at hla ⊢; rw [szP]; rw [Nat.add_sub_cancel] at hla ⊢; split <;> omega
 have hR1 := hR (a.length - 1)
 refine Zq Tryd.func53 rfl u73 rfl ?_
 refine Zd (Za ?_)
 refine Lo u73 (Zg (VVal.bool false) (.inr rfl) rfl) ?_
 refine Ze (Zc (Zd (Za ?_)))
 refine Lo u73 (Zb (.inl rfl) rfl) ?_
 refine Lo u73 (rfl) ?_
 refine Lo u73 (rfl) ?_
 refine Lo u73 (W3o rfl rfl rfl rfl) ?_
 refine Lo u73 (rfl) ?_
 refine Lo u73 (rfl) ?_
 refine Lo u73 (W3o rfl rfl rfl rfl) ?_
 refine Lo u73 (v_addW (b := 1#64) rfl rfl rfl) ?_
 refine Lo u73 (rfl) ?_
 refine Lo u73 (rfl) ?_
 refine Lo u73 (W3p rfl rfl rfl rfl rfl rfl rfl) ?_
 refine Ze (Zc (Zd ?_))
 refine ZS [0, 1, 2, 3, 4, 5, 6, 7, 8, 9, 10, 11, 12, 13, 14, 15] #[0, 1, 3, 7, 15, 31, 63, 0, 128, 384, 896, 1920, 4095, 8191, 16383, 32767] XH7 XH7 XH7 ?_
 refine Oo u73 .calm rfl (Zb (.inl rfl) rfl) ?_
 refine Oo u73 .calm rfl (rfl) ?_
 refine Oo u73 .calm rfl (rfl) ?_
 refine Oo u73 .look rfl (W3o rfl rfl rfl rfl) ?_
 refine Oo u73 .calm rfl (rfl) ?_
 refine Oo u73 .calm rfl (rfl) ?_
 refine Oo u73 .look rfl (W3q rfl rfl rfl rfl) ?_
 refine Oo u73 .calm rfl (Zb (.inl rfl) rfl) ?_
 refine Oo u73 .calm rfl (rfl) ?_
 refine Oo u73 .calm rfl (rfl) ?_
 refine Oo u73 .look rfl (W3o rfl rfl rfl rfl) ?_
 refine Oo u73 .calm rfl (v_cvW rfl rfl rfl rfl rfl) ?_
 refine Oo u73 .calm rfl (v_addW rfl rfl rfl) ?_
 refine Oo u73 .calm rfl (rfl) ?_
 refine Oo u73 .calm rfl (rfl) ?_
 refine Oo u73 .turn rfl (W3r rfl rfl rfl rfl rfl rfl rfl) ?_
 refine ZU [] XH7 (trivial) ?_
 refine Zc (Zd (Za ?_))
 refine Lo u73 (Zb (.inl rfl) rfl) ?_
 refine Lo u73 (Zb (.inl rfl) rfl) ?_
 refine Zp rfl rfl rfl (by exact hBlocks_spec _ _ _ ha hw hn) ?_
 rintro _ _ ⟨rfl, rfl⟩
 refine Le u73 ?_
 refine Lo u73 (Zb (.inl rfl) rfl) ?_
 refine Lo u73 (rfl) ?_
 refine Lo u73 (W1y rfl rfl rfl) ?_
 refine Lo u73 (Zb (.inr rfl) rfl) ?_
 refine Lo u73 (Zb (.inr rfl) rfl) ?_
 refine Ze (Zc (Zd (Zd ?_)))
 rw [show ((a.length : Nat) : Int) - 1 = ((a.length - 1 : Nat) : Int) by omega]
 refine Za ?_
 refine Lo u73 (Zb (.inl rfl) rfl) ?_
 refine Lo u73 (Zb (.inl rfl) rfl) ?_
 refine Lo u73 (Zb (.inl rfl) rfl) ?_
 refine Lo u73 (W18 rfl rfl rfl rfl rfl rfl rfl) ?_
 refine Lo u73 (W3o rfl rfl rfl rfl) ?_
 refine Lo u73 (W18 rfl rfl rfl rfl rfl rfl rfl) ?_
 refine Lo u73 (W3o rfl rfl rfl rfl) ?_
 refine Lo u73 (rfl) ?_
 refine Ze (Zc ?_)
 refine Zk _ rfl (fun hc1 => ?_) (fun hc1 => ?_)
 ·try simp only [qB, qN] at hc1
  refine Zd (Za ?_)
  refine Lo u73 (Zg (VVal.bool false) (.inr rfl) rfl) ?_
  refine Ze (Zc (Zl (Zm ?_)))
  refine W3e (.inr rfl) (Zh rfl rfl) ?_
  exact W3v
 ·try simp only [qB, qN] at hc1
  refine Zj (Zc (Zd (Zd (Za ?_))))
  refine Lo u73 (Zb (.inl rfl) rfl) ?_
  refine Lo u73 (rfl) ?_
  refine Lo u73 (rfl) ?_
  refine Lo u73 (W3o rfl rfl rfl rfl) ?_
  refine Lo u73 (Zb (.inl rfl) rfl) ?_
  refine Lo u73 (W18 rfl rfl rfl rfl rfl rfl rfl) ?_
  refine Lo u73 (W3w rfl rfl rfl rfl) ?_
  refine Lo u73 (rfl) ?_
  refine Lo u73 (Zg (VVal.int .i64 0) (.inl rfl) rfl) ?_
  refine Ze (Zc (Zi ?_))
  refine Zt (mk 73 9444606864949724053468) (env' := u73) rfl ?_
  refine Zy (fun (k : Nat) => (rss.getD (a.length - 1) []).length - k) (fun (k : Nat) => [(56, iI (k : Nat))]) (fun (k : Nat) G => (k ≤ (rss.getD (a.length - 1) []).length ∧ ((rss.getD (a.length - 1) []).take k).all (fun r => erl r ws.length (zI a)) = true) ∧ G = H.set y (gaB (⟨g.n + 1, g.p + u, g.e⟩ : Gz)) ++ []) 0 rfl ?_ ?_
  ·refine ⟨?_, rfl⟩
   exact ⟨Nat.zero_le _, rfl⟩
  rintro k _ ⟨⟨hk, hall⟩, rfl⟩
  refine ZM (env' := u73) rfl ?_
  refine Zd (Za ?_)
  refine Lo u73 (rfl) ?_
  refine Ze (Zc (Zd ?_))
  refine Zk _ rfl (fun hc2 => ?_) (fun hc2 => ?_)
  ·try simp only [qB, qN] at hc2
   refine Zj (Zc (Zd (Zi (Zd (Za ?_)))))
   refine Lo u73 (W18 rfl rfl rfl rfl rfl rfl rfl) ?_
   refine Lo u73 (W3x rfl rfl rfl rfl rfl) ?_
   refine Lo u73 (ZR rfl rfl) ?_
   refine Lo u73 (W13 rfl rfl rfl rfl rfl rfl rfl) ?_
   refine Ze (Zc (Zd ?_))
   refine ZS [0, 1, 2, 3, 4, 5, 6, 7, 8] #[0, 0, 2, 6, 14, 30, 0, 127, 255] XH7 XH7 XH7 ?_
   refine Oo u73 .look rfl (W3x rfl rfl rfl rfl rfl) ?_
   refine Oo u73 .calm rfl (Zb (.inl rfl) rfl) ?_
   refine Oo u73 .calm rfl (rfl) ?_
   refine Oo u73 .calm rfl (rfl) ?_
   refine Oo u73 .look rfl (W3o rfl rfl rfl rfl) ?_
   refine Oo u73 .look rfl (rfl) ?_
   refine Oo u73 .calm rfl (Zb (.inl rfl) rfl) ?_
   refine Yj (env' := u73) rfl rfl rfl rfl rfl (by exact rEarlyN _ _ _ _ (hR1.2 _ (Y5 (by omega)))) XH9 rfl rfl ?_
   refine Oo u73 .calm rfl (rfl) ?_
   refine ZU [] XH7 (trivial) ?_
   refine Zc ?_
   refine Zk _ rfl (fun hc3 => ?_) (fun hc3 => ?_)
   ·try simp only [qB, qN] at hc3
    refine Zd (Za ?_)
    refine Lo u73 (Zg (VVal.bool false) (.inr rfl) rfl) ?_
    refine Ze (Zc (Zl (ZF (Zm (Yf (ZF (Zm ?_)))))))
    refine W3e (.inr rfl) (Zh rfl rfl) ?_
    exact W3v
   ·try simp only [qB, qN] at hc3
    refine Zj (Zs (Zc (Za ?_)))
    refine Lo u73 (W14 rfl rfl rfl) ?_
    refine Lo u73 (Zb (.inl rfl) rfl) ?_
    refine Ze ?_
    refine K_loopG (mk 73 9444606864949724053468) (env' := u73) rfl (Gh.dropTo (L := []) (X := [_]) 0 rfl (BaseOk.set (BaseOk.refl _) _ rfl) (by first | (simp [VVal.underL, VVal.under, YM]; done) | (simp [VVal.underL, VVal.under, YM, rss_under, YC, mapN_under, fzR_und, List.length_set, hy]; done) | (simp [VVal.underL, VVal.under, YM]; omega)) rfl) ⟨k + 1, ?_, rfl, ?_⟩
    ·first | omega | (simp only []; omega)
    ·exact ⟨⟨by omega, all_step (by omega) hall (by assumption)⟩, rfl⟩
  ·try simp only [qB, qN] at hc2
   refine ZB (ZD (Zv (ZA (Zc (Zd (Za ?_))))))
   refine Lo u73 (Zb (.inl rfl) rfl) ?_
   refine Lo u73 (Zb (.inl rfl) rfl) ?_
   refine Zp rfl rfl rfl (by exact hfull_spec (H.set y (gaB (⟨g.n + 1, g.p + u, g.e⟩ : Gz)) ++ []) y (⟨g.n + 1, g.p + u, g.e⟩ : Gz) (Zw (List.getElem?_set_self hy)) (Yb ws a a.length) 0#64 (by have := @Yy a a.length; omega)) ?_
   rintro v _ ⟨rfl, rfl⟩; rw [Yx (by rw [List.length_set]; exact hy), List.set_set]
   refine Le u73 ?_
   refine Lo u73 (Zb (.inr rfl) rfl) ?_
   refine Ze (Zc (Zl ?_))
   refine W3e (.inr rfl) (Zh rfl rfl) ?_
   exact W3v
theorem CloI_nil {x : SW} (H : Zf) : F (psys x) 109 [.slice none 0 0 true 0] H fun v G => v = .fsl [] 0 1 false ∧ G = H := by
 refine Zq Tryd.func109 rfl u8 rfl ?_
 refine Zd (Za ?_)
 refine Lo u8 (Zg (VVal.slice none 0 0 true 0) (.inr rfl) rfl) ?_
 refine Ze (Zc (Zd (Zd (Za ?_))))
 refine Lo u8 (Zb (.inl rfl) rfl) ?_
 refine Lo u8 (rfl) ?_
 refine Ze (Zc ?_)
 refine ZP rfl rfl ?_
 refine Zd (Za ?_)
 refine Lo u8 (Zg (VVal.slice none 0 0 true 0) (.inr rfl) rfl) ?_
 refine Ze (Zc (Zl (Zm ?_)))
 refine E_gh (.inr rfl) (Zh rfl rfl) (Gh.ansLV (BaseOk.refl _) (LV.nil H.length 1 []) rfl) ?_
 exact ⟨rfl, rfl⟩
theorem rc_under (n : Nat) (row : List Nat) : VVal.underL n (rcN row) = true := VVal.underL_map fun _ => rfl
abbrev niS : VVal := .slice none 0 0 true 0
section
variable {H X : Zf} {y : Nat} {kv rv fnd : VVal} {g : Gz}
end
def wsP (p : Pb) : List (BitVec 64) := (List.range p.who.length).map (wrd p)
theorem wsP_len {p : Pb} : (wsP p).length = p.who.length := by unfold wsP; simp
theorem wsP_take {p : Pb} {k : Nat} (h : k < p.who.length) : (wsP p).take (k + 1) = (wsP p).take k ++ [wrd p k] := by
  rw [Yh (d := 0) (by rw [wsP_len]; exact h)]
  congr 2
  unfold wsP
  rw [List.getD_eq_getElem?_getD, List.getElem?_map, List.getElem?_range h]; rfl
abbrev nwB (u : Int) (n y b : Nat) (wv : VVal) (vs : List VVal) : Zf := [.dead, .cells vs true, .cells [iI u, wv, .slice (some (b, 0)) n n true 1, .ptr (some (y, 0))] true]
theorem rep1 (v : VVal) : ∀ n : Nat, ZG [v] n = List.replicate n v
  | 0 => rfl
  | n + 1 => by rw [List.replicate_succ, ← rep1 v n]; rfl
theorem vget {l : List VVal} {k : Nat} (h : k < l.length) : l[0 + k * 1]? = some (l.getD k .skip) := by
  rw [show 0 + k * 1 = k by omega, List.getD_eq_getElem?_getD, List.getElem?_eq_getElem h]; rfl
theorem rck_in {n : Int} {r : Rul} (h : rck n r = true) {s : Nat} (hs : s < r.steps.length) : 0 ≤ r.steps.getD s 0 ∧ r.steps.getD s 0 < n := by
  unfold rck at h
  rw [Bool.and_eq_true, Bool.and_eq_true] at h
  have := riseA_mem _ _ h.2.1 _ (mem_getI hs)
  omega
theorem spl_v {l : List VVal} {k : Nat} {w : VVal} (h : k < l.length) : ZH l (0 + k * 1) [w] = l.set k w := by
  rw [show 0 + k * 1 = k by omega]
  unfold ZH
  rw [List.set_eq_take_append_cons_drop, if_pos h]; simp
abbrev u72 {a0 a1 a2 a3 a4 a5 a6 a7 a8 a9 a10 a11 a12 a13 a14 a15 a16 a17 a18 a19 a20 a21 a22 a23 a24 a25 a26 a27 a28 a29 a30 a31 a32 a33 a34 a35 a36 a37 a38 a39 a40 a41 a42 a43 a44 a45 a46 a47 a48 a49 a50 a51 a52 a53 a54 a55 a56 a57 a58 a59 a60 a61 a62 a63 a64 a65 a66 a67 a68 a69 a70 a71 : VVal} : VEnv := a0 :: a1 :: a2 :: a3 :: a4 :: a5 :: a6 :: a7 :: a8 :: a9 :: a10 :: a11 :: a12 :: a13 :: a14 :: a15 :: a16 :: a17 :: a18 :: a19 :: a20 :: a21 :: a22 :: a23 :: a24 :: a25 :: a26 :: a27 :: a28 :: a29 :: a30 :: a31 :: a32 :: a33 :: a34 :: a35 :: a36 :: a37 :: a38 :: a39 :: a40 :: a41 :: a42 :: a43 :: a44 :: a45 :: a46 :: a47 :: a48 :: a49 :: a50 :: a51 :: a52 :: a53 :: a54 :: a55 :: a56 :: a57 :: a58 :: a59 :: a60 :: a61 :: a62 :: a63 :: a64 :: a65 :: a66 :: a67 :: a68 :: a69 :: a70 :: a71 :: []
theorem W46 {T : TypeId → Option VTy} {H : Zf} {op : Op} {ρ : Operand → VVal} {t : TypeId} {a : Operand} {y : VTy} {p v : VVal} (ho : op = .load t a) (ha : ρ a = p) (hy : T t = some y) (hd : Zo y.desc = false) (h : LdOk H p v := by first | exact .inl ⟨_, _, rfl, by exact vget (by rw [hlen]; exact hi)⟩ | exact .inr ⟨_, _, _, _, rfl, by exact getB rfl rfl, by exact vget (by rw [hlen]; exact hi)⟩) : vop T ρ H op = some (v, H) := v_ld ho ha hy hd h
theorem W47 {T : TypeId → Option VTy} {H : Zf} {op : Op} {ρ : VEnv} {H' : Zf} {t : TypeId} {a : Operand} {i : Nat} {v : VVal} {y : VTy} {b off : Nat} {cs new : List VVal} (ho : op = .store t a (.tmp i)) (hv : ρ[i]? = some v) (ha : ρ.eval a = .ptr (some (b, off))) (hy : T t = some y) (hx : v.cells = some new) (hn : new.length = y.size) (h1 : new.all VVal.one = true) (hb : H[b]? = some (.cells cs true) := by exact getB rfl rfl) (hl : off + new.length ≤ cs.length := by show 0 + _ * 1 + 1 ≤ vs.length; omega) (hH : H.set b (.cells (ZH cs off new) true) = H' := by exact (setB rfl (show 1 < 3 from by decide)).trans (by show H ++ List.set _ 1 (VBlk.cells (ZH vs (0 + ((p.rules.getD m r0).steps.getD s 0).toNat * 1) [_]) true) ++ _ = _; rw [spl_v (by rw [hlen]; exact hi)])) : vop T ρ.eval H op = some (.skip, H') := Z0 ho hv ha hy hx hn h1 hb hl hH
theorem W48 {S : V.Sys} {H : Zf} {fn : Func} {ex : Exit} {env : VEnv} {B L : Zf} {v : VVal} {R : VVal → Zf → Prop} (hx : ex = .normal ∨ ex = .ret) (hv : ZV S.C.T env (B ++ L) fn.results = some v) (h : R v B) (hB : BaseOk H B := by exact BaseOk.refl _) (hu : v.under H.length = true := by exact huUnder hy _ _ _) : fnK S fn H R ex env (B ++ L) := YA hx hv hB hu h
theorem New_spec {x : SW} (H : Zf) (p : Pb) (y : Nat) (hy : y < H.length) (g : Go.V.Good p) : F (psys x) 51 [.agg (pbB p), .ptr (some (y, 0))] H fun v G => v = huP p.users (fzW (wsP p)) (fzRR (YZ p)) y ∧ G = H := by
 have g1 := g.n12; have g3 := g.r32; have g5 := g.fx
 have gs := fun r hr => rck_len (g.ru r hr)
 refine Zq Tryd.func51 rfl u72 rfl ?_
 refine Zd (Za ?_)
 refine Lo u72 (ZJ rfl rfl rfl) ?_
 refine Lo u72 (Zg (VVal.ptr none) (.inr rfl) rfl) ?_
 refine Ze (Zc (Zd ?_))
 refine Yu (Gh.freezePtrL (cs := pbB p) 2 0 rfl rfl rfl) ?_
 refine ZS [0, 1, 2, 3, 4, 5, 6, 7, 8, 9] #[0, 1, 0, 4, 12, 28, 0, 127, 255, 511] XH7 XH7 XH7 ?_
 refine Oo u72 .calm rfl (rfl) ?_
 refine Oo u72 .look rfl (W1p rfl rfl rfl rfl) ?_
 refine Oo u72 .calm rfl (rfl) ?_
 refine Oo u72 .look rfl (W1p rfl rfl rfl rfl) ?_
 refine Oo u72 .look rfl (rfl) ?_
 refine Oo u72 .grow rfl (YF rfl rfl rfl rfl rfl (by decide) ⟨by omega, Int.le_refl _, by show (p.who.length : Int) * (24 : Nat) ≤ _; omega, by omega⟩) ?_
 refine Oo u72 .calm rfl (Zb (.inl rfl) rfl) ?_
 refine Oo u72 .calm rfl (rfl) ?_
 refine Oo u72 .grow rfl (ZJ rfl rfl rfl) ?_
 refine Oo u72 .calm rfl (Zb (.inr rfl) rfl) ?_
 refine ZU [] XH7 (trivial) ?_
 refine Zc (Zd (Zd (Za ?_)))
 refine Lo u72 (rfl) ?_
 refine Lo u72 (W1p rfl rfl rfl rfl) ?_
 refine Lo u72 (rfl) ?_
 refine Lo u72 (Zg (VVal.int .i64 0) (.inl rfl) rfl) ?_
 refine Ze (Zc (Zi ?_))
 refine Zt (mk 72 4722366482869632630747) (env' := u72) rfl ?_
 refine Zy (fun (k : Nat) => p.who.length - k) (fun (k : Nat) => [(23, iI (k : Nat))]) (fun (k : Nat) G => (k ≤ p.who.length) ∧ ∃ wv X, G = (H ++ nwB p.users p.who.length y (H.length + 1) wv (List.replicate p.who.length niS)) ++ X ∧ LV (H.length + 3) 1 X wv (((wsP p).take k).map iW) ((wsP p).take k).length) 0 rfl ?_ ?_
 ·refine ⟨?_, ⟨_, [], by rw [List.append_nil, ← rep1]; rfl, LV.nil _ _ _⟩⟩
  exact Nat.zero_le _
 rintro k _ ⟨hk, ⟨wv, X, rfl, hl⟩⟩
 refine ZM (env' := u72) rfl ?_
 refine Zd (Za ?_)
 refine Lo u72 (rfl) ?_
 refine Ze (Zc (Zd ?_))
 refine Zk _ rfl (fun hc1 => ?_) (fun hc1 => ?_)
 ·try simp only [qB, qN] at hc1
  refine Zj (Zc (Zd (Zi (Zd (Za ?_)))))
  refine Lo u72 (Zb (.inl rfl) rfl) ?_
  refine Lo u72 (Zb (.inr rfl) rfl) ?_
  refine Ze (Zc ?_)
  refine ZS [0, 1, 2, 3, 4, 5, 6, 7, 8, 9, 10, 11, 12] #[0, 0, 2, 6, 14, 0, 0, 96, 224, 510, 1023, 2047, 4095] XH7 XH7 XH7 ?_
  refine Oo u72 .calm rfl (Zb (.inl rfl) rfl) ?_
  refine Oo u72 .calm rfl (Zb (.inl rfl) rfl) ?_
  refine Oo u72 .calm rfl (rfl) ?_
  refine Oo u72 .calm rfl (rfl) ?_
  refine Yn (env' := u72) (x := .look _ _) rfl rfl rfl (W1p rfl rfl rfl rfl) rfl rfl rfl ?_
  refine Oo u72 .look rfl (W1t rfl rfl rfl rfl rfl) ?_
  refine Oo u72 .calm rfl (Zb (.inl rfl) rfl) ?_
  refine Yj (env' := u72) rfl rfl rfl rfl rfl (by exact Word_spec _ _ _ (by omega) (by omega)) XH9 rfl rfl ?_
  refine Oo u72 .grow rfl (Zz rfl rfl (by decide) rfl) ?_
  refine O_opX .turn rfl rfl rfl (Y4 rfl rfl rfl rfl rfl rfl rfl (by simp) hl rfl rfl (by decide) XH27 (by decide)) rfl rfl ?_
  rintro _ _ ⟨Y1, rfl, rfl, hY1, hY2, hY3⟩
  refine O_env (env' := u72) rfl ?_
  refine Oo u72 .calm rfl (rfl) ?_
  refine Oo u72 .calm rfl (rfl) ?_
  refine Oo u72 .turn rfl (W13 rfl rfl rfl rfl rfl rfl rfl) ?_
  refine ZU [_] (by rfl) (And.intro (And.intro (W1p rfl rfl rfl rfl) (W1p rfl rfl rfl rfl)) trivial) ?_
  refine Zs (Zc (Za ?_))
  refine Lo u72 (W14 rfl rfl rfl) ?_
  refine Lo u72 (Zb (.inl rfl) rfl) ?_
  refine Ze ?_
  refine Zu (mk 72 4722366482869632630747) (env' := u72) rfl ⟨k + 1, ?_, rfl, ?_⟩
  ·first | omega | (simp only []; omega)
  ·exact ⟨by omega, _, _, rfl, by rw [wsP_take (by omega)]; exact LV.pushW hY3⟩
 ·try simp only [qB, qN] at hc1
  refine ZB (ZD (Zv (ZA (Zc (Zd (Zd ?_))))))
  obtain rfl : k = p.who.length := by omega
  rw [List.take_of_length_le (by rw [wsP_len]; omega)] at hl
  refine B_ghCell 2 1 hl rfl rfl (by simp) fun X1 _ _ => ?_
  refine Za ?_
  refine Lo u72 (rfl) ?_
  refine Lo u72 (W1p rfl rfl rfl rfl) ?_
  refine Lo u72 (rfl) ?_
  refine Lo u72 (Zg (VVal.int .i64 0) (.inl rfl) rfl) ?_
  refine Ze (Zc (Zi ?_))
  refine Zt (mk 72 4722366475173063819231) (env' := u72) rfl ?_
  refine Zy (fun (m : Nat) => p.rules.length - m) (fun (m : Nat) => [(42, iI (m : Nat))]) (fun (m : Nat) G => (m ≤ p.rules.length) ∧ ∃ Z vs, G = (H ++ nwB p.users p.who.length y (H.length + 1) (fzW (wsP p)) vs) ++ Z ∧ RW rlB 3 (H.length + 3) Z vs (addR p.who.length p.rules m)) 0 rfl ?_ ?_
  ·refine ⟨?_, ⟨_, _, rfl, RW.init⟩⟩
   exact Nat.zero_le _
  rintro m _ ⟨hm, ⟨Z, vs, rfl, hr⟩⟩
  refine ZM (env' := u72) rfl ?_
  refine Zd (Za ?_)
  refine Lo u72 (rfl) ?_
  refine Ze (Zc (Zd ?_))
  refine Zk _ rfl (fun hc2 => ?_) (fun hc2 => ?_)
  ·try simp only [qB, qN] at hc2
   refine Zj (Zc (Zd (Zi (Zd (Za ?_)))))
   refine Lo u72 (W18 rfl rfl rfl rfl rfl rfl rfl) ?_
   refine Lo u72 (W1t rfl rfl rfl rfl rfl) ?_
   refine Lo u72 (ZR rfl rfl) ?_
   refine Lo u72 (W13 rfl rfl rfl rfl rfl rfl rfl) ?_
   refine Ze (Zc (Zd ?_))
   refine Yu (Gh.freezeEnd (cs := rlB (p.rules.getD m r0)) 8 rfl rfl) ?_
   refine Za ?_
   refine Lo u72 (rfl) ?_
   refine Lo u72 (W1p rfl rfl rfl rfl) ?_
   refine Lo u72 (rfl) ?_
   refine Lo u72 (Zg (VVal.int .i64 0) (.inl rfl) rfl) ?_
   refine Ze (Zc (Zi ?_))
   refine Zt (mk 72 4722365490010645331679) (env' := u72) rfl ?_
   refine Zy (fun (s : Nat) => (p.rules.getD m r0).steps.length - s) (fun (s : Nat) => [(49, iI (s : Nat))]) (fun (s : Nat) G => (s ≤ (p.rules.getD m r0).steps.length) ∧ ∃ Z vs, G = (H ++ nwB p.users p.who.length y (H.length + 1) (fzW (wsP p)) vs) ++ Z ∧ RW rlB 3 (H.length + 3) Z vs (addS (p.rules.getD m r0) (addR p.who.length p.rules m) s)) 0 rfl ?_ ?_
   ·refine ⟨?_, ⟨_, vs, rfl, hr.app _⟩⟩
    exact Nat.zero_le _
   rintro s _ ⟨hs, ⟨Z, vs, rfl, hr⟩⟩
   refine ZM (env' := u72) rfl ?_
   refine Zd (Za ?_)
   refine Lo u72 (rfl) ?_
   refine Ze (Zc (Zd ?_))
   refine Zk _ rfl (fun hc3 => ?_) (fun hc3 => ?_)
   ·try simp only [qB, qN] at hc3
    refine Zj (Zc (Zd (Zi (Zd (Za ?_)))))
    refine Lo u72 (W18 rfl rfl rfl rfl rfl rfl rfl) ?_
    refine Lo u72 (W1p rfl rfl rfl rfl) ?_
    refine Lo u72 (Zb (.inr rfl) rfl) ?_
    refine Ze (Zc ?_)
    have hin := rck_in (g.ru _ (Y5 (l := p.rules) (k := m) (by omega))) (s := s) (by omega)
    have hlen := hr.len
    have hi : ((p.rules.getD m r0).steps.getD s 0).toNat < (addS (p.rules.getD m r0) (addR p.who.length p.rules m) s).length := by rw [addS_len, addR_len]; omega
    have hv9 := hr.lv _ hi
    have hb1 := @addS_row (p.rules.getD m r0) (addR p.who.length p.rules m) ((p.rules.getD m r0).steps.getD s 0).toNat s
    have hb2 := addR_row (n := p.who.length) (i := ((p.rules.getD m r0).steps.getD s 0).toNat) gs (m := m) (by omega)
    have hb3 := gs _ (Y5 (l := p.rules) (k := m) (by omega))
    refine ZS [0, 1, 2, 3, 4, 5, 6, 7, 8, 9, 10, 11, 12, 13, 14, 15, 16] #[0, 1, 3, 7, 0, 0, 32, 96, 224, 0, 992, 2016, 0, 4096, 16352, 32767, 65535] XH7 XH7 XH7 ?_
    refine Oo u72 .calm rfl (Zb (.inl rfl) rfl) ?_
    refine Oo u72 .calm rfl (rfl) ?_
    refine Oo u72 .calm rfl (rfl) ?_
    refine Yn (env' := u72) (x := .look _ _) rfl rfl rfl (W1p rfl rfl rfl rfl) rfl rfl rfl ?_
    refine Oo u72 .calm rfl (Zb (.inl rfl) rfl) ?_
    refine Oo u72 .calm rfl (Zb (.inl rfl) rfl) ?_
    refine Oo u72 .calm rfl (rfl) ?_
    refine Oo u72 .calm rfl (rfl) ?_
    refine Oo u72 .look rfl (W1p rfl rfl rfl rfl) ?_
    refine Oo u72 .calm rfl (Zb (.inl rfl) rfl) ?_
    refine Oo u72 .calm rfl (W1g rfl rfl rfl rfl rfl rfl rfl) ?_
    refine Oo u72 .look rfl (W46 rfl rfl rfl rfl) ?_
    refine Oo u72 .look rfl (W1t rfl rfl rfl rfl rfl) ?_
    refine Oo u72 .grow rfl (Zz rfl rfl (by decide) rfl) ?_
    refine O_opXI (fun _ G => .turn _ G) rfl rfl rfl (Y4 rfl rfl rfl rfl rfl rfl rfl (by simp) hv9 rfl rfl (by decide) (by show (_ + 1) * 40 ≤ _ ∧ _ + 1 ≤ _; omega) (by decide)) (fun _ _ => rfl) ?_
    rintro _ _ ⟨Y1, rfl, rfl, hY1, hY2, hY3⟩
    refine O_env (env' := u72) rfl ?_
    refine Oo u72 .calm rfl (W1g rfl rfl rfl rfl rfl rfl rfl) ?_
    refine Oo u72 .turn rfl (W47 rfl rfl rfl rfl rfl rfl rfl) ?_
    refine ZU [_] (by rfl) (And.intro (And.intro (W1p rfl rfl rfl rfl) (W1p rfl rfl rfl rfl)) trivial) ?_
    refine Zs (Zc (Za ?_))
    refine Lo u72 (W14 rfl rfl rfl) ?_
    refine Lo u72 (Zb (.inl rfl) rfl) ?_
    refine Ze ?_
    refine Zu (mk 72 4722365490010645331679) (env' := u72) rfl ⟨s + 1, ?_, rfl, ?_⟩
    ·first | omega | (simp only []; omega)
    ·exact ⟨by omega, _, _, rfl, RW.step hr hi hY2 hY3⟩
   ·try simp only [qB, qN] at hc3
    refine ZB (ZD (Zv (ZA (Zs (Zc (Za ?_))))))
    refine Lo u72 (W14 rfl rfl rfl) ?_
    refine Lo u72 (Zb (.inl rfl) rfl) ?_
    refine Ze ?_
    refine Zu (mk 72 4722366475173063819231) (env' := u72) rfl ⟨m + 1, ?_, rfl, ?_⟩
    ·first | omega | (simp only []; omega)
    ·(obtain rfl : s = (p.rules.getD m r0).steps.length := by omega); exact ⟨by omega, Z, vs, rfl, hr⟩
  ·try simp only [qB, qN] at hc2
   refine ZB (ZD (Zv (ZA (Zc (Zd ?_)))))
   obtain rfl : m = p.rules.length := by omega
   refine B_ghRW 1 hr rfl (by simp) fun Z9 => ?_
   refine Yu (Gh.cellL (l := (YZ p).map fzR) 2 2 1 rfl rfl (by decide) rfl (Yq (by rw [List.length_map]; exact addR_len.symm)) (Nat.le_refl _)) ?_
   refine Yu (Gh.freezePtrL (cs := huC p.users (fzW (wsP p)) (.fsl ((YZ p).map fzR) p.who.length 1 false) y) 5 2 rfl rfl rfl) ?_
   rw [show huC p.users (fzW (wsP p)) (.fsl ((YZ p).map fzR) p.who.length 1 false) y = huC p.users (fzW (wsP p)) (fzRR (YZ p)) y by unfold fzRR; rw [show (YZ p).length = p.who.length from addR_len]]
   refine Za ?_
   refine Lo u72 (Zb (.inl rfl) rfl) ?_
   refine Lo u72 (Zb (.inr rfl) rfl) ?_
   refine Ze (Zc (Zl ?_))
   refine W48 (.inr rfl) (Zh rfl rfl) ?_
   exact ⟨rfl, rfl⟩
theorem W49 {S : V.Sys} {H : Zf} {fn : Func} {ex : Exit} {env : VEnv} {B L : Zf} {v : VVal} {R : VVal → Zf → Prop} (hx : ex = .normal ∨ ex = .ret) (hv : ZV S.C.T env (B ++ L) fn.results = some v) (h : R v B) (hB : BaseOk H B := by exact XH49) (hu : v.under H.length = true := by first | rfl | exact rc_under _ _) : fnK S fn H R ex env (B ++ L) := YA hx hv hB hu h
theorem Clip_spec {x : SW} (H : Zf) (us : List Nat) : F (psys x) 136 [fzN us] H fun v G => v = .fsl (rcN us) us.length 1 true ∧ G = H := by
 refine Zq Tryd.func136 rfl u9 rfl ?_
 refine Zd (Za ?_)
 refine Lo u9 (Zg (VVal.slice none 0 0 true 0) (.inr rfl) rfl) ?_
 refine Ze (Zc (Zd (Za ?_)))
 refine Lo u9 (Zb (.inl rfl) rfl) ?_
 refine Lo u9 (Zb (.inl rfl) rfl) ?_
 refine Lo u9 (rfl) ?_
 refine Lo u9 (Zb (.inl rfl) rfl) ?_
 refine Lo u9 (rfl) ?_
 refine Lo u9 (v_clipN rfl rfl rfl rfl rfl rfl rfl rfl) ?_
 refine Lo u9 (Zb (.inr rfl) rfl) ?_
 refine Ze (Zc (Zl ?_))
 refine W49 (.inr rfl) (Zh rfl rfl) ?_
 exact ⟨rfl, rfl⟩
def EaP (y : Nat) (K : Bool → Zf → Prop) (A L : Zf) (v : VVal) (G : Zf) : Prop := ∃ b A1 J, v = .bool b ∧ G = A1 ++ (L ++ J) ∧ A1.length = A.length ∧ K b A1 ∧ (b = true → ∃ g1, A1[y]? = some (gaB g1))
theorem set_add0 {A : Zf} {y : Nat} {g : Gz} (h : A[y]? = some (gaB g)) : A.set y (gaB (g + 0)) = A := by
  rw [Gz.add_zero, ← YK h]
theorem ea_end {S : V.Sys} {l y : Nat} {b : Bool} {A1 : Zf} {K : Bool → Zf → Prop} (hk : if b = true then (∃ g1, A1[y]? = some (gaB g1)) ∧ IterP S l y [] 0 A1 K else K false A1) : K b A1 ∧ (b = true → ∃ g1, A1[y]? = some (gaB g1)) := by
  cases b with
  | false => exact ⟨hk, fun e => by cases e⟩
  | true =>
    obtain ⟨⟨g2, hg2⟩, hk⟩ := hk
    have h := hk g2 hg2
    rw [set_add0 hg2] at h
    exact ⟨h, fun _ => ⟨g2, hg2⟩⟩
theorem tv_cons {z : List (Gz × List Nat)} {e d : Gz} {c : VVal} {post : List (Gz × VVal)} (h : tv (z, e) = (d, c) :: post) : ∃ us z1, z = (d, us) :: z1 ∧ c = fzN us := by
  cases z with
  | nil => cases h
  | cons q z =>
    obtain ⟨d1, us⟩ := q
    have h : (d1, fzN us) :: tv (z, e) = (d, c) :: post := h
    injection h with h1 h2
    injection h1 with h3 h4
    exact ⟨us, z, by rw [h3], h4.symm⟩
theorem tv_nil {xs : List (Gz × VVal)} {z : List (Gz × List Nat)} {e : Gz} (h : xs = xs ++ tv (z, e)) : z = [] := by
  have : tv (z, e) = [] := by simpa using h
  cases z with
  | nil => rfl
  | cons q z => cases this
theorem fzN_pl {a us : List Nat} : fzN (plN a us) = .fsl (rcN (plN a us)) a.length 1 false := by
  show VVal.fsl _ (plN a us).length 1 false = _
  rw [plN_len]
def leA (p : Pb) : Option (List Nat) := if pck p = 0 then fdA p.users.toNat (wsP p) (YZ p) else none
def leT : Option (List Nat) → VVal
  | some l => .tuple [fzN l, .bool true]
  | none => .tuple [fzN [], .bool false]
theorem rssP_len {p : Pb} : (YZ p).length = (wsP p).length := by unfold YZ; rw [addR_len, wsP_len]
theorem rssP_ok {p : Pb} (g : Go.V.Good p) : ∀ i, ((YZ p).getD i []).length ≤ 1000000 ∧ ∀ r, r ∈ (YZ p).getD i [] → r.steps.length ≤ 1000000 := fun i => by
  have g3 := g.r32; have g1 := g.n12
  have gs := fun r hr => rck_len (g.ru r hr)
  refine ⟨?_, fun r hr => ?_⟩
  · have := addR_row (n := p.who.length) (i := i) gs (m := p.rules.length) (Nat.le_refl _)
    unfold YZ; omega
  · have hin := fun r hr x hx => by
      have h := g.ru r hr
      unfold rck at h
      rw [Bool.and_eq_true, Bool.and_eq_true] at h
      have := riseA_mem _ _ h.2.1 x hx
      exact (show 0 ≤ x ∧ x < (p.who.length : Int) by omega)
    have := (addR_mem (n := p.who.length) (rs := p.rules) (r' := r) (i := i) hin (m := p.rules.length) (Nat.le_refl _)).1 hr
    rw [List.take_length] at this
    have := gs r this.1; omega
theorem New_N {x : SW} (H : Zf) (p : Pb) (y : Nat) (hy : y < H.length) (g : Go.V.Good p) : F (psys x) 51 [.agg (pbB p), .ptr (some (y, 0))] H fun v G => v = huP (p.users.toNat : Nat) (fzW (wsP p)) (fzRR (YZ p)) y ∧ G = H := by
  rw [Int.toNat_of_nonneg g.u0]; exact New_spec H p y hy g
theorem wsP_get {p : Pb} {i : Nat} (h : i < p.who.length) : (wsP p).getD i 0 = wrd p i := by
  unfold wsP; simp [List.getD_eq_getElem?_getD, h]
theorem myB_nat {p : Pb} {i n : Nat} : myB p i (n : Nat) = true ↔ (wrd p i).getLsbD n = true := by
  unfold myB
  rw [Bool.and_eq_true, decide_eq_true_eq, Int.toNat_natCast]
  exact ⟨fun h => h.2, fun h => ⟨by have := BitVec.lt_of_getLsbD h; omega, h⟩⟩
theorem leT_eq (o : Option (List Nat)) : ∃ l ok, leT o = .tuple [fzN l, .bool ok] ∧ (ok = true → o = some l) ∧ (ok = false → l = [] ∧ o = none) := by
  cases o with
  | some l => exact ⟨l, true, rfl, fun _ => rfl, fun e => (by cases e)⟩
  | none => exact ⟨[], false, rfl, fun e => (by cases e), fun _ => ⟨rfl, rfl⟩⟩
def pw : Pb := (3, [3#64, 3#64, 4#64], [-1, -1, -1], [(1, 0, [0, 1], ())], ())
theorem Cut_few {x : SW} (H : Zf) (p : Pb) (m : Nat) : F (psys x) 19 [.agg (pbB (fewP p m))] H fun v G => v = .agg (pbB (fewP p m)) ∧ G = H := by
  have := Cut_spec (x := x) H (fewP p m)
  rw [fewP_cut] at this; exact this
theorem leT_ok {o : Option (List Nat)} {l : List Nat} {ok : Bool} (h : leT o = .tuple [fzN l, .bool ok]) : ok = o.isSome := by
  cases o with
  | none =>
    have h : VVal.tuple [fzN [], .bool false] = .tuple [fzN l, .bool ok] := h
    simp at h; simp [h]
  | some m =>
    have h : VVal.tuple [fzN m, .bool true] = .tuple [fzN l, .bool ok] := h
    simp at h; simp [h]
theorem CloI_emp {x : SW} (H : Zf) : F (psys x) 109 [.slice none 0 0 false 0] H fun v G => v = .fsl [] 0 1 false ∧ G = H := by
 refine Zq Tryd.func109 rfl u8 rfl ?_
 refine Zd (Za ?_)
 refine Lo u8 (Zg (VVal.slice none 0 0 true 0) (.inr rfl) rfl) ?_
 refine Ze (Zc (Zd (Zd (Za ?_))))
 refine Lo u8 (Zb (.inl rfl) rfl) ?_
 refine Lo u8 (rfl) ?_
 refine Ze (Zc ?_)
 refine Yi rfl rfl ?_
 refine Zj (Zc (Zd (Za ?_)))
 refine Lo u8 (Zz rfl rfl (by decide) rfl) ?_
 refine Lo u8 (Zb (.inl rfl) rfl) ?_
 refine Lo u8 (v_appIn rfl rfl rfl rfl rfl rfl rfl (ZL rfl rfl) rfl rfl rfl rfl (by decide) (by decide) (by decide)) ?_
 refine L_heap (H' := H ++ [.cells [] true]) (by rw [ZO rfl]; rfl) ?_
 refine Lo u8 (Zb (.inr rfl) rfl) ?_
 refine Ze (Zc (Zl ?_))
 refine E_gh (.inr rfl) (Zh rfl rfl) (Gh.fsl (j := 0) (off := 0) (len := 0) (l := []) (BaseOk.refl _) rfl rfl (Nat.le_refl _) rfl) ?_
 exact ⟨rfl, rfl⟩
theorem CloI_c {x : SW} (H : Zf) (l : List Int) (hne : l ≠ []) (hl : l.length ≤ 1000000) : F (psys x) 109 [fzI l] H fun v G => v = .slice (some (H.length, 0)) l.length l.length (decide (l.length = 0)) 1 ∧ G = H ++ [.cells (l.map iI) true] := by
 refine Zq Tryd.func109 rfl u8 rfl ?_
 refine Zd (Za ?_)
 refine Lo u8 (Zg (VVal.slice none 0 0 true 0) (.inr rfl) rfl) ?_
 refine Ze (Zc (Zd (Zd (Za ?_))))
 refine Lo u8 (Zb (.inl rfl) rfl) ?_
 refine Lo u8 (v_eqNilC rfl rfl rfl rfl rfl (fun e => hne (List.eq_nil_of_length_eq_zero e))) ?_
 refine Ze (Zc ?_)
 refine Yi rfl rfl ?_
 refine Zj (Zc (Zd (Za ?_)))
 refine Lo u8 (Zz rfl rfl (by decide) rfl) ?_
 refine Lo u8 (Zb (.inl rfl) rfl) ?_
 refine L_opX rfl rfl (v_appE rfl rfl rfl rfl rfl rfl rfl rfl XH28 (mapI_one _) (by decide) (by show l.length * 8 ≤ _ ∧ l.length ≤ _; omega)) ?_
 rintro _ _ ⟨Z, i, rfl, rfl, hi⟩
 refine Le u8 ?_
 refine Lo u8 (Zb (.inr rfl) rfl) ?_
 refine Ze (Zc (Zl ?_))
 refine E_gh (.inr rfl) (Zh rfl rfl) (Gh.pack (BaseOk.refl _) hi (Y3 _ _)) ?_
 exact ⟨rfl, rfl⟩
theorem CloIf {x : SW} (H : Zf) (l : List Int) (hl : l.length ≤ 1000000) : F (psys x) 109 [fzI l] H fun v G => v = fzI l ∧ G = H := by
  by_cases h : l = []
  · subst h; exact F_split0 (CloI_nil H) (CloI_emp H)
  · exact F.gh (CloI_c H l h hl) fun v G h => by
      obtain ⟨rfl, rfl⟩ := h
      exact ⟨_, _, Gh.fsl (j := 0) (BaseOk.refl H) rfl map_all (Nat.le_refl _) (Y3 _ _), rfl, rfl⟩
structure Pm (t : List Int) : Prop where
  rg : ∀ i, i < t.length → 0 ≤ t.getD i 0 ∧ t.getD i 0 < t.length
  ij : ∀ i j, i < t.length → j < t.length → t.getD i 0 = t.getD j 0 → i = j
section
variable {t : List Int} {q : Pb}
end
theorem getBX {B X : Zf} {j : Nat} {c : VBlk} (h : X[j]? = some c) : (B ++ X)[B.length + j]? = some c := ZL rfl h
theorem setBX {B X : Zf} {j : Nat} {c : VBlk} : (B ++ X).set (B.length + j) c = B ++ X.set j c := ZO rfl
theorem set_get {X : Zf} {j : Nat} {a b : VBlk} (h : X[j]? = some a) : (X.set j b)[j]? = some b := List.getElem?_set_self (ZY h)
theorem set_far {X : Zf} {j k : Nat} {a b : VBlk} (h : X[k]? = some a) (d : j ≠ k) : (X.set j b)[k]? = some a := by rw [List.getElem?_set_ne d]; exact h
theorem fget0N {l : List Int} {k : Nat} (h : k < l.length) : (l.map iI)[0 + ((k : Nat) : Int).toNat * 1]? = some (iI (l.getD k 0)) := by rw [Nat.zero_add]; exact YY (0 : Int) h
theorem fl3 {rs : List Rul} : (rs.flatMap rlB).length = rs.length * 3 := fm_len (f := rlB) (m := 3) (fun _ => rfl) rs
theorem ls_gh {S : Go.V.Sys} {B Z : Zf} {u w f : VVal} {b m n len : Nat} {cs : List VVal} {rs : List Rul} (hb : Z[b]? = some (.cells cs true)) (hm : Z[m]? = some (.cells [u, w, f, .slice (some (B.length + b, 0)) len n false 3] true)) (hl : Zx cs 0 (len * 3) = some (rs.flatMap rlB)) (he : rs.length = len) (hn : len ≤ n) (d : b ≠ m) :
    ∃ Z2, (∀ (H0 : Zf) (vs : List VVal), Gh S H0 vs (B ++ Z) vs (B ++ Z2)) ∧ Z2[m]? = some (.cells [u, w, f, fzR rs] true) := by
  subst he
  exact ⟨_, fun H0 vs => Gh.cellL (S := S) (H := B) (H0 := H0) (vs := vs) m 3 b hm rfl (fun e => d e.symm) hb hl hn, set_get (set_far hm d)⟩
abbrev u47 {a0 a1 a2 a3 a4 a5 a6 a7 a8 a9 a10 a11 a12 a13 a14 a15 a16 a17 a18 a19 a20 a21 a22 a23 a24 a25 a26 a27 a28 a29 a30 a31 a32 a33 a34 a35 a36 a37 a38 a39 a40 a41 a42 a43 a44 a45 a46 : VVal} : VEnv := a0 :: a1 :: a2 :: a3 :: a4 :: a5 :: a6 :: a7 :: a8 :: a9 :: a10 :: a11 :: a12 :: a13 :: a14 :: a15 :: a16 :: a17 :: a18 :: a19 :: a20 :: a21 :: a22 :: a23 :: a24 :: a25 :: a26 :: a27 :: a28 :: a29 :: a30 :: a31 :: a32 :: a33 :: a34 :: a35 :: a36 :: a37 :: a38 :: a39 :: a40 :: a41 :: a42 :: a43 :: a44 :: a45 :: a46 :: []
theorem W4a {T : TypeId → Option VTy} {H : Zf} {op : Op} {ρ : Operand → VVal} {t : TypeId} {a : Operand} {y : VTy} {p v : VVal} (ho : op = .load t a) (ha : ρ a = p) (hy : T t = some y) (hd : Zo y.desc = false) (h : LdOk H p v := by first | exact .inl ⟨_, _, rfl, by first | rfl | assumption⟩ | exact .inr ⟨_, _, _, _, rfl, XH43, by first | rfl | assumption⟩) : vop T ρ H op = some (v, H) := v_ld ho ha hy hd h
theorem W4c {P : Prop} (h : P := by first | exact ⟨false, A2, _, rfl, rfl, hA3, hk3, fun e => by cases e⟩ | exact ⟨true, A0, _, rfl, rfl, hA0, by (have h9 := hI0; rw [ptR_end (by omega)] at h9; have h9 := h9 g1 hg1; rw [set_add0 hg1] at h9; exact h9), fun _ => ⟨g1, hg1⟩⟩) : P := h
theorem W4e {S : V.Sys} {H : Zf} {fn : Func} {ex : Exit} {env : VEnv} {B L : Zf} {v : VVal} {R : VVal → Zf → Prop} (hx : ex = .normal ∨ ex = .ret) (hv : ZV S.C.T env (B ++ L) fn.results = some v) (h : R v B) (hB : BaseOk H B := by exact XH49) (hu : v.under H.length = true := by show (true && (((huP (u : Nat) (fzW ws) (fzRR rss) y).under _ && true) && true)) = true; rw [huUnder hy]; rfl) : fnK S fn H R ex env (B ++ L) := YA hx hv hB hu h
theorem hKeep_at {x : SW} {A Z : Zf} {u y : Nat} {ws : List (BitVec 64)} {rss : List (List Rul)} {g : Gz} (hs : A[y]? = some (gaB g)) (a : List Nat) (ha : Pat a) (h0 : 0 < a.length) (hw : a.length ≤ ws.length) (hn : ws.length ≤ 1000000) (hr : rss.length = ws.length) (hR : ∀ i, (rss.getD i []).length ≤ 1000000 ∧ ∀ r, r ∈ rss.getD i [] → r.steps.length ≤ 1000000) :
    F (psys x) 53 [huP (u : Nat) (fzW ws) (fzRR rss) y, fzN a] (A ++ Z) fun v G => v = .bool (kpB ws rss a) ∧ G = A.set y (gaB (g + kpG u ws rss a)) ++ Z := by
  refine (hKeep_spec _ y g (Zw hs) ws rss a ha h0 hw hn hr hR).mono ?_
  rintro v G ⟨rfl, rfl⟩
  exact ⟨rfl, Yx (ZY hs)⟩
theorem CloN {x : SW} (H : Zf) (l : List Nat) (hl : l.length ≤ 1000000) : F (psys x) 109 [fzN l] H fun v G => v = fzN l ∧ G = H := by
  rw [fzN_is]; exact CloIf H (zI l) (by rw [zI_len]; exact hl)
theorem patterns_0 {x : SW} {u y : Nat} {ws : List (BitVec 64)} {rss : List (List Rul)} (l : Nat) (hn : ws.length ≤ 1000000) (hr : rss.length = ws.length) (hR : ∀ i, (rss.getD i []).length ≤ 1000000 ∧ ∀ r, r ∈ rss.getD i [] → r.steps.length ≤ 1000000) (A L : Zf) (row : List Nat) (b : Nat) (g : Gz) (K : Bool → Zf → Prop) (hp : Pat row) (hb : b = szP row row.length) (hs : A[y]? = some (gaB g)) (hI : IterP (psys x) l y (tv (ptT (kpB ws rss) (kpG u ws rss) 0 row b)) (ptT (kpB ws rss) (kpG u ws rss) 0 row b).2 A K) (hl : row.length = ws.length) : F (psys x) 114 [huP (u : Nat) (fzW ws) (fzRR rss) y, fzN row, iI (b : Nat), .yield l] (A ++ L) (EaP y K A L) := by
 refine Zq Tryd.func114 rfl u47 rfl ?_
 refine Zd (Za ?_)
 refine Lo u47 (Zg (VVal.bool false) (.inr rfl) rfl) ?_
 refine Ze (Zc (Zd (Zd ?_)))
 rw [List.append_nil]
 refine Za ?_
 refine Lo u47 (Zb (.inl rfl) rfl) ?_
 refine Lo u47 (rfl) ?_
 refine Lo u47 (Zb (.inl rfl) rfl) ?_
 refine Lo u47 (rfl) ?_
 refine Lo u47 (rfl) ?_
 refine Lo u47 (W4a rfl rfl rfl rfl) ?_
 refine Lo u47 (rfl) ?_
 refine Lo u47 (v_is true rfl (by rw [hl]; simp)) ?_
 refine Ze (Zc ?_)
 refine ZP rfl rfl ?_
 refine Zd (Za ?_)
 refine Lo u47 (Zb (.inl rfl) rfl) ?_
 refine Lo u47 (Zb (.inl rfl) rfl) ?_
 refine Zp rfl rfl rfl (by exact CloN _ row (by omega)) ?_
 rintro _ _ ⟨rfl, rfl⟩
 refine Le u47 ?_
 refine L_callV rfl rfl rfl (by have h9 : Fv (psys x) (.yield l) [fzN row] (A.set y (gaB (g + 0)) ++ L) _ := hI g hs L; rw [set_add0 hs] at h9; exact h9) ?_
 rintro _ G ⟨b1, A1, J1, rfl, hG, hA1, hk⟩; obtain rfl : G = A1 ++ (L ++ J1) := hG
 refine Le u47 ?_
 refine Lo u47 (Zb (.inr rfl) rfl) ?_
 refine Ze (Zc (Zl (Zm ?_)))
 refine E_keep (.inr rfl) (Zh rfl rfl) ?_
 exact ⟨b1, A1, _, rfl, rfl, hA1, ea_end hk⟩
theorem patterns_s {x : SW} {u y : Nat} {ws : List (BitVec 64)} {rss : List (List Rul)} (l : Nat) (hn : ws.length ≤ 1000000) (hr : rss.length = ws.length) (hR : ∀ i, (rss.getD i []).length ≤ 1000000 ∧ ∀ r, r ∈ rss.getD i [] → r.steps.length ≤ 1000000) (n : Nat) (ih : ∀ (A L : Zf) (row : List Nat) (b : Nat) (g : Gz) (K : Bool → Zf → Prop) (hp : Pat row) (hb : b = szP row row.length) (hs : A[y]? = some (gaB g)) (hI : IterP (psys x) l y (tv (ptT (kpB ws rss) (kpG u ws rss) n row b)) (ptT (kpB ws rss) (kpG u ws rss) n row b).2 A K), row.length + n = ws.length → F (psys x) 114 [huP (u : Nat) (fzW ws) (fzRR rss) y, fzN row, iI (b : Nat), .yield l] (A ++ L) (EaP y K A L)) (A L : Zf) (row : List Nat) (b : Nat) (g : Gz) (K : Bool → Zf → Prop) (hp : Pat row) (hb : b = szP row row.length) (hs : A[y]? = some (gaB g)) (hI : IterP (psys x) l y (tv (ptT (kpB ws rss) (kpG u ws rss) (n + 1) row b)) (ptT (kpB ws rss) (kpG u ws rss) (n + 1) row b).2 A K) (hl : row.length + (n + 1) = ws.length) : F (psys x) 114 [huP (u : Nat) (fzW ws) (fzRR rss) y, fzN row, iI (b : Nat), .yield l] (A ++ L) (EaP y K A L) := by
 have hz := @Yy row row.length
 refine Zq Tryd.func114 rfl u47 rfl ?_
 refine Zd (Za ?_)
 refine Lo u47 (Zg (VVal.bool false) (.inr rfl) rfl) ?_
 refine Ze (Zc (Zd (Zd ?_)))
 rw [List.append_nil]
 refine Za ?_
 refine Lo u47 (Zb (.inl rfl) rfl) ?_
 refine Lo u47 (rfl) ?_
 refine Lo u47 (Zb (.inl rfl) rfl) ?_
 refine Lo u47 (rfl) ?_
 refine Lo u47 (rfl) ?_
 refine Lo u47 (W4a rfl rfl rfl rfl) ?_
 refine Lo u47 (rfl) ?_
 refine Lo u47 (v_is false rfl (by simp; omega)) ?_
 refine Ze (Zc ?_)
 refine Yi rfl rfl ?_
 refine Zj (Zc (Zd (Zd ?_)))
 rw [ptT_R] at hI
 refine Za ?_
 refine Lo u47 (Zg (VVal.int .i64 0) (.inr rfl) rfl) ?_
 refine Ze (Zc (Zi ?_))
 refine Zt (mk 47 140737488354800) (env' := u47) rfl ?_
 refine Zy (fun (k : Nat) => b + 1 - k) (fun (k : Nat) => [(9, iI (k : Nat))]) (fun (k : Nat) G => (k ≤ b + 1) ∧ ∃ A0 J0 g1, G = A0 ++ (L ++ J0) ∧ A0.length = A.length ∧ A0[y]? = some (gaB g1) ∧ IterP (psys x) l y (tv (ptR (kpB ws rss) (kpG u ws rss) (ptT (kpB ws rss) (kpG u ws rss) n) row b k)) (ptR (kpB ws rss) (kpG u ws rss) (ptT (kpB ws rss) (kpG u ws rss) n) row b k).2 A0 K) 0 rfl ?_ ?_
 ·refine ⟨?_, ⟨A, [], g, by rw [List.append_nil], rfl, hs, hI⟩⟩
  exact Nat.zero_le _
 rintro k _ ⟨hk, ⟨A0, J0, g1, rfl, hA0, hg1, hI0⟩⟩
 refine ZM (env' := u47) rfl ?_
 refine Zd (Zd (Za ?_))
 refine Lo u47 (Zb (.inl rfl) rfl) ?_
 refine Lo u47 (Zb (.inl rfl) rfl) ?_
 refine Lo u47 (rfl) ?_
 refine Ze (Zc ?_)
 refine Zk _ rfl (fun hc1 => ?_) (fun hc1 => ?_)
 ·try simp only [qB, qN] at hc1
  refine Zj (Zc (Zd (Zi (Zd (Za ?_)))))
  refine Lo u47 (Zb (.inl rfl) rfl) ?_
  refine Zp rfl rfl rfl (by exact Clip_spec _ row) ?_
  rintro _ _ ⟨rfl, rfl⟩
  refine Le u47 ?_
  refine Lo u47 (Zb (.inl rfl) rfl) ?_
  refine Lo u47 (Zz rfl rfl (by decide) rfl) ?_
  refine Lo u47 (v_appFX (c := iI ((k : Nat) : Int)) rfl rfl rfl rfl rfl rfl rfl rfl get_end rfl (by simp) (by show (row.length + 1) * 8 ≤ _ ∧ _; omega)) ?_
  refine Lo u47 (Zb (.inr rfl) rfl) ?_
  refine Ze (Zc (Zd ?_))
  refine B_frzEnd 10 rfl rfl rfl rfl ?_
  have hkb : k ≤ b := by omega
  have hpk : Pat (row ++ [k]) := Pat_snoc hp (by omega)
  refine Za ?_
  refine Lo u47 (Zb (.inl rfl) rfl) ?_
  refine Lo u47 (Zb (.inl rfl) rfl) ?_
  refine Zp rfl rfl rfl (by exact hKeep_at hg1 (row ++ [k]) hpk (by simp) (by simp; omega) hn hr hR) ?_
  rintro _ _ ⟨rfl, rfl⟩
  refine Le u47 ?_
  refine Lo u47 (Zb (.inl rfl) rfl) ?_
  refine ZE 36 (env1 := u47) (env2 := u47) rfl rfl rfl (fun hg2 => ?_) (fun hg2 => ?_)
  ·try simp only [qB, qN] at hg2
   have hkp : kpB ws rss (row ++ [k]) = true := by simpa using hg2
   refine Lo u47 (Zb (.inl rfl) rfl) ?_
   refine Lo u47 (Zb (.inl rfl) rfl) ?_
   refine Lo u47 (Zb (.inl rfl) rfl) ?_
   refine Lo u47 (Zb (.inl rfl) rfl) ?_
   refine Lo u47 (W14 rfl rfl rfl) ?_
   refine Lo u47 (v_val rfl (show iI _ = iI ((max b (k + 1) : Nat) : Int) by congr 1; omega)) ?_
   refine Lo u47 (Zb (.inl rfl) rfl) ?_
   refine Zp rfl rfl rfl (by have hIf := hI0; rw [ptR_yes hkb hkp] at hIf; exact ih (A0.set y (gaB (g1 + kpG u ws rss (row ++ [k])))) _ (row ++ [k]) _ _ _ hpk (by rw [hb]; exact (szP_next (by omega)).symm) (List.getElem?_set_self (ZY hg1)) (IterP.catT (xs := (ptT (kpB ws rss) (kpG u ws rss) n (row ++ [k]) (max b (k + 1))).1) (da := (ptT (kpB ws rss) (kpG u ws rss) n (row ++ [k]) (max b (k + 1))).2) (IterP.addF hg1 hIf)) (by simp; omega)) ?_
   rintro _ G ⟨b1, A2, J2, rfl, hG, hA2, hk2, hg2x⟩; have hA3 : A2.length = A.length := hA2.trans (by rw [List.length_set]; exact hA0); obtain rfl : G = _ := hG.trans ea_fold
   refine Le u47 ?_
   refine Lo u47 (rfl) ?_
   refine Lo u47 (ZN rfl rfl rfl) ?_
   refine Ze (Zc ?_)
   refine Zk _ rfl (fun hc3 => ?_) (fun hc3 => ?_)
   ·try simp only [qB, qN] at hc3
    have hb1 : b1 = false := by simpa using hc3
    subst hb1
    have hk3 : K false A2 := hk2
    refine Zd (Za ?_)
    refine Lo u47 (Zg (VVal.bool false) (.inr rfl) rfl) ?_
    refine Ze (Zc (Zl (ZF (Zm (Yf (ZF (Zm ?_)))))))
    refine E_keep (.inr rfl) (Zh rfl rfl) ?_
    exact W4c
   ·try simp only [qB, qN] at hc3
    have hb1 : b1 = true := by simpa using hc3
    subst hb1
    obtain ⟨g2, hg3⟩ := hg2x rfl
    have hk3 : IterP (psys x) l y (tv (ptR (kpB ws rss) (kpG u ws rss) (ptT (kpB ws rss) (kpG u ws rss) n) row b (k + 1))) (ptR (kpB ws rss) (kpG u ws rss) (ptT (kpB ws rss) (kpG u ws rss) n) row b (k + 1)).2 A2 K := hk2
    refine Zj (Zs (Zc (Za ?_)))
    refine Lo u47 (Zb (.inl rfl) rfl) ?_
    refine Lo u47 (W14 rfl rfl rfl) ?_
    refine Lo u47 (Zb (.inr rfl) rfl) ?_
    refine Ze ?_
    refine Zu (mk 47 140737488354800) (env' := u47) rfl ⟨k + 1, ?_, rfl, ?_⟩
    ·first | omega | (simp only []; omega)
    ·first | exact ⟨by omega, A2, _, g2, rfl, hA3, hg3, hk3⟩ | exact ⟨by omega, A0.set y (gaB (g1 + kpG u ws rss (row ++ [k]))), _, _, ea_fold0, by rw [List.length_set]; exact hA0, List.getElem?_set_self (ZY hg1), IterP.addF hg1 (by have h9 := hI0; rw [ptR_no hkb hkp] at h9; exact h9)⟩
  ·try simp only [qB, qN] at hg2
   have hkp : kpB ws rss (row ++ [k]) = false := by simpa using hg2
   refine Lf u47 ?_
   refine Lf u47 ?_
   refine Lf u47 ?_
   refine Lf u47 ?_
   refine Lf u47 ?_
   refine Lf u47 ?_
   refine Lf u47 ?_
   refine Lf u47 ?_
   refine Lf u47 ?_
   refine Lo u47 (ZI (VVal.bool false) rfl rfl rfl) ?_
   refine Ze (Zc ?_)
   refine Yi rfl rfl ?_
   refine Zj (Zs (Zc (Za ?_)))
   refine Lo u47 (Zb (.inl rfl) rfl) ?_
   refine Lo u47 (W14 rfl rfl rfl) ?_
   refine Lo u47 (Zb (.inr rfl) rfl) ?_
   refine Ze ?_
   refine Zu (mk 47 140737488354800) (env' := u47) rfl ⟨k + 1, ?_, rfl, ?_⟩
   ·first | omega | (simp only []; omega)
   ·first | exact ⟨by omega, A2, _, g2, rfl, hA3, hg3, hk3⟩ | exact ⟨by omega, A0.set y (gaB (g1 + kpG u ws rss (row ++ [k]))), _, _, ea_fold0, by rw [List.length_set]; exact hA0, List.getElem?_set_self (ZY hg1), IterP.addF hg1 (by have h9 := hI0; rw [ptR_no hkb hkp] at h9; exact h9)⟩
 ·try simp only [qB, qN] at hc1
  refine ZB (ZD (Zv (ZA (Zc (Zd (Za ?_))))))
  refine Lo u47 (Zg (VVal.bool true) (.inr rfl) rfl) ?_
  refine Ze (Zc (Zl ?_))
  refine E_keep (.inr rfl) (Zh rfl rfl) ?_
  exact W4c
theorem patterns_spec {x : SW} {u y : Nat} {ws : List (BitVec 64)} {rss : List (List Rul)} (l : Nat) (hn : ws.length ≤ 1000000) (hr : rss.length = ws.length) (hR : ∀ i, (rss.getD i []).length ≤ 1000000 ∧ ∀ r, r ∈ rss.getD i [] → r.steps.length ≤ 1000000) : ∀ (n : Nat) (A L : Zf) (row : List Nat) (b : Nat) (g : Gz) (K : Bool → Zf → Prop) (hp : Pat row) (hb : b = szP row row.length) (hs : A[y]? = some (gaB g)) (hI : IterP (psys x) l y (tv (ptT (kpB ws rss) (kpG u ws rss) n row b)) (ptT (kpB ws rss) (kpG u ws rss) n row b).2 A K), row.length + n = ws.length → F (psys x) 114 [huP (u : Nat) (fzW ws) (fzRR rss) y, fzN row, iI (b : Nat), .yield l] (A ++ L) (EaP y K A L)
  | 0, A, L, row, b, g, K, hp, hb, hs, hI, hl => patterns_0 l hn hr hR A L row b g K hp hb hs hI hl
  | n + 1, A, L, row, b, g, K, hp, hb, hs, hI, hl => patterns_s l hn hr hR n (fun A L row b g K h1 h2 h3 h4 h5 => patterns_spec l hn hr hR n A L row b g K h1 h2 h3 h4 h5) A L row b g K hp hb hs hI hl
theorem patterns_top {x : SW} {u y : Nat} {ws : List (BitVec 64)} {rss : List (List Rul)} (l : Nat) (hn : ws.length ≤ 1000000) (hr : rss.length = ws.length) (hR : ∀ i, (rss.getD i []).length ≤ 1000000 ∧ ∀ r, r ∈ rss.getD i [] → r.steps.length ≤ 1000000) (A : Zf) (g : Gz) (K : Bool → Zf → Prop) (hs : A[y]? = some (gaB g)) (hI : IterP (psys x) l y (tv (ptT (kpB ws rss) (kpG u ws rss) ws.length [] 0)) (ptT (kpB ws rss) (kpG u ws rss) ws.length [] 0).2 A K) :
    F (psys x) 114 [huP (u : Nat) (fzW ws) (fzRR rss) y, niS, iI 0, .yield l] A fun v G => ∃ b A1 J, v = .bool b ∧ G = A1 ++ J ∧ K b A1 := by
  refine F.pre (Gh.freezeNil (vs' := [huP (u : Nat) (fzW ws) (fzRR rss) y, fzN [], iI 0, .yield l]) 1 rfl rfl) ?_
  have := patterns_spec (x := x) (u := u) l hn hr hR ws.length A [] [] 0 g K Pat_nil rfl hs hI (Nat.zero_add _)
  rw [List.append_nil] at this
  refine this.mono ?_
  rintro v G ⟨b, A1, J, rfl, rfl, _, hk, _⟩
  exact ⟨b, A1, J, rfl, rfl, hk⟩
theorem Patterns1_spec {x : SW} {u y : Nat} {ws : List (BitVec 64)} {rss : List (List Rul)} (l : Nat) (hn : ws.length ≤ 1000000) (hr : rss.length = ws.length) (hR : ∀ i, (rss.getD i []).length ≤ 1000000 ∧ ∀ r, r ∈ rss.getD i [] → r.steps.length ≤ 1000000) (A : Zf) (g : Gz) (K : Bool → Zf → Prop) (hs : A[y]? = some (gaB g)) (hI : IterP (psys x) l y (tv (ptT (kpB ws rss) (kpG u ws rss) ws.length [] 0)) (ptT (kpB ws rss) (kpG u ws rss) ws.length [] 0).2 A K) : F (psys x) 113 [.yield l, .fptr [huP (u : Nat) (fzW ws) (fzRR rss) y] 0] A fun v G => ∃ b A1 J, G = A1 ++ J ∧ K b A1 := by
 refine Zq Tryd.func113 rfl u6 rfl ?_
 rw [List.append_nil]
 refine Za ?_
 refine Lo u6 (W12 rfl rfl rfl rfl) ?_
 refine Lo u6 (Zb (.inl rfl) rfl) ?_
 refine Zp rfl rfl rfl (by exact patterns_top l hn hr hR A g K hs hI) ?_
 rintro _ _ ⟨b, A1, J, rfl, rfl, hk⟩
 refine Le u6 ?_
 refine Ze ?_
 refine E_keep (.inl rfl) (vres_none rfl) ?_
 exact ⟨b, A1, J, rfl, hk⟩
theorem Patterns_spec {x : SW} (H : Zf) {u y : Nat} {ws : List (BitVec 64)} {rss : List (List Rul)} (hy : y < H.length) : F (psys x) 75 [huP (u : Nat) (fzW ws) (fzRR rss) y] H fun v G => v = .func 113 [] [.fptr [huP (u : Nat) (fzW ws) (fzRR rss) y] 0] ∧ G = H := by
 refine Zq Tryd.func75 rfl u4 rfl ?_
 refine Zd (Za ?_)
 refine Lo u4 (ZJ rfl rfl rfl) ?_
 refine Lo u4 (Zg (VVal.nilFunc) (.inr rfl) rfl) ?_
 refine Ze (Zc (Zd (Za ?_)))
 refine L_gh (Gh.freezePtrL (cs := [huP (u : Nat) (fzW ws) (fzRR rss) y]) 1 0 rfl rfl rfl) ?_
 refine Lo u4 (v_func [_] rfl rfl) ?_
 refine Lo u4 (Zb (.inr rfl) rfl) ?_
 refine Ze (Zc (Zl ?_))
 refine W4e (.inr rfl) (Zh rfl rfl) ?_
 exact ⟨rfl, rfl⟩
theorem W4f {T : TypeId → Option VTy} {H : Zf} {op : Op} {ρ : Operand → VVal} {t : TypeId} {a : Operand} {y : VTy} {p : VVal} {n : Nat} {vs : List VVal} (ho : op = .load t a) (ha : ρ a = p) (hy : T t = some y) (hd : Zo y.desc = true) (hn : y.size = n) (h : LdOkA H p n vs := by first | exact .inl ⟨_, _, rfl, by first | rfl | assumption⟩ | exact .inr ⟨_, _, _, _, rfl, XH43, by first | rfl | assumption⟩) : vop T ρ H op = some (.agg vs, H) := v_ldA ho ha hy hd hn h
theorem W4i {P : Prop} (h : P := by first | exact ⟨true, A0, _, List.append_assoc _ _ _, hI⟩ | exact ⟨false, A0, _, List.append_assoc _ _ _, hX⟩) : P := h
theorem W4j {S : V.Sys} {H : Zf} {fn : Func} {ex : Exit} {env : VEnv} {B L : Zf} {v : VVal} {R : VVal → Zf → Prop} (hx : ex = .normal ∨ ex = .ret) (hv : ZV S.C.T env (B ++ L) fn.results = some v) (h : R v B) (hB : BaseOk H B := by exact XH49) (hu : v.under H.length = true := by show (true && (VVal.underL _ (pbB p) && true)) = true; rw [show VVal.underL _ (pbB p) = true from pb_under (p := p)]; rfl) : fnK S fn H R ex env (B ++ L) := YA hx hv hB hu h
def ptP (p : Pb) : List (List Nat) := if pck p = 0 then (ptT (kpB (wsP p) (YZ p)) (kpG p.users.toNat (wsP p) (YZ p)) (wsP p).length [] 0).1.map Prod.snd else []
abbrev fvP (p : Pb) (a : List Nat) : List VVal := [fzN a, fzW (Yb (wsP p) a a.length)]
theorem Yd {p : Pb} {a : List Nat} (h : a ∈ ptP p) : pck p = 0 ∧ Pat a ∧ a.length = p.who.length ∧ a ∈ pats p.who.length [] 0 ∧ keptN (kpB (wsP p) (YZ p)) 0 a = true := by
  unfold ptP at h
  split at h
  · rename_i h0
    rw [ptT_snd, List.mem_filter, wsP_len] at h
    obtain ⟨z, hz, hl⟩ := pats_len h.1
    rw [List.nil_append] at hz; subst hz
    exact ⟨h0, pats_pat Pat_nil h.1, hl, h.1, h.2⟩
  · cases h
theorem tpat1_bad {x : SW} (l : Nat) (p : Pb) (hpl : PbL p) (A : Zf) (K : Bool → Zf → Prop) (hI : IterJ (psys x) l ((ptP p).map (fvP p)) A K) (hb : ¬ pck p = 0) : F (psys x) 92 [.yield l, .fptr (pbB p) 0] A fun v G => ∃ b A1 J, G = A1 ++ J ∧ K b A1 := by
 refine Zq Tryd.func92 rfl u22 rfl ?_
 refine Zd (Za ?_)
 refine Lo u22 (ZJ rfl rfl rfl) ?_
 refine Ze (Zc (Zd (Zd ?_)))
 refine Yu (Gh.freezePtrL (cs := [.yield l]) 2 0 rfl rfl rfl) ?_
 refine Za ?_
 refine Lo u22 (W4f rfl rfl rfl rfl rfl) ?_
 refine Zp rfl rfl rfl (by exact sCheck_spec _ p hpl) ?_
 rintro _ _ ⟨rfl, rfl⟩
 refine Le u22 ?_
 refine Lo u22 (v_is true rfl (by simp [hb])) ?_
 refine Ze (Zc ?_)
 refine ZP rfl rfl ?_
 refine Zl (Zm ?_)
 refine E_keep (.inr rfl) (vres_none rfl) ?_
 exact ⟨true, A, _, rfl, by rw [show ptP p = [] from if_neg hb] at hI; exact hI⟩
theorem tpat1_ok {x : SW} (l : Nat) (p : Pb) (hpl : PbL p) (A : Zf) (K : Bool → Zf → Prop) (hI : IterJ (psys x) l ((ptP p).map (fvP p)) A K) (h0 : pck p = 0) : F (psys x) 92 [.yield l, .fptr (pbB p) 0] A fun v G => ∃ b A1 J, G = A1 ++ J ∧ K b A1 := by
 have hg : Go.V.Good p := pck_good.1 h0
 have hn : (wsP p).length ≤ 1000000 := by rw [wsP_len]; exact hpl.w
 rw [show ptP p = (ptT (kpB (wsP p) (YZ p)) (kpG p.users.toNat (wsP p) (YZ p)) (wsP p).length [] 0).1.map Prod.snd from if_pos h0] at hI
 have hT : ∀ q, q ∈ (ptT (kpB (wsP p) (YZ p)) (kpG p.users.toNat (wsP p) (YZ p)) (wsP p).length [] 0).1 → Pat q.2 ∧ q.2.length = (wsP p).length := fun q hq => by
    have h9 : q.2 ∈ ptP p := by rw [show ptP p = (ptT (kpB (wsP p) (YZ p)) (kpG p.users.toNat (wsP p) (YZ p)) (wsP p).length [] 0).1.map Prod.snd from if_pos h0]; exact List.mem_map_of_mem hq
    have h8 := Yd h9
    exact ⟨h8.2.1, by rw [wsP_len]; exact h8.2.2.1⟩
 refine Zq Tryd.func92 rfl u22 rfl ?_
 refine Zd (Za ?_)
 refine Lo u22 (ZJ rfl rfl rfl) ?_
 refine Ze (Zc (Zd (Zd ?_)))
 refine Yu (Gh.freezePtrL (cs := [.yield l]) 2 0 rfl rfl rfl) ?_
 refine Za ?_
 refine Lo u22 (W4f rfl rfl rfl rfl rfl) ?_
 refine Zp rfl rfl rfl (by exact sCheck_spec _ p hpl) ?_
 rintro _ _ ⟨rfl, rfl⟩
 refine Le u22 ?_
 refine Lo u22 (v_is false rfl (by rw [h0]; rfl)) ?_
 refine Ze (Zc ?_)
 refine Yi rfl rfl ?_
 refine Zj (Zc (Zd (Za ?_)))
 refine Lo u22 (W4f rfl rfl rfl rfl rfl) ?_
 refine Lo u22 (rfl) ?_
 refine Lo u22 (ZJ rfl rfl rfl) ?_
 refine Zp rfl rfl rfl (by exact New_N _ p (A.length + 1) (by simp) hg) ?_
 rintro _ _ ⟨rfl, rfl⟩
 refine Le u22 ?_
 refine Lo u22 (ZR rfl rfl) ?_
 refine Lo u22 (W13 rfl rfl rfl rfl rfl rfl rfl) ?_
 refine Ze (Zc (Zd ?_))
 refine Yu (Gh.freezePtrL (cs := [huP (p.users.toNat : Nat) (fzW (wsP p)) (fzRR (YZ p)) (A.length + 1)]) 3 2 rfl rfl rfl) ?_
 refine Za ?_
 refine Lo u22 (W4a rfl rfl rfl rfl) ?_
 refine Zp rfl rfl rfl (by exact Patterns_spec _ (by simp)) ?_
 rintro _ _ ⟨rfl, rfl⟩
 refine Le u22 ?_
 refine Ze (Zc (Zi ?_))
 refine Zt (mk 22 4186099) (env' := u22) rfl ?_
 refine B_rangePJ ((A.length + 1)) (tv (ptT (kpB (wsP p) (YZ p)) (kpG p.users.toNat (wsP p) (YZ p)) (wsP p).length [] 0)) ((ptT (kpB (wsP p) (YZ p)) (kpG p.users.toNat (wsP p) (YZ p)) (wsP p).length [] 0).2) (fun l0 h => by cases h) rfl (fun l9 G9 K9 hg9 hI9 => Patterns1_spec l9 hn rssP_len (rssP_ok hg) G9 _ K9 hg9.choose_spec hI9) (σ := {q : Zf × Gz // q.1.length = A.length}) (fun k s => s.1.1 ++ [.dead, gaB s.1.2, .dead, k]) ⟨(A, 0), rfl⟩ (fun k => by simp; rfl) (fun k s => by simp [s.2]) (fun k s => by rw [show (A ++ _ : Zf).length = A.length + 3 by simp]; exact ZL s.2 rfl) (fun k k1 s => by rw [show (A ++ _ : Zf).length = A.length + 3 by simp]; exact ZO s.2) (fun s => s.1.2) (fun d s => ⟨(s.1.1, s.1.2 + d), s.2⟩) (fun pre s => ∃ z, tv (ptT (kpB (wsP p) (YZ p)) (kpG p.users.toNat (wsP p) (YZ p)) (wsP p).length [] 0) = pre ++ tv (z, (ptT (kpB (wsP p) (YZ p)) (kpG p.users.toNat (wsP p) (YZ p)) (wsP p).length [] 0).2) ∧ (∀ q, q ∈ z → Pat q.2 ∧ q.2.length = (wsP p).length) ∧ IterJ (psys x) l ((z.map Prod.snd).map (fvP p)) s.1.1 K) (fun k s pre hI => by exact ZL s.2 rfl) (fun k s d pre hI => by exact ZO s.2) ?_ (fun j pre c s => (j = Code.ret ∧ (K false s.1.1))) rfl ?_ ?_ ?_
 ·exact ⟨(ptT (kpB (wsP p) (YZ p)) (kpG p.users.toNat (wsP p) (YZ p)) (wsP p).length [] 0).1, rfl, hT, hI⟩
 ·intro pre d c post s hx hI Lp kr kb hkr hkb
  obtain ⟨⟨A0, g0⟩, hA0⟩ := s
  try dsimp only at hI ⊢
  have hA0 : A0.length = A.length := hA0
  obtain ⟨z, hz, hzl, hI⟩ := hI
  obtain ⟨a, z, rfl, rfl⟩ : ∃ us z1, z = (d, us) :: z1 ∧ c = fzN us := tv_cons (List.append_cancel_left (hz.symm.trans hx))
  obtain ⟨hpa, hal⟩ := hzl _ (List.mem_cons_self ..)
  have hal : a.length = (wsP p).length := hal; have hpa : Pat a := hpa
  refine ZM (env' := u22) rfl ?_
  refine Za ?_
  refine Lo u22 (Zb (.inr rfl) rfl) ?_
  refine Ze ?_
  refine ⟨rfl, ⟨(A0, g0 + d), hA0⟩, rfl, ?_⟩
  try dsimp only
  refine B_heap (H' := A0 ++ ([.dead, gaB (g0 + d), .dead, kb] ++ Lp)) (by simp) ?_
  refine Zi (Zd ?_)
  refine B_drawP #[0, 0, 0, 0, 12, 31, 63] XH7 ?_
  refine P_seg [0, 1, 2, 3, 4] (bef := #[0, 0, 0, 0, 12, 31, 63]) XH7 XH7 XH7 ?_
  refine Yn (env' := u22) (x := .look _ _) rfl rfl rfl (W4a rfl rfl rfl rfl) rfl rfl rfl ?_
  refine Oo u22 .calm rfl (Zb (.inl rfl) rfl) ?_
  refine Oo u22 .look rfl (W4a rfl rfl rfl rfl) ?_
  refine Oo u22 .calm rfl (Zb (.inl rfl) rfl) ?_
  refine Yj (env' := u22) rfl rfl rfl rfl rfl (by exact hBlocks_spec _ _ _ hpa (by omega) hn) XH9 rfl rfl ?_
  refine ZU [_] (by rfl) (And.intro (And.intro (W4a rfl rfl rfl rfl) (W4a rfl rfl rfl rfl)) trivial) ?_
  refine P_piv 5 (bef := #[0, 0, 0, 0, 12, 31, 63]) XH7 XH7 rfl rfl rfl rfl (by exact hI _) ?_
  rintro _ _ ⟨b1, A2, J2, rfl, rfl, hA2, hk⟩; have hA3 : A2.length = A.length := hA2.trans hA0
  refine P_env (env' := u22) rfl ?_
  refine P_seg [6] (bef := #[0, 0, 0, 0, 12, 31, 63]) XH7 XH7 XH7 ?_
  refine Oo u22 .calm rfl (rfl) ?_
  refine ZU [] XH7 (trivial) ?_
  refine P_end XH7 ?_
  refine Zc ?_
  refine Zk _ rfl (fun hc1 => ?_) (fun hc1 => ?_)
  ·try simp only [qB, qN] at hc1
   have hb : b1 = false := by simpa using hc1
   subst hb
   have hk3 : K false A2 := hk
   refine Zl (ZF ?_)
   refine ⟨⟨(A2, g0 + d), hA3⟩, J2, (by simp), .inr ⟨Code.ret, rfl, ⟨rfl, ?_⟩⟩⟩
   exact hk3
  ·try simp only [qB, qN] at hc1
   have hb : b1 = true := by simpa using hc1
   subst hb
   have hk3 : IterJ (psys x) l ((z.map Prod.snd).map (fvP p)) A2 K := hk
   refine Zj (Zs ?_)
   refine ⟨⟨(A2, g0 + d), hA3⟩, J2, (by simp), .inl ⟨rfl, ?_⟩⟩
   exact ⟨z, by rw [hz, List.append_assoc]; rfl, fun q hq => hzl q (List.mem_cons_of_mem _ hq), hk3⟩
 ·intro s k hk hI J9
  obtain ⟨⟨A0, g0⟩, hA0⟩ := s
  try dsimp only at hI ⊢
  obtain ⟨z, hz, hzl, hI⟩ := hI
  obtain rfl := tv_nil hz
  have hI : K true A0 := hI
  refine Zs ?_
  refine E_keep (.inl rfl) (vres_none rfl) ?_
  exact W4i
 ·rintro j pre c post s k hk hx (⟨rfl, hX⟩) J9
  obtain ⟨⟨A0, g0⟩, hA0⟩ := s
  try dsimp only
  refine J_ret ?_
  refine ZF ?_
  refine E_keep (.inr rfl) (vres_none rfl) ?_
  exact W4i
theorem tpat1_spec {x : SW} (l : Nat) (p : Pb) (hpl : PbL p) (A : Zf) (K : Bool → Zf → Prop) (hI : IterJ (psys x) l ((ptP p).map (fvP p)) A K) : F (psys x) 92 [.yield l, .fptr (pbB p) 0] A fun v G => ∃ b A1 J, G = A1 ++ J ∧ K b A1 := by
  by_cases h : pck p = 0
  · exact tpat1_ok l p hpl A K hI h
  · exact tpat1_bad l p hpl A K hI h
theorem tpat_spec {x : SW} (H : Zf) (p : Pb) : F (psys x) 57 [.agg (pbB p)] H fun v G => v = .func 92 [] [.fptr (pbB p) 0] ∧ G = H := by
 refine Zq Tryd.func57 rfl u4 rfl ?_
 refine Zd (Za ?_)
 refine Lo u4 (ZJ rfl rfl rfl) ?_
 refine Lo u4 (Zg (VVal.nilFunc) (.inr rfl) rfl) ?_
 refine Ze (Zc (Zd (Za ?_)))
 refine L_gh (Gh.freezePtrL (cs := pbB p) 1 0 rfl rfl rfl) ?_
 refine Lo u4 (v_func [_] rfl rfl) ?_
 refine Lo u4 (Zb (.inr rfl) rfl) ?_
 refine Ze (Zc (Zl ?_))
 refine W4j (.inr rfl) (Zh rfl rfl) ?_
 exact ⟨rfl, rfl⟩
abbrev u14 {a0 a1 a2 a3 a4 a5 a6 a7 a8 a9 a10 a11 a12 a13 : VVal} : VEnv := a0 :: a1 :: a2 :: a3 :: a4 :: a5 :: a6 :: a7 :: a8 :: a9 :: a10 :: a11 :: a12 :: a13 :: []
abbrev u27 {a0 a1 a2 a3 a4 a5 a6 a7 a8 a9 a10 a11 a12 a13 a14 a15 a16 a17 a18 a19 a20 a21 a22 a23 a24 a25 a26 : VVal} : VEnv := a0 :: a1 :: a2 :: a3 :: a4 :: a5 :: a6 :: a7 :: a8 :: a9 :: a10 :: a11 :: a12 :: a13 :: a14 :: a15 :: a16 :: a17 :: a18 :: a19 :: a20 :: a21 :: a22 :: a23 :: a24 :: a25 :: a26 :: []
theorem W4l {T : TypeId → Option VTy} {H : Zf} {op : Op} {ρ : Operand → VVal} {t : TypeId} {a : Operand} {y : VTy} {p v : VVal} (ho : op = .load t a) (ha : ρ a = p) (hy : T t = some y) (hd : Zo y.desc = false) (h : LdOk H p v := by exact XH55) : vop T ρ H op = some (v, H) := v_ld ho ha hy hd h
theorem W4o {T : TypeId → Option VTy} {H : Zf} {op : Op} {ρ : Operand → VVal} {t : TypeId} {a : Operand} {y : VTy} {p v : VVal} (ho : op = .load t a) (ha : ρ a = p) (hy : T t = some y) (hd : Zo y.desc = false) (h : LdOk H p v := by first | exact .inl ⟨_, _, rfl, by exact mx0 hp h0⟩ | exact .inr ⟨_, _, _, _, rfl, XH43, by exact mx0 hp h0⟩) : vop T ρ H op = some (v, H) := v_ld ho ha hy hd h
theorem szP_max {a : List Nat} (hp : Pat a) {k : Nat} (h : k < a.length) : szP a (k + 1) = max (szP a k) (a.getD k 0 + 1) := by
  have := hp k h
  rw [szP]; split <;> omega
theorem mx0 {a : List Nat} (hp : Pat a) (h0 : 0 < a.length) : (a.map fun n : Nat => iI (n : Int))[(0 : Int).toNat * 1]? = some (iI ((szP a 1 : Nat) - 1 : Int)) := by
  have h := fget (f := fun n : Nat => iI (n : Int)) (l := a) (n := 0) 0 (by omega)
  have h1 := szP_max hp h0
  have h2 := hp 0 h0
  rw [h]
  congr 2
  show ((a.getD 0 0 : Nat) : Int) = _
  rw [h1]
  have : szP a 0 = 0 := rfl
  omega
theorem pLegal_spec {x : SW} (H : Zf) (a : List Nat) (hp : Pat a) (hl : a.length ≤ 25) : F (psys x) 110 [fzN a] H fun v G => v = .bool true ∧ G = H := by
 refine Zq Tryd.func110 rfl u27 rfl ?_
 refine Zd (Za ?_)
 refine Lo u27 (Zg (VVal.bool false) (.inr rfl) rfl) ?_
 refine Ze (Zc (Zd (Zd (Za ?_))))
 refine Lo u27 (Zb (.inl rfl) rfl) ?_
 refine Lo u27 (rfl) ?_
 refine Lo u27 (v_is false rfl (by simp; omega)) ?_
 refine Ze (Zc ?_)
 refine Yi rfl rfl ?_
 refine Zj (Zc (Zd (Za ?_)))
 refine Lo u27 (Zg (VVal.int .i64 0) (.inr rfl) rfl) ?_
 refine Ze (Zc (Zd (Zd (Za ?_))))
 refine Lo u27 (Zb (.inl rfl) rfl) ?_
 refine Lo u27 (rfl) ?_
 refine Lo u27 (Zg (VVal.int .i64 0) (.inl rfl) rfl) ?_
 refine Ze (Zc (Zi ?_))
 refine Zt (mk 27 134214135) (env' := u27) rfl ?_
 refine Zy (fun (k : Nat) => a.length - k) (fun (k : Nat) => [(3, iI (szP a k : Nat)), (11, iI (k : Nat))]) (fun (k : Nat) G => (k ≤ a.length) ∧ G = H ++ []) 0 rfl ?_ ?_
 ·refine ⟨?_, rfl⟩
  exact Nat.zero_le _
 rintro k _ ⟨hk, rfl⟩
 refine ZM (env' := u27) rfl ?_
 refine Zd (Za ?_)
 refine Lo u27 (rfl) ?_
 refine Ze (Zc (Zd ?_))
 refine Zk _ rfl (fun hc1 => ?_) (fun hc1 => ?_)
 ·try simp only [qB, qN] at hc1
  refine Zj (Zc (Zd (Zi (Zd (Za ?_)))))
  refine Lo u27 (W18 rfl rfl rfl rfl rfl rfl rfl) ?_
  refine Lo u27 (W4l rfl rfl rfl rfl) ?_
  refine Lo u27 (Zb (.inr rfl) rfl) ?_
  refine Ze (Zc (Zd (Zd ?_)))
  have hpk := hp k (by omega)
  have hsz := @Yy a k
  have hE := szP_max hp (k := k) (by omega)
  refine Za ?_
  refine Lo u27 (Zb (.inl rfl) rfl) ?_
  refine Lo u27 (v_is false rfl (by simp)) ?_
  refine Lo u27 (Zb (.inl rfl) rfl) ?_
  refine Lo u27 (Zb (.inl rfl) rfl) ?_
  refine Lo u27 (Zb (.inl rfl) rfl) ?_
  refine Lo u27 (v_is false rfl (decide_eq_false (by omega))) ?_
  refine Lo u27 (ZT rfl rfl rfl) ?_
  refine Ze (Zc ?_)
  refine Yi rfl rfl ?_
  refine Zj (Zc (Za ?_))
  refine Lo u27 (Zb (.inl rfl) rfl) ?_
  refine Lo u27 (Zb (.inl rfl) rfl) ?_
  refine Lo u27 (W14 rfl rfl rfl) ?_
  refine Lo u27 (v_val (u := iI (szP a (k + 1) : Nat)) rfl (congrArg iI (show (if (((a.getD k 0 : Nat) : Int) + 1) > ((szP a k : Nat) : Int) then (((a.getD k 0 : Nat) : Int) + 1) else ((szP a k : Nat) : Int)) = ((szP a (k + 1) : Nat) : Int) by split <;> omega))) ?_
  refine Lo u27 (Zb (.inr rfl) rfl) ?_
  refine Ze (Zs (Zc (Za ?_)))
  refine Lo u27 (W14 rfl rfl rfl) ?_
  refine Lo u27 (Zb (.inl rfl) rfl) ?_
  refine Ze ?_
  refine Zu (mk 27 134214135) (env' := u27) rfl ⟨k + 1, ?_, rfl, ?_⟩
  ·first | omega | (simp only []; omega)
  ·exact ⟨by omega, rfl⟩
 ·try simp only [qB, qN] at hc1
  refine ZB (ZD (Zv (ZA (Zc (Zd (Za ?_))))))
  refine Lo u27 (Zg (VVal.bool true) (.inr rfl) rfl) ?_
  refine Ze (Zc (Zl ?_))
  refine W10 (.inr rfl) (Zh rfl rfl) ?_
  exact ⟨rfl, rfl⟩
theorem sMax_spec {x : SW} (H : Zf) (a : List Nat) (hp : Pat a) (h0 : 0 < a.length) (hl : a.length ≤ 25) : F (psys x) 111 [fzN a] H fun v G => v = iI ((szP a a.length : Nat) - 1 : Int) ∧ G = H := by
 refine Zq Tryd.func111 rfl u25 rfl ?_
 refine Zd (Za ?_)
 refine Lo u25 (Zg (VVal.int .i64 0) (.inr rfl) rfl) ?_
 refine Ze (Zc (Zd (Zd (Za ?_))))
 refine Lo u25 (Zb (.inl rfl) rfl) ?_
 refine Lo u25 (rfl) ?_
 refine Lo u25 (v_is false rfl (decide_eq_false (by omega))) ?_
 refine Ze (Zc ?_)
 refine Yi rfl rfl ?_
 refine Zj (Zc (Zd (Za ?_)))
 refine Lo u25 (Zb (.inl rfl) rfl) ?_
 refine Lo u25 (W18 rfl rfl rfl rfl rfl rfl rfl) ?_
 refine Lo u25 (W4o rfl rfl rfl rfl) ?_
 refine Lo u25 (Zb (.inr rfl) rfl) ?_
 refine Ze (Zc (Zd (Zd (Za ?_))))
 refine Lo u25 (Zg (VVal.int .i64 1) (.inr rfl) rfl) ?_
 refine Ze (Zc (Zi ?_))
 refine Zt (mk 25 33554406) (env' := u25) rfl ?_
 refine Zy (fun (i : Nat) => a.length - i) (fun (i : Nat) => [(3, iI ((szP a i : Nat) - 1 : Int)), (4, iI (i : Nat))]) (fun (i : Nat) G => (1 ≤ i ∧ i ≤ a.length) ∧ G = H ++ []) 1 rfl ?_ ?_
 ·refine ⟨?_, rfl⟩
  exact ⟨Nat.le_refl _, h0⟩
 rintro i _ ⟨⟨hi1, hi⟩, rfl⟩
 refine ZM (env' := u25) rfl ?_
 refine Zd (Zd (Za ?_))
 refine Lo u25 (Zb (.inl rfl) rfl) ?_
 refine Lo u25 (Zb (.inl rfl) rfl) ?_
 refine Lo u25 (rfl) ?_
 refine Lo u25 (rfl) ?_
 refine Ze (Zc ?_)
 refine Zk _ rfl (fun hc1 => ?_) (fun hc1 => ?_)
 ·try simp only [qB, qN] at hc1
  refine Zj (Zc (Zd (Zi ?_)))
  have hpk := hp i (by omega)
  have hsz := @Yy a i
  have hE := szP_max hp (k := i) (by omega)
  refine Za ?_
  refine Lo u25 (Zb (.inl rfl) rfl) ?_
  refine Lo u25 (Zb (.inl rfl) rfl) ?_
  refine Lo u25 (Zb (.inl rfl) rfl) ?_
  refine Lo u25 (W18 rfl rfl rfl rfl rfl rfl rfl) ?_
  refine Lo u25 (W4l rfl rfl rfl rfl) ?_
  refine Lo u25 (v_val (u := iI ((szP a (i + 1) : Nat) - 1 : Int)) rfl (congrArg iI (show (if ((a.getD i 0 : Nat) : Int) > ((szP a i : Nat) : Int) - 1 then ((a.getD i 0 : Nat) : Int) else ((szP a i : Nat) : Int) - 1) = ((szP a (i + 1) : Nat) : Int) - 1 by split <;> omega))) ?_
  refine Lo u25 (Zb (.inr rfl) rfl) ?_
  refine Ze (Zs (Zc (Za ?_)))
  refine Lo u25 (Zb (.inl rfl) rfl) ?_
  refine Lo u25 (W14 rfl rfl rfl) ?_
  refine Lo u25 (Zb (.inr rfl) rfl) ?_
  refine Ze ?_
  refine Zu (mk 25 33554406) (env' := u25) rfl ⟨i + 1, ?_, rfl, ?_⟩
  ·first | omega | (simp only []; omega)
  ·exact ⟨⟨by omega, by omega⟩, rfl⟩
 ·try simp only [qB, qN] at hc1
  refine ZB (ZD (Zv (ZA (Zc (Zd (Za ?_))))))
  refine Lo u25 (Zb (.inl rfl) rfl) ?_
  refine Lo u25 (Zb (.inr rfl) rfl) ?_
  refine Ze (Zc (Zl ?_))
  refine W10 (.inr rfl) (Zh rfl rfl) ?_
  obtain rfl : i = a.length := by omega
  exact ⟨rfl, rfl⟩
theorem pSize_spec {x : SW} (H : Zf) (a : List Nat) (hp : Pat a) (hl : a.length ≤ 25) : F (psys x) 70 [fzN a] H fun v G => v = iI (szP a a.length : Nat) ∧ G = H := by
 have hsz := @Yy a a.length
 refine Zq Tryd.func70 rfl u14 rfl ?_
 refine Zd (Za ?_)
 refine Lo u14 (Zg (VVal.int .i64 0) (.inr rfl) rfl) ?_
 refine Ze (Zc (Zd (Zd (Za ?_))))
 refine Lo u14 (Zb (.inl rfl) rfl) ?_
 refine Zp rfl rfl rfl (by exact pLegal_spec _ _ (by assumption) (by omega)) ?_
 rintro _ _ ⟨rfl, rfl⟩
 refine Le u14 ?_
 refine Lo u14 (v_is false rfl rfl) ?_
 refine Lo u14 (Zb (.inl rfl) rfl) ?_
 refine Lo u14 (Zb (.inl rfl) rfl) ?_
 refine Lo u14 (rfl) ?_
 refine Lo u14 (rfl) ?_
 refine Lo u14 (ZT rfl rfl rfl) ?_
 refine Ze (Zc ?_)
 refine Zk _ rfl (fun hc1 => ?_) (fun hc1 => ?_)
 ·try simp only [qB, qN] at hc1
  refine Zd (Za ?_)
  refine Lo u14 (Zg (VVal.int .i64 0) (.inr rfl) rfl) ?_
  refine Ze (Zc (Zl (Zm ?_)))
  refine W10 (.inr rfl) (Zh rfl rfl) ?_
  exact ⟨congrArg iI (by omega), rfl⟩
 ·try simp only [qB, qN] at hc1
  refine Zj (Zc (Zd (Za ?_)))
  refine Lo u14 (Zb (.inl rfl) rfl) ?_
  refine Zp rfl rfl rfl (by exact sMax_spec _ _ (by assumption) (by omega) (by omega)) ?_
  rintro _ _ ⟨rfl, rfl⟩
  refine Le u14 ?_
  refine Lo u14 (W14 rfl rfl rfl) ?_
  refine Lo u14 (Zb (.inr rfl) rfl) ?_
  refine Ze (Zc (Zl ?_))
  refine W10 (.inr rfl) (Zh rfl rfl) ?_
  exact ⟨congrArg iI (by omega), rfl⟩
theorem wt_cells {q : List Rul} {r : Rul} : Zx (q.flatMap rlB ++ rlB r) 0 ((q.length + 1) * 3) = some ((q ++ [r]).flatMap rlB) := by
  have e : (q ++ [r]).flatMap rlB = q.flatMap rlB ++ rlB r := by rw [List.flatMap_append, List.flatMap_singleton]
  have hl : (q.flatMap rlB ++ rlB r).length = (q.length + 1) * 3 := by rw [← e, fl3, List.length_append]; rfl
  unfold Zx
  rw [if_pos (by omega), List.drop_zero, List.take_of_length_le (by omega), e]
abbrev u56 {a0 a1 a2 a3 a4 a5 a6 a7 a8 a9 a10 a11 a12 a13 a14 a15 a16 a17 a18 a19 a20 a21 a22 a23 a24 a25 a26 a27 a28 a29 a30 a31 a32 a33 a34 a35 a36 a37 a38 a39 a40 a41 a42 a43 a44 a45 a46 a47 a48 a49 a50 a51 a52 a53 a54 a55 : VVal} : VEnv := a0 :: a1 :: a2 :: a3 :: a4 :: a5 :: a6 :: a7 :: a8 :: a9 :: a10 :: a11 :: a12 :: a13 :: a14 :: a15 :: a16 :: a17 :: a18 :: a19 :: a20 :: a21 :: a22 :: a23 :: a24 :: a25 :: a26 :: a27 :: a28 :: a29 :: a30 :: a31 :: a32 :: a33 :: a34 :: a35 :: a36 :: a37 :: a38 :: a39 :: a40 :: a41 :: a42 :: a43 :: a44 :: a45 :: a46 :: a47 :: a48 :: a49 :: a50 :: a51 :: a52 :: a53 :: a54 :: a55 :: []
theorem LV_ne {h es : Nat} {X : Zf} {v : VVal} {cs : List VVal} {n k : Nat} (l : LV h es X v cs n) (hk : X.length ≤ k) : YU v ≠ some (h + k) := by
  rcases l.2 with ⟨_, rfl⟩ | ⟨_, b, rfl, hb⟩
  · intro e; cases e
  · have := (List.getElem?_eq_some_iff.1 hb).1
    intro e
    have e2 : h + b = h + k := Option.some.inj e
    omega
theorem LV_shift {h d es : Nat} {X L : Zf} {v : VVal} {cs : List VVal} {n : Nat} (l : LV (h + d) es X v cs n) (hL : L.length = d) : LV h es (L ++ X) v cs n := by
  refine ⟨l.1, ?_⟩
  rcases l.2 with h1 | ⟨h1, b, rfl, hb⟩
  · exact .inl h1
  · exact .inr ⟨h1, d + b, by rw [Nat.add_assoc], by rw [List.getElem?_append_right (by omega), show d + b - L.length = b by omega]; exact hb⟩
theorem Twin_R {x : SW} (H : Zf) (p : Pb) (hp : PbL p) (hne : 0 < p.fixed.length) (hnw : 0 < p.who.length) (hst : ∀ r, r ∈ p.rules → 0 < r.steps.length) : F (psys x) 103 [.agg (pbB p)] H fun v G => ∃ Y lv, v = .agg [iI p.users, fzW p.who, fzI p.fixed, lv] ∧ G = H ++ Y ∧ LV H.length 3 Y lv (p.rules.flatMap rlB) p.rules.length := by
 have h1 := hp.w; have h2 := hp.f; have h3 := hp.r; have h4 := hp.s
 refine Zq Tryd.func103 rfl u56 rfl ?_
 refine Zd (Za ?_)
 refine Lo u56 (ZJ rfl rfl rfl) ?_
 refine Lo u56 (ZR rfl rfl) ?_
 refine Ze (Zc (Zd ?_))
 refine Yu (Gh.freezePtrL (cs := pbB p) 1 0 rfl rfl rfl) ?_
 refine Za ?_
 refine Lo u56 (rfl) ?_
 refine Lo u56 (W2r rfl rfl rfl rfl) ?_
 refine Lo u56 (rfl) ?_
 refine Lo u56 (ZR rfl rfl) ?_
 refine Lo u56 (W13 rfl rfl rfl rfl rfl rfl rfl) ?_
 refine Ze (Zc (Zd (Za ?_)))
 refine Lo u56 (rfl) ?_
 refine Lo u56 (W2r rfl rfl rfl rfl) ?_
 refine Lo u56 (rfl) ?_
 refine Lo u56 (W2r rfl rfl rfl rfl) ?_
 refine Lo u56 (v_appNF rfl rfl rfl rfl rfl rfl rfl XH28 (mapW_one _) (by decide) hnw (by show p.who.length * 8 ≤ _ ∧ _; omega)) ?_
 refine Lo u56 (rfl) ?_
 refine Lo u56 (W13 rfl rfl rfl rfl rfl rfl rfl) ?_
 refine Ze (Zc (Zd ?_))
 refine Yu (Gh.cellL (l := p.who.map iW) 2 1 3 rfl rfl (by decide) rfl wApp_c (Nat.le_refl _)) ?_
 refine Za ?_
 refine Lo u56 (rfl) ?_
 refine Lo u56 (W2r rfl rfl rfl rfl) ?_
 refine Lo u56 (rfl) ?_
 refine Lo u56 (W2r rfl rfl rfl rfl) ?_
 refine Lo u56 (v_appNF rfl rfl rfl rfl rfl rfl rfl XH28 (mapI_one _) (by decide) hne (by show p.fixed.length * 8 ≤ _ ∧ _; omega)) ?_
 refine Lo u56 (rfl) ?_
 refine Lo u56 (W13 rfl rfl rfl rfl rfl rfl rfl) ?_
 refine Ze (Zc (Zd (Zd ?_)))
 refine Yu (Gh.cellL (l := p.fixed.map iI) 2 2 4 rfl rfl (by decide) rfl map_all (Nat.le_refl _)) ?_
 refine Za ?_
 refine Lo u56 (Zg (VVal.int .i64 0) (.inr rfl) rfl) ?_
 refine Ze (Zc (Zi ?_))
 refine Zt (mk 56 72057594037927905) (env' := u56) rfl ?_
 refine Zy (fun (k : Nat) => p.rules.length - k) (fun (k : Nat) => [(4, iI (k : Nat))]) (fun (k : Nat) G => (k ≤ p.rules.length) ∧ ∃ lv X, G = (H ++ [.dead, pqB 0 Yr Yr Yr, .cells [iI p.users, fzW p.who, fzI p.fixed, lv] true, .dead, .dead]) ++ X ∧ LV (H.length + 5) 3 X lv ((p.rules.take k).flatMap rlB) (p.rules.take k).length) 0 rfl ?_ ?_
 ·refine ⟨?_, ⟨_, [], by rw [List.append_nil]; rfl, LV.nil _ _ _⟩⟩
  exact Nat.zero_le _
 rintro k _ ⟨hk, ⟨lv, X, rfl, hl⟩⟩
 refine ZM (env' := u56) rfl ?_
 refine Zd (Zd (Za ?_))
 refine Lo u56 (Zb (.inl rfl) rfl) ?_
 refine Lo u56 (rfl) ?_
 refine Lo u56 (W2r rfl rfl rfl rfl) ?_
 refine Lo u56 (rfl) ?_
 refine Lo u56 (rfl) ?_
 refine Ze (Zc ?_)
 refine Zk _ rfl (fun hc1 => ?_) (fun hc1 => ?_)
 ·try simp only [qB, qN] at hc1
  refine Zj (Zc (Zd (Zi (Zd (Za ?_)))))
  refine Lo u56 (Zg (VVal.slice none 0 0 true 0) (.inr rfl) rfl) ?_
  refine Ze (Zc (Zd ?_))
  have hr1 := Y5 (l := p.rules) (k := k) (by omega)
  have hs1 := h4 _ hr1
  have hs2 := hst _ hr1
  refine Za ?_
  refine Lo u56 (Zb (.inl rfl) rfl) ?_
  refine Lo u56 (rfl) ?_
  refine Lo u56 (W2r rfl rfl rfl rfl) ?_
  refine Lo u56 (Zb (.inl rfl) rfl) ?_
  refine Lo u56 (W18 rfl rfl rfl rfl rfl rfl rfl) ?_
  refine Lo u56 (rfl) ?_
  refine Lo u56 (W2r rfl rfl rfl rfl) ?_
  refine Lo u56 (v_appNF rfl rfl rfl rfl rfl rfl rfl XH28 (mapI_one _) (by decide) hs2 (by show (p.rules.getD k r0).steps.length * 8 ≤ _ ∧ _; omega)) ?_
  refine Lo u56 (Zb (.inr rfl) rfl) ?_
  refine Ze (Zc ?_)
  refine Yu (Gh.freezeL (l := (p.rules.getD k r0).steps.map iI) 5 X.length rfl get_end map_all (Nat.le_refl _) rfl) ?_
  rw [set_end]
  refine ZS [0, 1, 2, 3, 4, 5, 6, 7, 8, 9, 10, 11, 12, 13, 14, 15, 16, 17, 18, 19] #[0, 1, 0, 4, 0, 28, 60, 124, 0, 256, 0, 1792, 3840, 7936, 0, 32764, 65532, 131071, 262143, 524287] XH7 XH7 XH7 ?_
  refine Oo u56 .calm rfl (rfl) ?_
  refine Oo u56 .look rfl (W2r rfl rfl rfl rfl) ?_
  refine Oo u56 .calm rfl (rfl) ?_
  refine Oo u56 .look rfl (W2r rfl rfl rfl rfl) ?_
  refine Oo u56 .calm rfl (Zb (.inl rfl) rfl) ?_
  refine Oo u56 .calm rfl (W18 rfl rfl rfl rfl rfl rfl rfl) ?_
  refine Oo u56 .calm rfl (rfl) ?_
  refine Oo u56 .look rfl (W2r rfl rfl rfl rfl) ?_
  refine Oo u56 .calm rfl (rfl) ?_
  refine Oo u56 .look rfl (W2r rfl rfl rfl rfl) ?_
  refine Oo u56 .calm rfl (Zb (.inl rfl) rfl) ?_
  refine Oo u56 .calm rfl (W18 rfl rfl rfl rfl rfl rfl rfl) ?_
  refine Oo u56 .calm rfl (rfl) ?_
  refine Oo u56 .look rfl (W2r rfl rfl rfl rfl) ?_
  refine Oo u56 .calm rfl (Zb (.inl rfl) rfl) ?_
  refine Oo u56 .calm rfl (rfl) ?_
  refine Oo u56 .grow rfl (Zz rfl rfl (by decide) rfl) ?_
  refine O_opX .turn rfl rfl rfl (Y4 rfl rfl rfl rfl rfl rfl rfl (by simp) (hl.app _) rfl rfl (by decide) (by rw [List.length_take]; show (_ + 1) * 40 ≤ _ ∧ _ + 1 ≤ _; omega) (by decide)) rfl rfl ?_
  rintro _ _ ⟨Y1, rfl, rfl, hY1, hY2, hY3⟩
  refine O_env (env' := u56) rfl ?_
  refine Oo u56 .calm rfl (rfl) ?_
  refine Oo u56 .turn rfl (W13 rfl rfl rfl rfl rfl rfl rfl) ?_
  refine ZU [] XH7 (trivial) ?_
  refine Zs (Zc (Za ?_))
  refine Lo u56 (Zb (.inl rfl) rfl) ?_
  refine Lo u56 (W14 rfl rfl rfl) ?_
  refine Lo u56 (Zb (.inr rfl) rfl) ?_
  refine Ze ?_
  refine Zu (mk 56 72057594037927905) (env' := u56) rfl ⟨k + 1, ?_, rfl, ?_⟩
  ·first | omega | (simp only []; omega)
  ·exact ⟨by omega, _, _, rfl, by rw [Yh (d := r0) (by omega)]; exact LV.pushF hY3⟩
 ·try simp only [qB, qN] at hc1
  refine ZB (ZD (Zv (ZA (Zc (Zd ?_)))))
  obtain rfl : k = p.rules.length := by omega
  rw [List.take_length] at hl
  refine B_heap (List.append_assoc _ _ _) ?_
  have hone : [iI p.users, fzW p.who, fzI p.fixed, lv].all VVal.one = true := by simp only [List.all_cons, hl.one, List.all_nil]; rfl
  refine Za ?_
  refine Lo u56 (W2p rfl rfl rfl rfl rfl) ?_
  refine Lo u56 (Z0 rfl rfl rfl rfl rfl rfl hone (ZL rfl rfl) (Nat.le_of_ble_eq_true rfl) (ZO rfl)) ?_
  refine Ze (Zc (Zl ?_))
  refine E_keep (.inr rfl) (YG rfl rfl rfl rfl XH0 XH19) ?_
  refine ⟨_, lv, rfl, rfl, ?_⟩
  exact (show LV _ _ ([VBlk.dead, VBlk.cells [iI p.users, fzW p.who, fzI p.fixed, lv] true, VBlk.cells [iI p.users, fzW p.who, fzI p.fixed, lv] true, .dead, .dead] ++ X) lv _ _ from LV_shift (d := 5) hl rfl)
end Go.Proofs.YtenkjadobkjaeaaDoor.VT
