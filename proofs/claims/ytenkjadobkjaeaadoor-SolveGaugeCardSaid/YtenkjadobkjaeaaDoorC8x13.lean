/- Proved: Rows.SolveGaugeCardSaid, the statement SolveGauge with its card, of the given program at the commit; no conditions beyond those in the statement. -/
import Derived.Test.YtenkjadobkjaeaaDoorC8x12
set_option autoImplicit false
set_option linter.unusedVariables false
set_option linter.unusedSimpArgs false
set_option maxHeartbeats 4000000
set_option maxRecDepth 100000
namespace Go.Proofs.YtenkjadobkjaeaaDoor.VT
open Go Go.V Go.RowKit
abbrev Zr {a0 a1 a2 a3 a4 a5 a6 a7 a8 a9 a10 a11 a12 a13 a14 a15 a16 a17 a18 a19 a20 a21 a22 a23 a24 a25 a26 a27 a28 a29 a30 a31 a32 a33 a34 a35 a36 a37 a38 a39 a40 a41 a42 a43 a44 a45 a46 a47 a48 a49 a50 a51 a52 a53 a54 a55 a56 a57 a58 a59 a60 a61 a62 a63 a64 a65 a66 a67 a68 a69 a70 a71 a72 a73 a74 a75 a76 a77 a78 a79 a80 a81 a82 a83 a84 a85 a86 a87 a88 a89 a90 a91 a92 a93 a94 a95 a96 a97 a98 a99 a100 a101 : VVal} : VEnv := a0 :: a1 :: a2 :: a3 :: a4 :: a5 :: a6 :: a7 :: a8 :: a9 :: a10 :: a11 :: a12 :: a13 :: a14 :: a15 :: a16 :: a17 :: a18 :: a19 :: a20 :: a21 :: a22 :: a23 :: a24 :: a25 :: a26 :: a27 :: a28 :: a29 :: a30 :: a31 :: a32 :: a33 :: a34 :: a35 :: a36 :: a37 :: a38 :: a39 :: a40 :: a41 :: a42 :: a43 :: a44 :: a45 :: a46 :: a47 :: a48 :: a49 :: a50 :: a51 :: a52 :: a53 :: a54 :: a55 :: a56 :: a57 :: a58 :: a59 :: a60 :: a61 :: a62 :: a63 :: a64 :: a65 :: a66 :: a67 :: a68 :: a69 :: a70 :: a71 :: a72 :: a73 :: a74 :: a75 :: a76 :: a77 :: a78 :: a79 :: a80 :: a81 :: a82 :: a83 :: a84 :: a85 :: a86 :: a87 :: a88 :: a89 :: a90 :: a91 :: a92 :: a93 :: a94 :: a95 :: a96 :: a97 :: a98 :: a99 :: a100 :: a101 :: []
theorem W2n {S : V.Sys} {H : Zd} {fn : Func} {ex : Exit} {env : VEnv} {B L : Zd} {v : VVal} {R : VVal → Zd → Prop} (hx : ex = .normal ∨ ex = .ret) (hv : Z0 S.C.T env (B ++ L) fn.results = some v) (h : R v B) (hB : BaseOk H B := by exact XH32) (hu : v.under H.length = true := by first | rfl | exact pb_under (p := cutP p)) : fnK S fn H R ex env (B ++ L) := E_app hx hv hB hu h
abbrev Yv : VVal := .slice none 0 0 true 0
abbrev pqB (u : Int) (a b c : VVal) : VBlk := .cells [iI u, a, b, c] true
def cutR (r : Rul) : Rul := (r.kind, r.k, r.steps.take 20, ())
def cutP (p : Pb) : Pb := (p.users, p.who.take 20, p.fixed.take 20, (p.rules.take 40).map cutR, ())
theorem take_end {α : Type} {l : List α} {k m : Nat} (h1 : k ≤ m) (h2 : ¬ (k < l.length ∧ k < m)) : l.take k = l.take m := by
  by_cases h : k = m
  · rw [h]
  · rw [List.take_of_length_le (by omega), List.take_of_length_le (by omega)]
theorem cutR_step {l : List Rul} {m : Nat} (h : m < l.length) : (l.take (m + 1)).map cutR = (l.take m).map cutR ++ [cutR (l.getD m r0)] := by rw [Yi (d := r0) h, List.map_append]; rfl
theorem cutP_L {p : Pb} (h : -9223372036854775808 ≤ p.users ∧ p.users < 9223372036854775808) : PbL (cutP p) :=
  ⟨h, by show (List.take 20 _).length ≤ _; rw [List.length_take]; omega, by show (List.take 20 _).length ≤ _; rw [List.length_take]; omega, by show ((List.take 40 _).map cutR).length ≤ _; rw [List.length_map, List.length_take]; omega,
    fun r hr => by
      obtain ⟨r1, _, rfl⟩ := List.mem_map.1 hr
      show (List.take 20 _).length ≤ _
      rw [List.length_take]; omega⟩
theorem cutP_2 {p : Pb} : cutP (cutP p) = cutP p := by
  unfold cutP
  show (p.users, (p.who.take 20).take 20, (p.fixed.take 20).take 20, ((((p.rules.take 40).map cutR)).take 40).map cutR, ()) = _
  rw [List.take_take, List.take_take, ← List.map_take, List.take_take, List.map_map]
  congr 1; congr 1; congr 1; congr 1
  apply List.map_congr_left
  intro r _
  show cutR (cutR r) = cutR r
  unfold cutR
  show (r.kind, r.k, (r.steps.take 20).take 20, ()) = _
  rw [List.take_take]; rfl
theorem Cut_spec {x : SW} (H : Zd) (p : Pb) : F (psys x) 19 [.agg (pbB p)] H fun v G => v = .agg (pbB (cutP p)) ∧ G = H := by
 refine Zs Tryd.func19 rfl Zr rfl ?_
 refine Ze (Za ?_)
 refine Lo Zr (Zw rfl rfl rfl) ?_
 refine Lo Zr (ZH rfl rfl) ?_
 refine Zf (Zc (Ze (Za ?_)))
 refine L_gh (Gh.freezePtrL (cs := pbB p) 1 0 rfl rfl rfl) ?_
 refine Lo Zr (rfl) ?_
 refine Lo Zr (W1t rfl rfl rfl rfl) ?_
 refine Lo Zr (rfl) ?_
 refine Lo Zr (ZH rfl rfl) ?_
 refine Lo Zr (W13 rfl rfl rfl rfl rfl rfl rfl) ?_
 refine Zf (Zc ?_)
 refine B_seqJ (mk 102 5070602400912917605986812821489) (fun (u0 : Unit) => []) (fun (u0 : Unit) G => (True) ∧ ∃ lv X, G = (H ++ [VBlk.dead, pqB 0 Yv Yv Yv, pqB p.users lv Yv Yv]) ++ X ∧ LV (H.length + 3) 1 X lv ((p.who.take 20).map iW) (p.who.take 20).length) ?_ ?_
 ·skip
  refine Ze (Za ?_)
  refine Lo Zr (Zh (VVal.int .i64 0) (.inr rfl) rfl) ?_
  refine Zf (Zc (Zo ?_))
  refine ZJ (mk 102 5070602400912917605986812821473) (env' := Zr) rfl ?_
  refine ZN (fun (k : Nat) => p.who.length - k) (fun (k : Nat) => [(4, iI (k : Nat))]) (fun (k : Nat) G => (k ≤ p.who.length ∧ k ≤ 20) ∧ ∃ lv X, G = (H ++ [VBlk.dead, pqB 0 Yv Yv Yv, pqB p.users lv Yv Yv]) ++ X ∧ LV (H.length + 3) 1 X lv (((p.who).take k).map iW) ((p.who).take k).length) 0 rfl ?_ ?_
  ·refine ⟨?_, ⟨_, [], (List.append_nil _).symm, LV.nil _ _ _⟩⟩
   exact ⟨Nat.zero_le _, Nat.zero_le _⟩
  rintro k _ ⟨⟨hk1, hk2⟩, ⟨lv, X, rfl, hl⟩⟩
  refine ZZ (env' := Zr) rfl ?_
  refine Ze (Ze (Za ?_))
  refine Lo Zr (Zb (.inl rfl) rfl) ?_
  refine Lo Zr (rfl) ?_
  refine Lo Zr (W1t rfl rfl rfl rfl) ?_
  refine Lo Zr (rfl) ?_
  refine Lo Zr (rfl) ?_
  refine Lo Zr (Zb (.inl rfl) rfl) ?_
  refine Zx 18 (env1 := Zr) (env2 := Zr) rfl rfl rfl (fun hg1 => ?_) (fun hg1 => ?_)
  ·try simp only [qB, qN] at hg1
   refine Lo Zr (Zb (.inl rfl) rfl) ?_
   refine Lo Zr (rfl) ?_
   refine Lo Zr (ZE rfl rfl rfl) ?_
   refine Zf (Zc ?_)
   refine Zm _ rfl (fun hc2 => ?_) (fun hc2 => ?_)
   ·try simp only [qB, qN] at hc2
    refine Zl (Zc (Ze (Zo ?_)))
    refine ZV [0, 1, 2, 3, 4, 5, 6, 7, 8, 9, 10] #[0, 1, 0, 4, 0, 28, 60, 124, 255, 511, 1023] XH2 XH2 XH2 ?_
    refine Oo Zr .calm rfl (rfl) ?_
    refine Oo Zr .look rfl (W1t rfl rfl rfl rfl) ?_
    refine Oo Zr .calm rfl (rfl) ?_
    refine Oo Zr .look rfl (W1t rfl rfl rfl rfl) ?_
    refine Oo Zr .calm rfl (Zb (.inl rfl) rfl) ?_
    refine Oo Zr .calm rfl (W18 rfl rfl rfl rfl rfl rfl rfl) ?_
    refine Oo Zr .look rfl (W1t rfl rfl rfl rfl) ?_
    refine Oo Zr .grow rfl (Zz rfl rfl (by decide) rfl) ?_
    refine O_opX .turn rfl rfl rfl (v_appXh rfl rfl rfl rfl rfl rfl rfl (by simp) hl rfl rfl (by decide) XH15 (by decide)) rfl rfl ?_
    rintro _ _ ⟨Y1, rfl, rfl, hY1, hY2, hY3⟩
    refine O_env (env' := Zr) rfl ?_
    refine Oo Zr .calm rfl (rfl) ?_
    refine Oo Zr .turn rfl (W13 rfl rfl rfl rfl rfl rfl rfl) ?_
    refine ZS [] XH2 (trivial) ?_
    refine Zy (Zc (Za ?_))
    refine Lo Zr (Zb (.inl rfl) rfl) ?_
    refine Lo Zr (W14 rfl rfl rfl) ?_
    refine Lo Zr (Zb (.inr rfl) rfl) ?_
    refine Zf ?_
    refine ZD (mk 102 5070602400912917605986812821473) (env' := Zr) rfl ⟨k + 1, ?_, rfl, ?_⟩
    ·first | omega | (simp only []; omega)
    ·exact ⟨⟨by omega, by omega⟩, _, _, rfl, by rw [Yi (d := 0) (by omega)]; exact LV.pushW hY3⟩
   ·try simp only [qB, qN] at hc2
    refine ZR (ZP (ZI (ZQ ?_)))
    refine ZD (mk 102 5070602400912917605986812821489) (env' := Zr) rfl ⟨(), rfl, ?_⟩
    exact ⟨trivial, _, _, rfl, by rw [← take_end (m := 20) hk2 (by omega)]; exact hl⟩
  ·try simp only [qB, qN] at hg1
   refine Lf Zr ?_
   refine Lf Zr ?_
   refine Lo Zr (Zu (VVal.bool false) rfl rfl rfl) ?_
   refine Zf (Zc ?_)
   refine Z4 rfl rfl ?_
   refine ZR (ZP (ZI (ZQ ?_)))
   refine ZD (mk 102 5070602400912917605986812821489) (env' := Zr) rfl ⟨(), rfl, ?_⟩
   exact ⟨trivial, _, _, rfl, by rw [← take_end (m := 20) hk2 (by omega)]; exact hl⟩
 ·rintro u0 _ ⟨_, ⟨lv, X, rfl, hl⟩⟩
  refine ZZ (env' := Zr) rfl ?_
  refine B_seqJ (mk 102 5070602400912917605986812821489) (fun (u0 : Unit) => []) (fun (u0 : Unit) G => (True) ∧ ∃ lv X, G = (H ++ [VBlk.dead, pqB 0 Yv Yv Yv, pqB p.users (fzW (p.who.take 20)) lv Yv]) ++ X ∧ LV (H.length + 3) 1 X lv ((p.fixed.take 20).map iI) (p.fixed.take 20).length) ?_ ?_
  ·skip
   refine Ze ?_
   refine B_ghCell 2 1 hl rfl rfl (by simp) fun X1 _ _ => ?_
   refine Za ?_
   refine Lo Zr (Zh (VVal.int .i64 0) (.inr rfl) rfl) ?_
   refine Zf (Zc (Zo ?_))
   refine ZJ (mk 102 5070602400912917605986812821457) (env' := Zr) rfl ?_
   refine ZN (fun (j : Nat) => p.fixed.length - j) (fun (j : Nat) => [(5, iI (j : Nat))]) (fun (j : Nat) G => (j ≤ p.fixed.length ∧ j ≤ 20) ∧ ∃ lv X, G = (H ++ [VBlk.dead, pqB 0 Yv Yv Yv, pqB p.users (fzW (p.who.take 20)) lv Yv]) ++ X ∧ LV (H.length + 3) 1 X lv (((p.fixed).take j).map iI) ((p.fixed).take j).length) 0 rfl ?_ ?_
   ·refine ⟨?_, ⟨_, X1, rfl, LV.nil _ _ _⟩⟩
    exact ⟨Nat.zero_le _, Nat.zero_le _⟩
   rintro j _ ⟨⟨hj1, hj2⟩, ⟨lv, X, rfl, hl⟩⟩
   refine ZZ (env' := Zr) rfl ?_
   refine Ze (Ze (Za ?_))
   refine Lo Zr (Zb (.inl rfl) rfl) ?_
   refine Lo Zr (rfl) ?_
   refine Lo Zr (W1t rfl rfl rfl rfl) ?_
   refine Lo Zr (rfl) ?_
   refine Lo Zr (rfl) ?_
   refine Lo Zr (Zb (.inl rfl) rfl) ?_
   refine Zx 39 (env1 := Zr) (env2 := Zr) rfl rfl rfl (fun hg3 => ?_) (fun hg3 => ?_)
   ·try simp only [qB, qN] at hg3
    refine Lo Zr (Zb (.inl rfl) rfl) ?_
    refine Lo Zr (rfl) ?_
    refine Lo Zr (ZE rfl rfl rfl) ?_
    refine Zf (Zc ?_)
    refine Zm _ rfl (fun hc4 => ?_) (fun hc4 => ?_)
    ·try simp only [qB, qN] at hc4
     refine Zl (Zc (Ze (Zo ?_)))
     refine ZV [0, 1, 2, 3, 4, 5, 6, 7, 8, 9, 10] #[0, 1, 0, 4, 0, 28, 60, 124, 255, 511, 1023] XH2 XH2 XH2 ?_
     refine Oo Zr .calm rfl (rfl) ?_
     refine Oo Zr .look rfl (W1t rfl rfl rfl rfl) ?_
     refine Oo Zr .calm rfl (rfl) ?_
     refine Oo Zr .look rfl (W1t rfl rfl rfl rfl) ?_
     refine Oo Zr .calm rfl (Zb (.inl rfl) rfl) ?_
     refine Oo Zr .calm rfl (W18 rfl rfl rfl rfl rfl rfl rfl) ?_
     refine Oo Zr .look rfl (W1t rfl rfl rfl rfl) ?_
     refine Oo Zr .grow rfl (Zz rfl rfl (by decide) rfl) ?_
     refine O_opX .turn rfl rfl rfl (v_appXh rfl rfl rfl rfl rfl rfl rfl (by simp) hl rfl rfl (by decide) XH15 (by decide)) rfl rfl ?_
     rintro _ _ ⟨Y1, rfl, rfl, hY1, hY2, hY3⟩
     refine O_env (env' := Zr) rfl ?_
     refine Oo Zr .calm rfl (rfl) ?_
     refine Oo Zr .turn rfl (W13 rfl rfl rfl rfl rfl rfl rfl) ?_
     refine ZS [] XH2 (trivial) ?_
     refine Zy (Zc (Za ?_))
     refine Lo Zr (Zb (.inl rfl) rfl) ?_
     refine Lo Zr (W14 rfl rfl rfl) ?_
     refine Lo Zr (Zb (.inr rfl) rfl) ?_
     refine Zf ?_
     refine ZD (mk 102 5070602400912917605986812821457) (env' := Zr) rfl ⟨j + 1, ?_, rfl, ?_⟩
     ·first | omega | (simp only []; omega)
     ·exact ⟨⟨by omega, by omega⟩, _, _, rfl, by rw [Yi (d := 0) (by omega)]; exact LV.pushI hY3⟩
    ·try simp only [qB, qN] at hc4
     refine ZR (ZP (ZI (ZQ ?_)))
     refine ZD (mk 102 5070602400912917605986812821489) (env' := Zr) rfl ⟨(), rfl, ?_⟩
     exact ⟨trivial, _, _, rfl, by rw [← take_end (m := 20) hj2 (by omega)]; exact hl⟩
   ·try simp only [qB, qN] at hg3
    refine Lf Zr ?_
    refine Lf Zr ?_
    refine Lo Zr (Zu (VVal.bool false) rfl rfl rfl) ?_
    refine Zf (Zc ?_)
    refine Z4 rfl rfl ?_
    refine ZR (ZP (ZI (ZQ ?_)))
    refine ZD (mk 102 5070602400912917605986812821489) (env' := Zr) rfl ⟨(), rfl, ?_⟩
    exact ⟨trivial, _, _, rfl, by rw [← take_end (m := 20) hj2 (by omega)]; exact hl⟩
  ·rintro u0 _ ⟨_, ⟨lv, X, rfl, hl⟩⟩
   refine ZZ (env' := Zr) rfl ?_
   refine B_seqJ (mk 102 5070602400912917605986812821491) (fun (u0 : Unit) => []) (fun (u0 : Unit) G => (True) ∧ ∃ lv X, G = (H ++ [VBlk.dead, pqB 0 Yv Yv Yv, pqB p.users (fzW (p.who.take 20)) (fzI (p.fixed.take 20)) lv]) ++ X ∧ LV (H.length + 3) 3 X lv (((p.rules.take 40).map cutR).flatMap rlB) ((p.rules.take 40).map cutR).length) ?_ ?_
   ·skip
    refine Ze ?_
    refine B_ghCell 2 2 hl rfl rfl (by simp) fun X2 _ _ => ?_
    refine Za ?_
    refine Lo Zr (Zh (VVal.int .i64 0) (.inr rfl) rfl) ?_
    refine Zf (Zc (Zo ?_))
    refine ZJ (mk 102 5070602400912917605986812821425) (env' := Zr) rfl ?_
    refine ZN (fun (m : Nat) => p.rules.length - m) (fun (m : Nat) => [(6, iI (m : Nat))]) (fun (m : Nat) G => (m ≤ p.rules.length ∧ m ≤ 40) ∧ ∃ lv X, G = (H ++ [VBlk.dead, pqB 0 Yv Yv Yv, pqB p.users (fzW (p.who.take 20)) (fzI (p.fixed.take 20)) lv]) ++ X ∧ LV (H.length + 3) 3 X lv (((p.rules.take m).map cutR).flatMap rlB) ((p.rules.take m).map cutR).length) 0 rfl ?_ ?_
    ·refine ⟨?_, ⟨_, X2, rfl, LV.nil _ _ _⟩⟩
     exact ⟨Nat.zero_le _, Nat.zero_le _⟩
    rintro m _ ⟨⟨hm1, hm2⟩, ⟨lv, X, rfl, hl⟩⟩
    refine ZZ (env' := Zr) rfl ?_
    refine Ze (Ze (Za ?_))
    refine Lo Zr (Zb (.inl rfl) rfl) ?_
    refine Lo Zr (rfl) ?_
    refine Lo Zr (W1t rfl rfl rfl rfl) ?_
    refine Lo Zr (rfl) ?_
    refine Lo Zr (rfl) ?_
    refine Lo Zr (Zb (.inl rfl) rfl) ?_
    refine Zx 60 (env1 := Zr) (env2 := Zr) rfl rfl rfl (fun hg5 => ?_) (fun hg5 => ?_)
    ·try simp only [qB, qN] at hg5
     refine Lo Zr (Zb (.inl rfl) rfl) ?_
     refine Lo Zr (rfl) ?_
     refine Lo Zr (ZE rfl rfl rfl) ?_
     refine Zf (Zc ?_)
     refine Zm _ rfl (fun hc6 => ?_) (fun hc6 => ?_)
     ·try simp only [qB, qN] at hc6
      refine Zl (Zc (Ze (Zo (Ze (Za ?_)))))
      refine Lo Zr (rfl) ?_
      refine Lo Zr (W1t rfl rfl rfl rfl) ?_
      refine Lo Zr (Zb (.inl rfl) rfl) ?_
      refine Lo Zr (W18 rfl rfl rfl rfl rfl rfl rfl) ?_
      refine Lo Zr (W1x rfl rfl rfl rfl rfl) ?_
      refine Lo Zr (ZH rfl rfl) ?_
      refine Lo Zr (W13 rfl rfl rfl rfl rfl rfl rfl) ?_
      refine Zf (Zc (Ze ?_))
      refine Yy (Gh.freezeEnd (cs := rlB (p.rules.getD m r0)) 7 rfl rfl) ?_
      refine Za ?_
      refine Lo Zr (Zh (VVal.slice none 0 0 true 0) (.inr rfl) rfl) ?_
      refine Zf (Zc (Ze (Ze (Za ?_))))
      refine Lo Zr (Zh (VVal.int .i64 0) (.inr rfl) rfl) ?_
      refine Zf (Zc (Zo ?_))
      refine ZJ (mk 102 5070602400912917605986812820529) (env' := Zr) rfl ?_
      refine ZN (fun (⟨k, sv⟩ : Nat × VVal) => (p.rules.getD m r0).steps.length - k) (fun (⟨k, sv⟩ : Nat × VVal) => [(8, sv), (9, iI (k : Nat))]) (fun (⟨k, sv⟩ : Nat × VVal) G => (k ≤ (p.rules.getD m r0).steps.length ∧ k ≤ 20) ∧ ∃ X, G = (H ++ [VBlk.dead, pqB 0 Yv Yv Yv, pqB p.users (fzW (p.who.take 20)) (fzI (p.fixed.take 20)) lv]) ++ X ∧ LV (H.length + 3) 3 X lv (((p.rules.take m).map cutR).flatMap rlB) ((p.rules.take m).map cutR).length ∧ LV (H.length + 3) 1 X sv (((p.rules.getD m r0).steps.take k).map iI) ((p.rules.getD m r0).steps.take k).length ∧ ∀ n, Yu lv = some n → Yu sv ≠ some n) ⟨0, _⟩ rfl ?_ ?_
      ·refine ⟨?_, ⟨X ++ [.dead], rfl, LV.app hl _, LV.nil _ _ _, fun n _ e => by cases e⟩⟩
       exact ⟨Nat.zero_le _, Nat.zero_le _⟩
      rintro ⟨k, sv⟩ _ ⟨⟨hk1, hk2⟩, ⟨X3, rfl, hl3, hs, hd⟩⟩
      refine ZZ (env' := Zr) rfl ?_
      refine Ze (Ze (Za ?_))
      refine Lo Zr (Zb (.inl rfl) rfl) ?_
      refine Lo Zr (rfl) ?_
      refine Lo Zr (W1t rfl rfl rfl rfl) ?_
      refine Lo Zr (rfl) ?_
      refine Lo Zr (rfl) ?_
      refine Lo Zr (Zb (.inl rfl) rfl) ?_
      refine Zx 76 (env1 := Zr) (env2 := Zr) rfl rfl rfl (fun hg7 => ?_) (fun hg7 => ?_)
      ·try simp only [qB, qN] at hg7
       refine Lo Zr (Zb (.inl rfl) rfl) ?_
       refine Lo Zr (rfl) ?_
       refine Lo Zr (ZE rfl rfl rfl) ?_
       refine Zf (Zc ?_)
       refine Zm _ rfl (fun hc8 => ?_) (fun hc8 => ?_)
       ·try simp only [qB, qN] at hc8
        refine Zl (Zc (Ze (Zo (Za ?_))))
        refine Lo Zr (Zb (.inl rfl) rfl) ?_
        refine Lo Zr (rfl) ?_
        refine Lo Zr (W1t rfl rfl rfl rfl) ?_
        refine Lo Zr (Zb (.inl rfl) rfl) ?_
        refine Lo Zr (W18 rfl rfl rfl rfl rfl rfl rfl) ?_
        refine Lo Zr (W1t rfl rfl rfl rfl) ?_
        refine Lo Zr (Zz rfl rfl (by decide) rfl) ?_
        refine L_opX rfl rfl (v_appXh rfl rfl rfl rfl rfl rfl rfl (by simp) hs rfl rfl (by decide) XH15 (by decide)) ?_
        rintro _ _ ⟨Y1, rfl, rfl, hY1, hY2, hY3⟩
        refine Le Zr ?_
        refine Lo Zr (Zb (.inr rfl) rfl) ?_
        refine Zf (Zy (Zc (Za ?_)))
        refine Lo Zr (Zb (.inl rfl) rfl) ?_
        refine Lo Zr (W14 rfl rfl rfl) ?_
        refine Lo Zr (Zb (.inr rfl) rfl) ?_
        refine Zf ?_
        refine ZD (mk 102 5070602400912917605986812820529) (env' := Zr) rfl ⟨⟨k + 1, _⟩, ?_, rfl, ?_⟩
        ·first | omega | (simp only []; omega)
        ·exact ⟨⟨by omega, by omega⟩, _, rfl, LV.app (LV.keep hl3 hd hY2) _, by rw [Yi (d := 0) (by omega)]; exact LV.pushI hY3, LV.far hl3 (Nat.le_succ _)⟩
       ·try simp only [qB, qN] at hc8
        refine ZR (ZP (ZI (ZQ (Zc ?_))))
        rw [take_end (m := 20) hk2 (by omega)] at hs
        refine B_ghLVh (env' := Zr) 8 hs (by simp) rfl rfl fun X4 hX4 hF4 => ?_
        have hl4 := LV.keep hl3 hd hF4
        refine Za ?_
        refine Lo Zr (rfl) ?_
        refine Lo Zr (W1t rfl rfl rfl rfl) ?_
        refine Lo Zr (rfl) ?_
        refine Lo Zr (W1t rfl rfl rfl rfl) ?_
        refine Lo Zr (rfl) ?_
        refine Lo Zr (W1t rfl rfl rfl rfl) ?_
        refine Lo Zr (Zb (.inl rfl) rfl) ?_
        refine Lo Zr (rfl) ?_
        refine Lo Zr (Zz rfl rfl (by decide) rfl) ?_
        refine L_opX rfl rfl (v_appXh rfl rfl rfl rfl rfl rfl rfl (by simp) hl4 rfl rfl (by decide) (by rw [List.length_map, List.length_take]; show (_ + 1) * 40 ≤ _ ∧ _ + 1 ≤ _; omega) (by decide)) ?_
        rintro _ _ ⟨Y1, rfl, rfl, hY1, hY2, hY3⟩
        refine Le Zr ?_
        refine Lo Zr (rfl) ?_
        refine Lo Zr (W13 rfl rfl rfl rfl rfl rfl rfl) ?_
        refine Zf (Zy (Zc (Za ?_)))
        refine Lo Zr (Zb (.inl rfl) rfl) ?_
        refine Lo Zr (W14 rfl rfl rfl) ?_
        refine Lo Zr (Zb (.inr rfl) rfl) ?_
        refine Zf ?_
        refine ZD (mk 102 5070602400912917605986812821425) (env' := Zr) rfl ⟨m + 1, ?_, rfl, ?_⟩
        ·first | omega | (simp only []; omega)
        ·exact ⟨⟨by omega, by omega⟩, _, _, rfl, by rw [cutR_step (by omega)]; exact LV.pushF hY3⟩
      ·try simp only [qB, qN] at hg7
       refine Lf Zr ?_
       refine Lf Zr ?_
       refine Lo Zr (Zu (VVal.bool false) rfl rfl rfl) ?_
       refine Zf (Zc ?_)
       refine Z4 rfl rfl ?_
       refine ZR (ZP (ZI (ZQ (Zc ?_))))
       rw [take_end (m := 20) hk2 (by omega)] at hs
       refine B_ghLVh (env' := Zr) 8 hs (by simp) rfl rfl fun X4 hX4 hF4 => ?_
       have hl4 := LV.keep hl3 hd hF4
       refine Za ?_
       refine Lo Zr (rfl) ?_
       refine Lo Zr (W1t rfl rfl rfl rfl) ?_
       refine Lo Zr (rfl) ?_
       refine Lo Zr (W1t rfl rfl rfl rfl) ?_
       refine Lo Zr (rfl) ?_
       refine Lo Zr (W1t rfl rfl rfl rfl) ?_
       refine Lo Zr (Zb (.inl rfl) rfl) ?_
       refine Lo Zr (rfl) ?_
       refine Lo Zr (Zz rfl rfl (by decide) rfl) ?_
       refine L_opX rfl rfl (v_appXh rfl rfl rfl rfl rfl rfl rfl (by simp) hl4 rfl rfl (by decide) (by rw [List.length_map, List.length_take]; show (_ + 1) * 40 ≤ _ ∧ _ + 1 ≤ _; omega) (by decide)) ?_
       rintro _ _ ⟨Y1, rfl, rfl, hY1, hY2, hY3⟩
       refine Le Zr ?_
       refine Lo Zr (rfl) ?_
       refine Lo Zr (W13 rfl rfl rfl rfl rfl rfl rfl) ?_
       refine Zf (Zy (Zc (Za ?_)))
       refine Lo Zr (Zb (.inl rfl) rfl) ?_
       refine Lo Zr (W14 rfl rfl rfl) ?_
       refine Lo Zr (Zb (.inr rfl) rfl) ?_
       refine Zf ?_
       refine ZD (mk 102 5070602400912917605986812821425) (env' := Zr) rfl ⟨m + 1, ?_, rfl, ?_⟩
       ·first | omega | (simp only []; omega)
       ·exact ⟨⟨by omega, by omega⟩, _, _, rfl, by rw [cutR_step (by omega)]; exact LV.pushF hY3⟩
     ·try simp only [qB, qN] at hc6
      refine ZR (ZP (ZI (ZQ ?_)))
      refine ZD (mk 102 5070602400912917605986812821491) (env' := Zr) rfl ⟨(), rfl, ?_⟩
      exact ⟨trivial, _, _, rfl, by rw [← take_end (m := 40) hm2 (by omega)]; exact hl⟩
    ·try simp only [qB, qN] at hg5
     refine Lf Zr ?_
     refine Lf Zr ?_
     refine Lo Zr (Zu (VVal.bool false) rfl rfl rfl) ?_
     refine Zf (Zc ?_)
     refine Z4 rfl rfl ?_
     refine ZR (ZP (ZI (ZQ ?_)))
     refine ZD (mk 102 5070602400912917605986812821491) (env' := Zr) rfl ⟨(), rfl, ?_⟩
     exact ⟨trivial, _, _, rfl, by rw [← take_end (m := 40) hm2 (by omega)]; exact hl⟩
   ·rintro u0 _ ⟨_, ⟨lv, X, rfl, hl⟩⟩
    refine ZZ (env' := Zr) rfl ?_
    refine Ze ?_
    refine B_ghCell 2 3 hl rfl rfl (by simp) fun X5 _ _ => ?_
    refine B_heap (List.append_assoc _ _ _) ?_
    refine Za ?_
    refine Lo Zr (W1x rfl rfl rfl rfl rfl) ?_
    refine Lo Zr (W13 rfl rfl rfl rfl rfl rfl rfl) ?_
    refine Zf (Zc (Zj ?_))
    refine W2n (.inr rfl) (YB rfl rfl rfl rfl XH0 (by first | rfl | assumption | exact Yw (α := BitVec 64) 0 (by omega) | exact Yw (α := Int) 0 (by omega) | exact rul_at (by omega))) ?_
    exact ⟨rfl, rfl⟩
abbrev u76 {a0 a1 a2 a3 a4 a5 a6 a7 a8 a9 a10 a11 a12 a13 a14 a15 a16 a17 a18 a19 a20 a21 a22 a23 a24 a25 a26 a27 a28 a29 a30 a31 a32 a33 a34 a35 a36 a37 a38 a39 a40 a41 a42 a43 a44 a45 a46 a47 a48 a49 a50 a51 a52 a53 a54 a55 a56 a57 a58 a59 a60 a61 a62 a63 a64 a65 a66 a67 a68 a69 a70 a71 a72 a73 a74 a75 : VVal} : VEnv := a0 :: a1 :: a2 :: a3 :: a4 :: a5 :: a6 :: a7 :: a8 :: a9 :: a10 :: a11 :: a12 :: a13 :: a14 :: a15 :: a16 :: a17 :: a18 :: a19 :: a20 :: a21 :: a22 :: a23 :: a24 :: a25 :: a26 :: a27 :: a28 :: a29 :: a30 :: a31 :: a32 :: a33 :: a34 :: a35 :: a36 :: a37 :: a38 :: a39 :: a40 :: a41 :: a42 :: a43 :: a44 :: a45 :: a46 :: a47 :: a48 :: a49 :: a50 :: a51 :: a52 :: a53 :: a54 :: a55 :: a56 :: a57 :: a58 :: a59 :: a60 :: a61 :: a62 :: a63 :: a64 :: a65 :: a66 :: a67 :: a68 :: a69 :: a70 :: a71 :: a72 :: a73 :: a74 :: a75 :: []
theorem W2o {T : TypeId → Option VTy} {H : Zd} {op : Op} {ρ : Operand → VVal} {t : TypeId} {a : Operand} {y : VTy} {p : VVal} {n : Nat} {vs : List VVal} (ho : op = .load t a) (ha : ρ a = p) (hy : T t = some y) (hd : Zk y.desc = true) (hn : y.size = n) (h : LdOkA H p n vs := by first | exact .inl ⟨_, _, rfl, XH29⟩ | exact .inr ⟨_, _, _, _, rfl, XH23, XH29⟩) : vop T ρ H op = some (.agg vs, H) := v_ldA ho ha hy hd hn h
theorem W2q {T : TypeId → Option VTy} {H : Zd} {op : Op} {ρ : Operand → VVal} {t : TypeId} {a : Operand} {y : VTy} {p v : VVal} (ho : op = .load t a) (ha : ρ a = p) (hy : T t = some y) (hd : Zk y.desc = false) (h : LdOk H p v := by first | exact .inl ⟨_, _, rfl, XH29⟩ | exact .inr ⟨_, _, _, _, rfl, XH23, XH29⟩) : vop T ρ H op = some (v, H) := v_ld ho ha hy hd h
theorem W2t {S : V.Sys} {H : Zd} {fn : Func} {ex : Exit} {env : VEnv} {B L : Zd} {v : VVal} {R : VVal → Zd → Prop} (hx : ex = .normal ∨ ex = .ret) (hv : Z0 S.C.T env (B ++ L) fn.results = some v) (h : R v B) (hB : BaseOk H B := by exact BaseOk.refl _) (hu : v.under H.length = true := by exact pb_under (p := fewQ q m)) : fnK S fn H R ex env (B ++ L) := E_app hx hv hB hu h
theorem cells_get {l w : List VVal} {off m j : Nat} (h : Zp l off m = some w) (hj : j < m) : l[off + j]? = w[j]? := by
  unfold Zp at h
  split at h
  · injection h with h; subst h
    rw [List.getElem?_take, if_pos hj, List.getElem?_drop]
  · cases h
theorem rul_f {l : List Rul} {k j : Nat} (h : k < l.length) (hj : j < 3) : (l.flatMap rlB)[((k : Nat) : Int).toNat * 3 + j]? = (rlB (l.getD k r0))[j]? := by
  exact cells_get (fm_nat (f := rlB) (m := 3) (fun _ => rfl) l k r0 h) hj
theorem rul_f0 {l : List Rul} {k : Nat} (h : k < l.length) : (l.flatMap rlB)[((k : Nat) : Int).toNat * 3 + 0]? = some (iI (l.getD k r0).kind) := rul_f h (by decide)
theorem rul_f1 {l : List Rul} {k : Nat} (h : k < l.length) : (l.flatMap rlB)[((k : Nat) : Int).toNat * 3 + 1]? = some (iI (l.getD k r0).k) := rul_f h (by decide)
theorem rul_f2 {l : List Rul} {k : Nat} (h : k < l.length) : (l.flatMap rlB)[((k : Nat) : Int).toNat * 3 + 2]? = some (fzI (l.getD k r0).steps) := rul_f h (by decide)
def myB (p : Pb) (i : Nat) (u : Int) : Bool := decide (0 ≤ u ∧ u < 64) && (wrd p i).getLsbD u.toNat
theorem okW_in {p : Pb} {i : Nat} (g : Go.V.Good p) (hi : i < p.who.length) : (-1 ≤ p.fixed.getD i 0 ∧ p.fixed.getD i 0 < p.users) ∧ (p.who.getD i 0) >>> p.users.toNat = 0#64 := by
  have hok := g.ok i hi
  unfold okW at hok
  rw [Bool.and_eq_true, decide_eq_true_eq, decide_eq_true_eq] at hok
  exact hok
theorem myB_f {p : Pb} {i : Nat} {u : Int} (g : Go.V.Good p) (hi : i < p.who.length) (h : 0 ≤ p.fixed.getD i 0) : myB p i u = decide (u = p.fixed.getD i 0) := by
  have hok := (okW_in g hi).1; have g2 := g.u64
  unfold myB
  rw [wrd_f h, one_shl, Bool.eq_iff_iff, Bool.and_eq_true, Bool.and_eq_true, decide_eq_true_eq, decide_eq_true_eq, decide_eq_true_eq, decide_eq_true_eq]
  omega
theorem myB_w {p : Pb} {i : Nat} {u : Int} (g : Go.V.Good p) (hi : i < p.who.length) (h : p.fixed.getD i 0 < 0) : myB p i u = (decide (0 ≤ u ∧ u < p.users) && (p.who.getD i 0).getLsbD u.toNat) := by
  have hok := (okW_in g hi).2; have g2 := g.u64; have g4 := g.u0
  unfold myB
  rw [wrd_w h]
  by_cases h1 : 0 ≤ u ∧ u < p.users
  · rw [decide_eq_true h1, decide_eq_true (by omega)]
  · rw [decide_eq_false h1, Bool.false_and]
    by_cases h2 : 0 ≤ u ∧ u < 64
    · rw [decide_eq_true h2, Bool.true_and]; exact high_bit hok (by omega)
    · rw [decide_eq_false h2, Bool.false_and]
def fewR (m : Nat) (r : Rul) : Bool := r.steps.all fun s => decide (s < (m : Int))
def fewQ (q : Pb) (m : Nat) : Pb := (q.users, q.who.take m, q.fixed.take m, q.rules.filter (fewR m), ())
def Yg (p : Pb) (m : Nat) : Pb := fewQ (cutP p) m
theorem fewP_L {p : Pb} {m : Nat} (h : -9223372036854775808 ≤ p.users ∧ p.users < 9223372036854775808) : PbL (Yg p m) := by
  have g := cutP_L h
  refine ⟨g.u, ?_, ?_, ?_, fun r hr => g.s r (List.mem_filter.1 hr).1⟩
  · have := g.w; show (List.take _ _).length ≤ _; rw [List.length_take]; omega
  · have := g.f; show (List.take _ _).length ≤ _; rw [List.length_take]; omega
  · have := g.r; exact Nat.le_trans (List.length_filter_le _ _) this
theorem fewP_cut {p : Pb} {m : Nat} : cutP (Yg p m) = Yg p m := by
  have h2 := @cutP_2 p
  have hw : (cutP p).who.take 20 = (cutP p).who := congrArg Pb.who h2
  have hf : (cutP p).fixed.take 20 = (cutP p).fixed := congrArg Pb.fixed h2
  have hr : ((cutP p).rules.take 40).map cutR = (cutP p).rules := congrArg Pb.rules h2
  have hlen : (cutP p).rules.length ≤ 40 := by show ((List.take 40 _).map cutR).length ≤ _; rw [List.length_map, List.length_take]; omega
  have hr2 : ∀ r, r ∈ (cutP p).rules → cutR r = r := fun r hr1 => by
    have h1 : r ∈ (p.rules.take 40).map cutR := hr1
    obtain ⟨r1, _, rfl⟩ := List.mem_map.1 h1
    show (r1.kind, r1.k, (r1.steps.take 20).take 20, ()) = (r1.kind, r1.k, r1.steps.take 20, ())
    rw [List.take_take]; rfl
  have hwl : (cutP p).who.length ≤ 20 := by show (List.take 20 _).length ≤ _; rw [List.length_take]; omega
  have hfl : (cutP p).fixed.length ≤ 20 := by show (List.take 20 _).length ≤ _; rw [List.length_take]; omega
  unfold Yg fewQ
  show ((cutP p).users, ((cutP p).who.take m).take 20, ((cutP p).fixed.take m).take 20, ((((cutP p).rules.filter (fewR m)).take 40).map cutR), ()) = _
  rw [List.take_of_length_le (l := (cutP p).who.take m) (by rw [List.length_take]; omega), List.take_of_length_le (l := (cutP p).fixed.take m) (by rw [List.length_take]; omega), List.take_of_length_le (Nat.le_trans (List.length_filter_le _ _) hlen)]
  congr 1; congr 1; congr 1; congr 1
  conv => rhs; rw [← List.map_id ((cutP p).rules.filter (fewR m))]
  exact List.map_congr_left fun r hr1 => hr2 r (List.mem_filter.1 hr1).1
theorem fewR_step {l : List Rul} {m k : Nat} (h : k < l.length) : (l.take (k + 1)).filter (fewR m) = (l.take k).filter (fewR m) ++ if fewR m (l.getD k r0) = true then [l.getD k r0] else [] := by
  rw [Yi (d := r0) h, List.filter_append]
  congr 1
  by_cases e : fewR m (l.getD k r0) = true
  · rw [if_pos e, List.filter_cons, if_pos e]; rfl
  · rw [if_neg e, List.filter_cons, if_neg e]; rfl
theorem allS_step {l : List Int} {k : Nat} {f : Int → Bool} (h : k < l.length) : (l.take (k + 1)).all f = ((l.take k).all f && f (l.getD k 0)) := by
  rw [Yi (d := 0) h, List.all_append, List.all_cons, List.all_nil, Bool.and_true]
theorem Few_q {x : SW} (H : Zd) (p : Pb) (m : Nat) (hu : -9223372036854775808 ≤ p.users ∧ p.users < 9223372036854775808) (q : Pb) (hq : cutP p = q) : F (psys x) 15 [.agg (pbB p), iI (m : Nat)] H fun v G => v = .agg (pbB (fewQ q m)) ∧ G = H := by
 have hL := cutP_L hu
 rw [hq] at hL
 have h1 := hL.w; have h2 := hL.f; have h3 := hL.r; have h4 := hL.s
 have h40 : q.rules.length ≤ 40 := by rw [← hq]; show ((List.take 40 _).map cutR).length ≤ _; rw [List.length_map, List.length_take]; omega
 refine Zs Tryd.func15 rfl u76 rfl ?_
 refine Ze (Za ?_)
 refine Lo u76 (Zw rfl rfl rfl) ?_
 refine Lo u76 (ZH rfl rfl) ?_
 refine Zf (Zc (Ze ?_))
 refine Yy (Gh.freezePtrL (cs := pbB p) 2 0 rfl rfl rfl) ?_
 refine Za ?_
 refine Lo u76 (W2o rfl rfl rfl rfl rfl) ?_
 refine Zt rfl rfl rfl (by exact hq ▸ Cut_spec _ p) ?_
 rintro _ _ ⟨rfl, rfl⟩
 refine Le u76 ?_
 refine Lo u76 (ZH rfl rfl) ?_
 refine Lo u76 (W13 rfl rfl rfl rfl rfl rfl rfl) ?_
 refine Zf (Zc ?_)
 refine B_seqJ (mk 76 75557863725914323419085) (fun (u0 : Unit) => []) (fun (u0 : Unit) G => (True) ∧ G = H ++ [.dead, pqB 0 Yv Yv Yv, .cells [iI q.users, fzW (q.who.take m), fzI q.fixed, fzR q.rules] true]) ?_ ?_
 ·skip
  refine Ze (Za ?_)
  refine Lo u76 (rfl) ?_
  refine Lo u76 (W2q rfl rfl rfl rfl) ?_
  refine Lo u76 (rfl) ?_
  refine Lo u76 (Zb (.inl rfl) rfl) ?_
  refine Lo u76 (rfl) ?_
  refine Zf (Zc ?_)
  refine Zm _ rfl (fun hc1 => ?_) (fun hc1 => ?_)
  ·try simp only [qB, qN] at hc1
   refine Za ?_
   refine Lo u76 (rfl) ?_
   refine Lo u76 (W2q rfl rfl rfl rfl) ?_
   refine Lo u76 (Zb (.inl rfl) rfl) ?_
   refine Lo u76 (v_wHi (k := m) rfl rfl rfl rfl rfl rfl rfl (by omega)) ?_
   refine Lo u76 (rfl) ?_
   refine Lo u76 (W13 rfl rfl rfl rfl rfl rfl rfl) ?_
   refine Zf ?_
   refine ZD (mk 76 75557863725914323419085) (env' := u76) rfl ⟨(), rfl, ?_⟩
   first
     | exact ⟨trivial, rfl⟩
     | exact ⟨trivial, by rw [List.take_of_length_le (l := q.who) (by omega)]; rfl⟩
  ·try simp only [qB, qN] at hc1
   refine Zl ?_
   refine ZD (mk 76 75557863725914323419085) (env' := u76) rfl ⟨(), rfl, ?_⟩
   first
     | exact ⟨trivial, rfl⟩
     | exact ⟨trivial, by rw [List.take_of_length_le (l := q.who) (by omega)]; rfl⟩
 ·rintro u0 _ ⟨_, rfl⟩
  refine ZZ (env' := u76) rfl ?_
  refine B_seqJ (mk 76 75557863725914323419085) (fun (u0 : Unit) => []) (fun (u0 : Unit) G => (True) ∧ G = H ++ [.dead, pqB 0 Yv Yv Yv, .cells [iI q.users, fzW (q.who.take m), fzI (q.fixed.take m), fzR q.rules] true]) ?_ ?_
  ·skip
   refine Ze (Za ?_)
   refine Lo u76 (rfl) ?_
   refine Lo u76 (W2q rfl rfl rfl rfl) ?_
   refine Lo u76 (rfl) ?_
   refine Lo u76 (Zb (.inl rfl) rfl) ?_
   refine Lo u76 (rfl) ?_
   refine Zf (Zc ?_)
   refine Zm _ rfl (fun hc2 => ?_) (fun hc2 => ?_)
   ·try simp only [qB, qN] at hc2
    refine Za ?_
    refine Lo u76 (rfl) ?_
    refine Lo u76 (W2q rfl rfl rfl rfl) ?_
    refine Lo u76 (Zb (.inl rfl) rfl) ?_
    refine Lo u76 (v_iHi (k := m) rfl rfl rfl rfl rfl rfl rfl (by omega)) ?_
    refine Lo u76 (rfl) ?_
    refine Lo u76 (W13 rfl rfl rfl rfl rfl rfl rfl) ?_
    refine Zf ?_
    refine ZD (mk 76 75557863725914323419085) (env' := u76) rfl ⟨(), rfl, ?_⟩
    first
      | exact ⟨trivial, rfl⟩
      | exact ⟨trivial, by rw [List.take_of_length_le (l := q.fixed) (by omega)]⟩
   ·try simp only [qB, qN] at hc2
    refine Zl ?_
    refine ZD (mk 76 75557863725914323419085) (env' := u76) rfl ⟨(), rfl, ?_⟩
    first
      | exact ⟨trivial, rfl⟩
      | exact ⟨trivial, by rw [List.take_of_length_le (l := q.fixed) (by omega)]⟩
  ·rintro u0 _ ⟨_, rfl⟩
   refine ZZ (env' := u76) rfl ?_
   refine Ze (Za ?_)
   refine Lo u76 (Zh (VVal.slice none 0 0 true 0) (.inr rfl) rfl) ?_
   refine Zf (Zc (Ze (Ze (Za ?_))))
   refine Lo u76 (Zh (VVal.int .i64 0) (.inr rfl) rfl) ?_
   refine Zf (Zc (Zo ?_))
   refine ZJ (mk 76 75557863725914323418893) (env' := u76) rfl ?_
   refine ZN (fun (⟨k, lv⟩ : Nat × VVal) => q.rules.length - k) (fun (⟨k, lv⟩ : Nat × VVal) => [(6, lv), (7, iI (k : Nat))]) (fun (⟨k, lv⟩ : Nat × VVal) G => (k ≤ q.rules.length) ∧ ∃ X, G = (H ++ [.dead, pqB 0 Yv Yv Yv, .cells [iI q.users, fzW (q.who.take m), fzI (q.fixed.take m), fzR q.rules] true]) ++ X ∧ LV (H.length + 3) 3 X lv (((q.rules.take k).filter (fewR m)).flatMap rlB) ((q.rules.take k).filter (fewR m)).length) ⟨0, _⟩ rfl ?_ ?_
   ·refine ⟨?_, ⟨[], (List.append_nil _).symm, LV.nil _ _ _⟩⟩
    exact Nat.zero_le _
   rintro ⟨k, lv⟩ _ ⟨hk, ⟨X, rfl, hl⟩⟩
   refine ZZ (env' := u76) rfl ?_
   refine Ze (Ze (Za ?_))
   refine Lo u76 (Zb (.inl rfl) rfl) ?_
   refine Lo u76 (rfl) ?_
   refine Lo u76 (W2q rfl rfl rfl rfl) ?_
   refine Lo u76 (rfl) ?_
   refine Lo u76 (rfl) ?_
   refine Zf (Zc ?_)
   refine Zm _ rfl (fun hc3 => ?_) (fun hc3 => ?_)
   ·try simp only [qB, qN] at hc3
    refine Zl (Zc (Ze (Zo (Ze (Za ?_)))))
    refine Lo u76 (Zh (VVal.bool true) (.inr rfl) rfl) ?_
    refine Zf (Zc (Ze (Ze (Za ?_))))
    refine Lo u76 (Zh (VVal.int .i64 0) (.inr rfl) rfl) ?_
    refine Zf (Zc (Zo ?_))
    refine ZJ (mk 76 75557863725914323418125) (env' := u76) rfl ?_
    refine ZN (fun (⟨s, b⟩ : Nat × Bool) => (q.rules.getD k r0).steps.length - s) (fun (⟨s, b⟩ : Nat × Bool) => [(8, .bool b), (9, iI (s : Nat))]) (fun (⟨s, b⟩ : Nat × Bool) G => (s ≤ (q.rules.getD k r0).steps.length ∧ b = ((q.rules.getD k r0).steps.take s).all fun x => decide (x < (m : Int))) ∧ G = (H ++ [.dead, pqB 0 Yv Yv Yv, .cells [iI q.users, fzW (q.who.take m), fzI (q.fixed.take m), fzR q.rules] true]) ++ X) ⟨0, true⟩ rfl ?_ ?_
    ·refine ⟨?_, rfl⟩
     exact ⟨Nat.zero_le _, rfl⟩
    rintro ⟨s, b⟩ _ ⟨⟨hs, hb⟩, rfl⟩
    refine ZZ (env' := u76) rfl ?_
    refine Ze (Ze ?_)
    have hst := h4 _ (rul_mem (l := q.rules) (k := k) (by omega))
    refine Za ?_
    refine Lo u76 (Zb (.inl rfl) rfl) ?_
    refine Lo u76 (rfl) ?_
    refine Lo u76 (W2q rfl rfl rfl rfl) ?_
    refine Lo u76 (Zb (.inl rfl) rfl) ?_
    refine Lo u76 (W18 rfl rfl rfl rfl rfl rfl rfl) ?_
    refine Lo u76 (rfl) ?_
    refine Lo u76 (W2q rfl rfl rfl rfl) ?_
    refine Lo u76 (rfl) ?_
    refine Lo u76 (rfl) ?_
    refine Zf (Zc ?_)
    refine Zm _ rfl (fun hc4 => ?_) (fun hc4 => ?_)
    ·try simp only [qB, qN] at hc4
     refine Zl (Zc (Ze (Zo (Za ?_))))
     refine Lo u76 (Zb (.inl rfl) rfl) ?_
     refine Lo u76 (Zb (.inl rfl) rfl) ?_
     refine Zx 51 (env1 := u76) (env2 := u76) rfl rfl rfl (fun hg5 => ?_) (fun hg5 => ?_)
     ·try simp only [qB, qN] at hg5
      refine Lo u76 (rfl) ?_
      refine Lo u76 (W2q rfl rfl rfl rfl) ?_
      refine Lo u76 (Zb (.inl rfl) rfl) ?_
      refine Lo u76 (W18 rfl rfl rfl rfl rfl rfl rfl) ?_
      refine Lo u76 (rfl) ?_
      refine Lo u76 (W2q rfl rfl rfl rfl) ?_
      refine Lo u76 (Zb (.inl rfl) rfl) ?_
      refine Lo u76 (W18 rfl rfl rfl rfl rfl rfl rfl) ?_
      refine Lo u76 (W2q rfl rfl rfl rfl) ?_
      refine Lo u76 (Zb (.inl rfl) rfl) ?_
      refine Lo u76 (rfl) ?_
      refine Lo u76 (ZE rfl rfl rfl) ?_
      refine Lo u76 (Zb (.inr rfl) rfl) ?_
      refine Zf (Zy (Zc (Za ?_)))
      refine Lo u76 (Zb (.inl rfl) rfl) ?_
      refine Lo u76 (W14 rfl rfl rfl) ?_
      refine Lo u76 (Zb (.inr rfl) rfl) ?_
      refine Zf ?_
      refine ZD (mk 76 75557863725914323418125) (env' := u76) rfl ⟨⟨s + 1, _⟩, ?_, rfl, ?_⟩
      ·first | omega | (simp only []; omega)
      ·first | exact ⟨⟨by omega, by rw [allS_step (by omega), ← hb, (show b = true by assumption), Bool.true_and]⟩, rfl⟩ | exact ⟨⟨by omega, by rw [allS_step (by omega), ← hb, (show b = false by simp_all), Bool.false_and]⟩, rfl⟩
     ·try simp only [qB, qN] at hg5
      refine Lf u76 ?_
      refine Lf u76 ?_
      refine Lf u76 ?_
      refine Lf u76 ?_
      refine Lf u76 ?_
      refine Lf u76 ?_
      refine Lf u76 ?_
      refine Lf u76 ?_
      refine Lf u76 ?_
      refine Lf u76 ?_
      refine Lf u76 ?_
      refine Lo u76 (Zu (VVal.bool false) rfl rfl rfl) ?_
      refine Lo u76 (Zb (.inr rfl) rfl) ?_
      refine Zf (Zy (Zc (Za ?_)))
      refine Lo u76 (Zb (.inl rfl) rfl) ?_
      refine Lo u76 (W14 rfl rfl rfl) ?_
      refine Lo u76 (Zb (.inr rfl) rfl) ?_
      refine Zf ?_
      refine ZD (mk 76 75557863725914323418125) (env' := u76) rfl ⟨⟨s + 1, _⟩, ?_, rfl, ?_⟩
      ·first | omega | (simp only []; omega)
      ·first | exact ⟨⟨by omega, by rw [allS_step (by omega), ← hb, (show b = true by assumption), Bool.true_and]⟩, rfl⟩ | exact ⟨⟨by omega, by rw [allS_step (by omega), ← hb, (show b = false by simp_all), Bool.false_and]⟩, rfl⟩
    ·try simp only [qB, qN] at hc4
     refine ZR (ZP (ZI (ZQ (Zc (Ze (Za ?_))))))
     refine Lo u76 (Zb (.inl rfl) rfl) ?_
     refine Zf (Zc ?_)
     refine Zm _ rfl (fun hc6 => ?_) (fun hc6 => ?_)
     ·try simp only [qB, qN] at hc6
      refine Za ?_
      refine Lo u76 (Zb (.inl rfl) rfl) ?_
      refine Lo u76 (rfl) ?_
      refine Lo u76 (W2q rfl rfl rfl rfl) ?_
      refine Lo u76 (Zb (.inl rfl) rfl) ?_
      refine Lo u76 (W18 rfl rfl rfl rfl rfl rfl rfl) ?_
      refine Lo u76 (W2o rfl rfl rfl rfl rfl) ?_
      refine Lo u76 (Zz rfl rfl (by decide) rfl) ?_
      refine L_opX rfl rfl (v_appXh rfl rfl rfl rfl rfl rfl rfl (by simp) hl rfl rfl (by decide) (by have h9 := List.length_filter_le (fewR m) ((q.rules).take k); rw [List.length_take] at h9; show (_ + 1) * 40 ≤ _ ∧ _ + 1 ≤ _; omega) (by decide)) ?_
      rintro _ _ ⟨Y1, rfl, rfl, hY1, hY2, hY3⟩
      refine Le u76 ?_
      refine Lo u76 (Zb (.inr rfl) rfl) ?_
      refine Zf (Zy (Zc (Za ?_)))
      refine Lo u76 (Zb (.inl rfl) rfl) ?_
      refine Lo u76 (W14 rfl rfl rfl) ?_
      refine Lo u76 (Zb (.inr rfl) rfl) ?_
      refine Zf ?_
      obtain rfl : s = (q.rules.getD k r0).steps.length := by omega
      rw [List.take_length] at hb
      refine ZD (mk 76 75557863725914323418893) (env' := u76) rfl ⟨⟨k + 1, _⟩, ?_, rfl, ?_⟩
      ·first | omega | (simp only []; omega)
      ·first | exact ⟨by omega, _, rfl, by rw [fewR_step (by omega), if_pos (show fewR m (q.rules.getD k r0) = true from hb.symm.trans (by assumption))]; exact LV.pushF hY3⟩ | exact ⟨by omega, _, rfl, by rw [fewR_step (by omega), if_neg (fun e => by rw [show fewR m (q.rules.getD k r0) = b from hb.symm] at e; rw [(by assumption : b = false)] at e; cases e), List.append_nil]; exact hl⟩
     ·try simp only [qB, qN] at hc6
      refine Zl (Zy (Zc (Za ?_)))
      refine Lo u76 (Zb (.inl rfl) rfl) ?_
      refine Lo u76 (W14 rfl rfl rfl) ?_
      refine Lo u76 (Zb (.inr rfl) rfl) ?_
      refine Zf ?_
      obtain rfl : s = (q.rules.getD k r0).steps.length := by omega
      rw [List.take_length] at hb
      refine ZD (mk 76 75557863725914323418893) (env' := u76) rfl ⟨⟨k + 1, _⟩, ?_, rfl, ?_⟩
      ·first | omega | (simp only []; omega)
      ·first | exact ⟨by omega, _, rfl, by rw [fewR_step (by omega), if_pos (show fewR m (q.rules.getD k r0) = true from hb.symm.trans (by assumption))]; exact LV.pushF hY3⟩ | exact ⟨by omega, _, rfl, by rw [fewR_step (by omega), if_neg (fun e => by rw [show fewR m (q.rules.getD k r0) = b from hb.symm] at e; rw [(by assumption : b = false)] at e; cases e), List.append_nil]; exact hl⟩
   ·try simp only [qB, qN] at hc3
    refine ZR (ZP (ZI (ZQ (Zc (Ze ?_)))))
    obtain rfl : k = q.rules.length := by omega
    rw [List.take_length] at hl
    refine B_ghLVh (env' := u76) 6 hl (by simp) rfl rfl fun X4 hX4 hF4 => ?_
    refine B_heap (List.append_assoc _ _ _) ?_
    refine Za ?_
    refine Lo u76 (Zb (.inl rfl) rfl) ?_
    refine Lo u76 (rfl) ?_
    refine Lo u76 (W13 rfl rfl rfl rfl rfl rfl rfl) ?_
    refine Zf (Zc (Ze (Za ?_)))
    refine Lo u76 (W2o rfl rfl rfl rfl rfl) ?_
    refine Lo u76 (W13 rfl rfl rfl rfl rfl rfl rfl) ?_
    refine Zf (Zc (Zj ?_))
    refine W2t (.inr rfl) (YB rfl rfl rfl rfl XH0 (by first | rfl | assumption | exact Yw (α := BitVec 64) 0 (by omega) | exact Yw (α := Int) 0 (by omega) | exact rul_at (by omega) | exact rul_f2 (by omega) | exact rul_f0 (by omega) | exact rul_f1 (by omega))) ?_
    exact ⟨rfl, rfl⟩
theorem Few_spec {x : SW} (H : Zd) (p : Pb) (m : Nat) (hu : -9223372036854775808 ≤ p.users ∧ p.users < 9223372036854775808) : F (psys x) 15 [.agg (pbB p), iI (m : Nat)] H fun v G => v = .agg (pbB (Yg p m)) ∧ G = H := Few_q H p m hu _ rfl
abbrev hmB (s : Nat) (rows : List (BitVec 64)) (O : List Int) : VBlk := .cells (fzW rows :: (O.map iI ++ [.ptr (some (s, 0))])) true
abbrev hsB (w : BitVec 64) : VBlk := .cells [iW w] true
abbrev gw (g : Gz) (w : BitVec 64) : Gz := ⟨g.n, g.p, g.e + Yz 64 w⟩
def htH (H : Zd) (p q s : Nat) (rows : List (BitVec 64)) (t : GSt) (g : Gz) : Zd := ((H.set p (hmB s rows t.1)).set q (hsB t.2)).set s (gaB g)
section
variable {H L : Zd} {p q s : Nat} {rows : List (BitVec 64)} {t : GSt} {g : Gz}
structure Apart3 (H : Zd) (p q s : Nat) : Prop where
  hp : p < H.length
  hq : q < H.length
  hs : s < H.length
  pq : p ≠ q
  ps : p ≠ s
  qs : q ≠ s
theorem Yq {n : Nat} (h : H.length = n) : (htH H p q s rows t g).length = n := by unfold htH; rw [List.length_set, List.length_set, List.length_set]; exact h
theorem htH_id {O : List Int} {w : BitVec 64} (hp : H[p]? = some (hmB s rows O)) (hq : H[q]? = some (hsB w)) (hs : H[s]? = some (gaB g)) : htH H p q s rows (O, w) g = H := by
  unfold htH; rw [← set_keep hp, ← set_keep hq, ← set_keep hs]
theorem ht_s (a : Apart3 H p q s) : (htH H p q s rows t g ++ L)[s]? = some (gaB g) := by
  unfold htH; exact Zq (List.getElem?_set_self (by rw [List.length_set, List.length_set]; exact a.hs))
theorem ht_q (a : Apart3 H p q s) : (htH H p q s rows t g ++ L)[q]? = some (hsB t.2) := by
  unfold htH; exact Zq (by rw [List.getElem?_set_ne (Ne.symm a.qs)]; exact List.getElem?_set_self (by rw [List.length_set]; exact a.hq))
theorem ht_p (a : Apart3 H p q s) : (htH H p q s rows t g ++ L)[p]? = some (hmB s rows t.1) := by
  unfold htH; exact Zq (by rw [List.getElem?_set_ne (Ne.symm a.ps), List.getElem?_set_ne (Ne.symm a.pq)]; exact List.getElem?_set_self a.hp)
theorem ht_sets0 {k : VBlk} (a : Apart3 H p q s) : (htH H p q s rows t g ++ L).set s k = ((H.set p (hmB s rows t.1)).set q (hsB t.2)).set s k ++ L := by
  rw [Yj (by rw [Yq rfl]; exact a.hs)]; unfold htH; rw [List.set_set]
theorem ht_setq0 {k : VBlk} (a : Apart3 H p q s) : (htH H p q s rows t g ++ L).set q k = ((H.set p (hmB s rows t.1)).set q k).set s (gaB g) ++ L := by
  rw [Yj (by rw [Yq rfl]; exact a.hq)]; unfold htH; rw [List.set_comm _ _ (Ne.symm a.qs), List.set_set]
theorem ht_setq {w : BitVec 64} (a : Apart3 H p q s) : (htH H p q s rows t g ++ L).set q (hsB w) = htH H p q s rows (t.1, w) g ++ L := ht_setq0 a
theorem ht_setp0 {k : VBlk} (a : Apart3 H p q s) : (htH H p q s rows t g ++ L).set p k = ((H.set p k).set q (hsB t.2)).set s (gaB g) ++ L := by
  rw [Yj (by rw [Yq rfl]; exact a.hp)]; unfold htH
  rw [List.set_comm _ _ (Ne.symm a.ps), List.set_comm _ _ (Ne.symm a.pq), List.set_set]
theorem ht_setp {u : Int} {r : Int} (a : Apart3 H p q s) (hu : u.toNat < t.1.length) : (htH H p q s rows t g ++ L).set p (.cells (Zv (fzW rows :: (t.1.map iI ++ [.ptr (some (s, 0))])) (0 + 1 + u.toNat * 1) [iI r]) true) = htH H p q s rows (t.1.set u.toNat r, t.2) g ++ L := by
  have : Zv (fzW rows :: (t.1.map iI ++ [.ptr (some (s, 0))])) (0 + 1 + u.toNat * 1) [iI r] = fzW rows :: ((t.1.set u.toNat r).map iI ++ [.ptr (some (s, 0))]) := by
    rw [show 0 + 1 + u.toNat * 1 = u.toNat + 1 by omega]
    unfold Zv
    rw [List.map_set, ← List.set_append_left _ _ (by rw [List.length_map]; exact hu), List.set_eq_take_append_cons_drop, if_pos (by rw [List.length_append, List.length_map]; omega)]; simp
  rw [this, ht_setp0 a]; rfl
theorem ht_ht {t' : GSt} {g' : Gz} (a : Apart3 H p q s) : htH (htH H p q s rows t g ++ L) p q s rows t' g' = htH H p q s rows t' g' ++ L := by
  have : htH (htH H p q s rows t g ++ L) p q s rows t' g' = (((htH H p q s rows t g ++ L).set p (hmB s rows t'.1)).set q (hsB t'.2)).set s (gaB g') := rfl
  rw [this, ht_setp0 a]
  rw [Yj (by simp; exact a.hq), List.set_comm _ _ (Ne.symm a.qs), List.set_set, Yj (by simp; exact a.hs), List.set_set]; rfl
theorem ht_len6 {u : Int} {v : VVal} (h : u.toNat < t.1.length) : 0 + 1 + u.toNat * 1 + [v].length ≤ (fzW rows :: (t.1.map iI ++ [.ptr (some (s, 0))])).length := by
  show 0 + 1 + u.toNat * 1 + 1 ≤ (t.1.map iI ++ [_]).length + 1
  rw [List.length_append, List.length_map]; show _ ≤ _ + 1 + 1; omega
theorem ht_base (a : Apart3 H p q s) : BaseOk H (htH H p q s rows t g) := BaseOk.set (BaseOk.set (BaseOk.set (BaseOk.refl _) _ (by
    show VVal.underL _ (fzW rows :: (t.1.map iI ++ [.ptr (some (s, 0))])) = true
    have h1 : VVal.underL H.length (t.1.map iI ++ [.ptr (some (s, 0))]) = true := VVal.underL_app (VVal.underL_map fun _ => rfl) (by simp [VVal.underL, VVal.under, a.hs])
    simp only [VVal.underL, h1, Bool.and_true]
    exact VVal.underL_map fun _ => rfl)) _ rfl) _ rfl
theorem hown_cell {u : Int} (h : 0 ≤ u ∧ u < t.1.length) : (fzW rows :: (t.1.map iI ++ [.ptr (some (s, 0))]))[0 + 1 + u.toNat * 1]? = some (iI (t.1.getD u.toNat 0)) := by
  rw [show 0 + 1 + u.toNat * 1 = u.toNat + 1 by omega, List.getElem?_cons_succ]
  have : u.toNat < t.1.length := by omega
  rw [List.getElem?_append_left (by rw [List.length_map]; exact this)]
  simp [List.getElem?_eq_getElem this]
theorem hgp_cell (h : t.1.length = 64) : (fzW rows :: (t.1.map iI ++ [.ptr (some (s, 0))]))[0 + 65]? = some (.ptr (some (s, 0))) := by
  rw [show 0 + 65 = 64 + 1 by omega, List.getElem?_cons_succ, List.getElem?_append_right (by rw [List.length_map, h]; omega), List.length_map, h]; rfl
theorem apart_app {X : Zd} (a : Apart3 H p q s) : Apart3 (htH H p q s rows t g ++ X) p q s := ⟨by rw [List.length_append, Yq rfl]; have := a.hp; omega, by rw [List.length_append, Yq rfl]; have := a.hq; omega, by rw [List.length_append, Yq rfl]; have := a.hs; omega, a.pq, a.ps, a.qs⟩
end
theorem come_one {w : BitVec 64} {u : Nat} (hu : u < 64) (h : w.getLsbD u = false) (g : Gz) : (⟨g.n, g.p, (g.e + Yz 64 w) + 1⟩ : Gz) = gw g (w ||| 1#64 <<< u) := by
  unfold gw; rw [come_next hu (Nat.le_refl _) h, Nat.add_assoc]
section
variable {H L : Zd} {p q s : Nat} {rows : List (BitVec 64)} {t : GSt} {g : Gz}
theorem ht_incw {w : BitVec 64} (a : Apart3 H p q s) : (htH H p q s rows t (gw g w) ++ L).set s (.cells (Zv [iN (gw g w).n, iN (gw g w).p, iN (gw g w).e] (0 + 2) [iW (BitVec.ofNat 64 (gw g w).e + 1#64)]) true) = htH H p q s rows t ⟨g.n, g.p, (g.e + Yz 64 w) + 1⟩ ++ L := by
  rw [iN_one]; exact ht_sets0 a
end
abbrev u67 {a0 a1 a2 a3 a4 a5 a6 a7 a8 a9 a10 a11 a12 a13 a14 a15 a16 a17 a18 a19 a20 a21 a22 a23 a24 a25 a26 a27 a28 a29 a30 a31 a32 a33 a34 a35 a36 a37 a38 a39 a40 a41 a42 a43 a44 a45 a46 a47 a48 a49 a50 a51 a52 a53 a54 a55 a56 a57 a58 a59 a60 a61 a62 a63 a64 a65 a66 : VVal} : VEnv := a0 :: a1 :: a2 :: a3 :: a4 :: a5 :: a6 :: a7 :: a8 :: a9 :: a10 :: a11 :: a12 :: a13 :: a14 :: a15 :: a16 :: a17 :: a18 :: a19 :: a20 :: a21 :: a22 :: a23 :: a24 :: a25 :: a26 :: a27 :: a28 :: a29 :: a30 :: a31 :: a32 :: a33 :: a34 :: a35 :: a36 :: a37 :: a38 :: a39 :: a40 :: a41 :: a42 :: a43 :: a44 :: a45 :: a46 :: a47 :: a48 :: a49 :: a50 :: a51 :: a52 :: a53 :: a54 :: a55 :: a56 :: a57 :: a58 :: a59 :: a60 :: a61 :: a62 :: a63 :: a64 :: a65 :: a66 :: []
theorem W2w {T : TypeId → Option VTy} {H : Zd} {op : Op} {ρ : Operand → VVal} {t : TypeId} {a : Operand} {y : VTy} {p v : VVal} (ho : op = .load t a) (ha : ρ a = p) (hy : T t = some y) (hd : Zk y.desc = false) (h : LdOk H p v := by first | exact .inl ⟨_, _, rfl, by first | rfl | assumption | exact hown_cell (by omega) | exact hgp_cell hl1 | exact fget (α := BitVec 64) 0 (by omega)⟩ | exact .inr ⟨_, _, _, _, rfl, XH26, by first | rfl | assumption | exact hown_cell (by omega) | exact hgp_cell hl1 | exact fget (α := BitVec 64) 0 (by omega)⟩) : vop T ρ H op = some (v, H) := v_ld ho ha hy hd h
theorem W2y {T : TypeId → Option VTy} {H : Zd} {op : Op} {ρ : Operand → VVal} {t : TypeId} {a : Operand} {y : VTy} {p v : VVal} (ho : op = .load t a) (ha : ρ a = p) (hy : T t = some y) (hd : Zk y.desc = false) (h : LdOk H p v := by first | exact .inl ⟨_, _, rfl, by rfl⟩ | exact .inr ⟨_, _, _, _, rfl, by exact ZG (Yq rfl) rfl, by rfl⟩) : vop T ρ H op = some (v, H) := v_ld ho ha hy hd h
theorem W2z {T : TypeId → Option VTy} {H : Zd} {op : Op} {ρ : Operand → VVal} {t : TypeId} {a : Operand} {y : VTy} {p v : VVal} (ho : op = .load t a) (ha : ρ a = p) (hy : T t = some y) (hd : Zk y.desc = false) (h : LdOk H p v := by first | exact .inl ⟨_, _, rfl, by rfl⟩ | exact .inr ⟨_, _, _, _, rfl, XH26, by rfl⟩) : vop T ρ H op = some (v, H) := v_ld ho ha hy hd h
theorem W30 {T : TypeId → Option VTy} {H : Zd} {op : Op} {ρ : VEnv} {H' : Zd} {t : TypeId} {a : Operand} {i : Nat} {v : VVal} {y : VTy} {b off : Nat} {cs new : List VVal} (ho : op = .store t a (.tmp i)) (hv : ρ[i]? = some v) (ha : ρ.eval a = .ptr (some (b, off))) (hy : T t = some y) (hx : v.cells = some new) (hn : new.length = y.size) (h1 : new.all VVal.one = true) (hb : H[b]? = some (.cells cs true) := by exact XH26) (hl : off + new.length ≤ cs.length := by exact XH25) (hH : H.set b (.cells (Zv cs off new) true) = H' := by exact ht_incw hA) : vop T ρ.eval H op = some (.skip, H') := Z6 ho hv ha hy hx hn h1 hb hl hH
theorem W31 {T : TypeId → Option VTy} {H : Zd} {op : Op} {ρ : VEnv} {H' : Zd} {t : TypeId} {a : Operand} {i : Nat} {v : VVal} {y : VTy} {b off : Nat} {cs new : List VVal} (ho : op = .store t a (.tmp i)) (hv : ρ[i]? = some v) (ha : ρ.eval a = .ptr (some (b, off))) (hy : T t = some y) (hx : v.cells = some new) (hn : new.length = y.size) (h1 : new.all VVal.one = true) (hb : H[b]? = some (.cells cs true) := by exact XH26) (hl : off + new.length ≤ cs.length := by exact XH25) (hH : H.set b (.cells (Zv cs off new) true) = H' := by exact ht_setq hA) : vop T ρ.eval H op = some (.skip, H') := Z6 ho hv ha hy hx hn h1 hb hl hH
theorem W32 {T : TypeId → Option VTy} {H : Zd} {op : Op} {ρ : Operand → VVal} {t : TypeId} {a : Operand} {y : VTy} {p v : VVal} (ho : op = .load t a) (ha : ρ a = p) (hy : T t = some y) (hd : Zk y.desc = false) (h : LdOk H p v := by first | exact .inl ⟨_, _, rfl, by exact hown_cell (t := (s1.1, s1.2 ||| 1#64 <<< c)) (by show 0 ≤ (c : Int) ∧ (c : Int) < s1.1.length; omega)⟩ | exact .inr ⟨_, _, _, _, rfl, XH26, by exact hown_cell (t := (s1.1, s1.2 ||| 1#64 <<< c)) (by show 0 ≤ (c : Int) ∧ (c : Int) < s1.1.length; omega)⟩) : vop T ρ H op = some (v, H) := v_ld ho ha hy hd h
theorem W34 {T : TypeId → Option VTy} {H : Zd} {op : Op} {ρ : VEnv} {H' : Zd} {t : TypeId} {a : Operand} {i : Nat} {v : VVal} {y : VTy} {b off : Nat} {cs new : List VVal} (ho : op = .store t a (.tmp i)) (hv : ρ[i]? = some v) (ha : ρ.eval a = .ptr (some (b, off))) (hy : T t = some y) (hx : v.cells = some new) (hn : new.length = y.size) (h1 : new.all VVal.one = true) (hb : H[b]? = some (.cells cs true) := by exact XH26) (hl : off + new.length ≤ cs.length := by first | exact ht_len6 (t := (s1.1, 0#64)) (show c < s1.1.length by omega) | exact ht_len6 (Nat.lt_of_lt_of_eq hc64 (hgr.yes (by assumption)).1.len.symm)) (hH : H.set b (.cells (Zv cs off new) true) = H' := by first | exact ht_setp hA (show c < s1.1.length by omega) | exact ht_setp hA (Nat.lt_of_lt_of_eq hc64 (hgr.yes (by assumption)).1.len.symm)) : vop T ρ.eval H op = some (.skip, H') := Z6 ho hv ha hy hx hn h1 hb hl hH
theorem W36 {S : V.Sys} {H : Zd} {fn : Func} {ex : Exit} {env : VEnv} {B L : Zd} {v : VVal} {R : VVal → Zd → Prop} (hx : ex = .normal ∨ ex = .ret) (hv : Z0 S.C.T env (B ++ L) fn.results = some v) (h : R v B) (hB : BaseOk H B := by exact ht_base hA) (hu : v.under H.length = true := by first | rfl | simp [VVal.under, VVal.underL, *]) : fnK S fn H R ex env (B ++ L) := E_app hx hv hB hu h
theorem hset_spec {x : SW} (H : Zd) (w : BitVec 64) : F (psys x) 145 [iW w] H fun v G => v = .agg [iW w] ∧ G = H := by
 refine Zs Tryd.func145 rfl u6 rfl ?_
 refine Ze (Za ?_)
 refine Lo u6 (ZH rfl rfl) ?_
 refine Zf (Zc (Ze (Za ?_)))
 refine Lo u6 (rfl) ?_
 refine Lo u6 (Zb (.inl rfl) rfl) ?_
 refine Zt rfl rfl rfl (by exact Of_spec _ 0#64 _) ?_
 rintro _ _ ⟨rfl, rfl⟩
 refine Le u6 ?_
 refine Lo u6 (W13 rfl rfl rfl rfl rfl rfl rfl) ?_
 refine Zf (Zc (Zj ?_))
 refine W10 (.inr rfl) (YB rfl rfl rfl rfl XH0 XH6) ?_
 exact ⟨rfl, rfl⟩
theorem hgrow_in {x : SW} {p q y n : Nat} {rows : List (BitVec 64)} (ih : ∀ (H : Zd) (row : Int) (O : List Int) (S : BitVec 64) (g : Gz), Apart3 H p q y → H[p]? = some (hmB y rows O) → H[q]? = some (hsB S) → H[y]? = some (gaB (gw g S)) → 0 ≤ row → row < rows.length → Gok rows O → 64 - Yz 64 S < n → F (psys x) 119 [.ptr (some (p, 0)), iI row, .ptr (some (q, 0))] H fun v G => v = .bool (grw rows n row (O, S)).1 ∧ G = htH H p q y rows (grw rows n row (O, S)).2 (gw g (grw rows n row (O, S)).2.2)) {H L : Zd} (a : Apart3 H p q y) (t : GSt) (g : Gz) (row : Int) (h0 : 0 ≤ row) (h1 : row < rows.length) (hk : Gok rows t.1) (hm : 64 - Yz 64 t.2 < n) :
    F (psys x) 119 [.ptr (some (p, 0)), iI row, .ptr (some (q, 0))] (htH H p q y rows t (gw g t.2) ++ L) fun v G => v = .bool (grw rows n row t).1 ∧ G = htH H p q y rows (grw rows n row t).2 (gw g (grw rows n row t).2.2) ++ L := by
  have := ih (htH H p q y rows t (gw g t.2) ++ L) row t.1 t.2 g (apart_app a) (ht_p a) (ht_q a) (ht_s a) h0 h1 hk hm
  rw [ht_ht a] at this
  exact this
theorem hgrow_s {x : SW} (p q y n : Nat) (rows : List (BitVec 64)) (ih : ∀ (H : Zd) (row : Int) (O : List Int) (S : BitVec 64) (g : Gz), Apart3 H p q y → H[p]? = some (hmB y rows O) → H[q]? = some (hsB S) → H[y]? = some (gaB (gw g S)) → 0 ≤ row → row < rows.length → Gok rows O → 64 - Yz 64 S < n → F (psys x) 119 [.ptr (some (p, 0)), iI row, .ptr (some (q, 0))] H fun v G => v = .bool (grw rows n row (O, S)).1 ∧ G = htH H p q y rows (grw rows n row (O, S)).2 (gw g (grw rows n row (O, S)).2.2)) (H : Zd) (hA : Apart3 H p q y) (row : Int) (O : List Int) (S : BitVec 64) (g : Gz) (hp : H[p]? = some (hmB y rows O)) (hq : H[q]? = some (hsB S)) (hs : H[y]? = some (gaB (gw g S))) (h0 : 0 ≤ row) (h1 : row < rows.length) (hO : Gok rows O) (hm : 64 - Yz 64 S < n + 1) (h62 : rows.length < 4611686018427387904) : F (psys x) 119 [.ptr (some (p, 0)), iI row, .ptr (some (q, 0))] H fun v G => v = .bool (grw rows (n + 1) row (O, S)).1 ∧ G = htH H p q y rows (grw rows (n + 1) row (O, S)).2 (gw g (grw rows (n + 1) row (O, S)).2.2) := by
 refine Zs Tryd.func119 rfl u67 rfl ?_
 refine Ze (Za ?_)
 refine Lo u67 (Zw rfl rfl rfl) ?_
 refine Lo u67 (Zw rfl rfl rfl) ?_
 refine Lo u67 (Zw rfl rfl rfl) ?_
 refine Lo u67 (ZH rfl rfl) ?_
 refine Zf (Zc (Ze (Ze ?_)))
 refine ZV [0, 1, 2, 3, 4, 5, 6, 7, 8] #[0, 1, 3, 7, 0, 31, 63, 127, 255] XH2 XH2 XH2 ?_
 refine Oo u67 .look rfl (W2w rfl rfl rfl rfl) ?_
 refine Oo u67 .calm rfl (rfl) ?_
 refine Oo u67 .calm rfl (rfl) ?_
 refine Oo u67 .look rfl (W2w rfl rfl rfl rfl) ?_
 refine Oo u67 .look rfl (W2w rfl rfl rfl rfl) ?_
 refine Oo u67 .calm rfl (W18 rfl rfl rfl rfl rfl rfl rfl) ?_
 refine Oo u67 .look rfl (W2w rfl rfl rfl rfl) ?_
 refine ZX (env' := u67) rfl rfl rfl rfl rfl (by exact hset_spec _ _) XH14 rfl rfl ?_
 refine ZX (env' := u67) rfl rfl rfl rfl rfl (by exact All_spec _ _) XH14 rfl rfl ?_
 refine ZS [] XH2 (trivial) ?_
 refine Zc (Zo ?_)
 refine ZJ (mk 67 147573952589676347271) (env' := u67) rfl ?_
 refine B_rangeM cI (pl (rows.getD row.toNat 0) 0) (fun l0 h => by cases h) rfl (fun l G R h => All1_spec _ _ _ _ h) (σ := GSt × Bool) (fun k s => htH H p q y rows s.1 (gw g (s.1).2) ++ [.cells [.ptr (some (p, 0))] true, .cells [iI row] true, .cells [.ptr (some (q, 0))] true, .cells [.bool s.2] true, k]) ((O, S), false) (fun k => by show _ = htH H p q y rows (O, S) (gw g S) ++ _; rw [htH_id hp hq hs, List.append_assoc]; rfl) (fun k s => by rw [List.length_append]; exact ZG (Yq rfl) rfl) (fun k k1 s => by rw [List.length_append]; exact ZW (Yq rfl)) (fun pre s => ∃ z, (pl (rows.getD row.toNat 0) 0) = pre ++ z ∧ grL (grw rows n) row (pl (rows.getD row.toNat 0) 0) (O, S) = grL (grw rows n) row z s.1 ∧ s.1.1 = O ∧ 64 - Yz 64 s.1.2 ≤ n ∧ s.2 = false) ?_ (fun j pre c s => (j = Code.ret ∧ (grL (grw rows n) row (pl (rows.getD row.toNat 0) 0) (O, S) = (true, s.1) ∧ s.2 = true))) rfl ?_ ?_ ?_
 ·exact ⟨_, rfl, rfl, rfl, by show 64 - Yz 64 S ≤ n; omega, rfl⟩
 ·intro pre c post s hx hI kr kb hkr hkb
  obtain ⟨s1, res⟩ := s
  try dsimp only at hI ⊢
  obtain ⟨z, hz, hg, hO1, hcm, hres⟩ := hI
  have hres : res = false := hres
  subst hres
  obtain rfl : z = c :: post := List.append_cancel_left (hz.symm.trans hx)
  have hO1 : s1.1 = O := hO1
  have hcm : 64 - Yz 64 s1.2 ≤ n := hcm
  have hg : grL (grw rows n) row (pl (rows.getD row.toNat 0) 0) (O, S) = grL (grw rows n) row (c :: post) s1 := hg
  have hcx : c ∈ (pl (rows.getD row.toNat 0) 0) := by rw [hx]; simp
  obtain ⟨_, hc64, _⟩ := mem_pl.1 hcx
  have hk1 : Gok rows s1.1 := by rw [hO1]; exact hO
  have hl1 : s1.1.length = 64 := hk1.len
  have hnn1 := hk1.nn c hc64
  refine ZZ (env' := u67) rfl ?_
  refine Za ?_
  refine Lo u67 (Zb (.inr rfl) rfl) ?_
  refine Zf ?_
  refine ⟨rfl, (s1, false), rfl, ?_⟩
  try dsimp only
  refine Zo (Ze (Ze (Za ?_)))
  refine Lo u67 (W2y rfl rfl rfl rfl) ?_
  refine Lo u67 (rfl) ?_
  refine Lo u67 (W2z rfl rfl rfl rfl) ?_
  refine Zt rfl rfl rfl (by exact hset_spec _ _) ?_
  rintro _ _ ⟨rfl, rfl⟩
  refine Le u67 ?_
  refine Lo u67 (Zb (.inl rfl) rfl) ?_
  refine Zt rfl rfl rfl (by exact Has_spec _ _ _) ?_
  rintro v _ ⟨hv, rfl⟩; obtain rfl : v = .bool (s1.2.getLsbD c) := hv.trans (by rw [decide_eq_true ⟨Int.natCast_nonneg c, by omega⟩, Bool.true_and]; rfl)
  refine Le u67 ?_
  refine Zf (Zc ?_)
  refine Zm _ rfl (fun hc1 => ?_) (fun hc1 => ?_)
  ·try simp only [qB] at hc1
   refine ZR (ZP (ZQ ?_))
   have hseen : s1.2.getLsbD c = true := by assumption
   refine ⟨(s1, false), rfl, .inl ⟨rfl, ?_⟩⟩
   exact ⟨post, by rw [hx, List.append_assoc]; rfl, by rw [hg, grL, if_pos hseen], hO1, hcm, rfl⟩
  ·try simp only [qB] at hc1
   refine Zl (Zc (Ze (Za ?_)))
   have hnseen : ¬ s1.2.getLsbD c = true := nof (by assumption)
   have hcg := come_grow (s := s1.2) (t := s1.2 ||| 1#64 <<< c) (fun a ha => (or1 hc64).2 (.inl ha)) ⟨c, (or1 hc64).2 (.inr rfl), bool_f hnseen⟩
   have hcl := come_le (s1.2 ||| 1#64 <<< c)
   refine Lo u67 (W2y rfl rfl rfl rfl) ?_
   refine Lo u67 (rfl) ?_
   refine Lo u67 (rfl) ?_
   refine Lo u67 (W2w rfl rfl rfl rfl) ?_
   refine Lo u67 (rfl) ?_
   refine Lo u67 (rfl) ?_
   refine Lo u67 (W2z rfl rfl rfl rfl) ?_
   refine Lo u67 (v_addW (b := 1#64) rfl rfl rfl) ?_
   refine Lo u67 (rfl) ?_
   refine Lo u67 (rfl) ?_
   refine Lo u67 (W30 rfl rfl rfl rfl rfl rfl rfl) ?_
   refine Zf (Zc (Ze ?_))
   refine ZV [0, 1, 2, 3, 4, 5, 6, 7] #[0, 1, 3, 0, 8, 31, 63, 127] XH2 XH2 XH2 ?_
   refine Oo u67 .look rfl (W2y rfl rfl rfl rfl) ?_
   refine Oo u67 .calm rfl (rfl) ?_
   refine Oo u67 .look rfl (W2w rfl rfl rfl rfl) ?_
   refine Oo u67 .calm rfl (Zb (.inl rfl) rfl) ?_
   refine Oo u67 .calm rfl (v_shl1 rfl rfl rfl XH3) ?_
   refine Oo u67 .calm rfl (v_orW rfl rfl rfl) ?_
   refine Oo u67 .calm rfl (rfl) ?_
   refine Oo u67 .turn rfl (W31 rfl rfl rfl rfl rfl rfl rfl) ?_
   refine ZS [] XH2 (trivial) ?_
   refine Zc (Ze ?_)
   rw [come_one hc64 (bool_f hnseen) g]
   refine ZV [0, 1, 2, 3, 4, 5, 6, 7, 8, 9, 10, 11, 12, 13, 14, 15, 16, 17, 18] #[0, 0, 1, 5, 15, 31, 63, 127, 255, 255, 255, 767, 2815, 7935, 16127, 32511, 255, 131071, 262143] XH2 XH2 XH2 ?_
   refine Oo u67 .look rfl (W2y rfl rfl rfl rfl) ?_
   refine Oo u67 .calm rfl (Zb (.inl rfl) rfl) ?_
   refine Oo u67 .calm rfl (rfl) ?_
   refine Oo u67 .calm rfl (rfl) ?_
   refine Oo u67 .calm rfl XH22 ?_
   refine Oo u67 .look rfl (W32 rfl rfl rfl rfl) ?_
   refine Oo u67 .calm rfl (rfl) ?_
   refine Oo u67 .calm rfl (Zb (.inl rfl) rfl) ?_
   refine O_split 48 (env1 := u67) (env2 := u67) rfl rfl rfl (fun hg2 => ?_) (fun hg2 => ?_)
   ·try simp only [qB] at hg2
    refine Of u67 rfl ?_
    refine Of u67 rfl ?_
    refine Of u67 rfl ?_
    refine Of u67 rfl ?_
    refine Of u67 rfl ?_
    refine Of u67 rfl ?_
    refine Of u67 rfl ?_
    refine Of u67 rfl ?_
    refine Of u67 rfl ?_
    refine Of u67 rfl ?_
    refine Oo u67 .calm rfl (ZL (VVal.bool true) rfl rfl rfl) ?_
    refine ZS [] XH2 (trivial) ?_
    refine Zc ?_
    refine ZM rfl rfl ?_
    refine Ze ?_
    refine ZV [0, 1, 2, 3, 4, 5, 6, 7] #[0, 0, 0, 4, 1, 17, 63, 127] XH2 XH2 XH2 ?_
    refine Oo u67 .look rfl (W2y rfl rfl rfl rfl) ?_
    refine Oo u67 .calm rfl (Zb (.inl rfl) rfl) ?_
    refine Oo u67 .look rfl (W2y rfl rfl rfl rfl) ?_
    refine Oo u67 .calm rfl (W14 rfl rfl rfl) ?_
    refine Oo u67 .calm rfl (rfl) ?_
    refine Oo u67 .calm rfl (rfl) ?_
    refine Oo u67 .calm rfl XH22 ?_
    refine Oo u67 .turn rfl (W34 rfl rfl rfl rfl rfl rfl rfl) ?_
    refine ZS [] XH2 (trivial) ?_
    refine Zc (Ze (Za ?_))
    refine Lo u67 (Ym (VVal.bool true) rfl rfl rfl rfl rfl rfl rfl XH13 XH4 (by exact ZW (Yq rfl))) ?_
    refine Zf (Zc (Zj (ZB ?_)))
    refine ⟨(_, true), rfl, .inr ⟨Code.ret, rfl, ⟨rfl, ?_⟩⟩⟩
    first
      | exact ⟨by rw [hg, grL, if_neg hnseen, if_pos (by assumption)]; rfl, rfl⟩
      | exact ⟨by rw [hg, grL, if_neg hnseen, if_neg hno, if_pos (by assumption)]; rfl, rfl⟩
   ·try simp only [qB] at hg2
    have hno : ¬ s1.1.getD c 0 = 0 := by assumption
    have hgr := grw_ok (rows := rows) (n := n) (row := s1.1.getD c 0 - 1) (s := (s1.1, s1.2 ||| 1#64 <<< c)) (by omega) (by omega) hk1 (by show 64 - Yz 64 (s1.2 ||| 1#64 <<< c) < n; omega)
    refine Oo u67 .look rfl (W2y rfl rfl rfl rfl) ?_
    refine Oo u67 .look rfl (W2y rfl rfl rfl rfl) ?_
    refine Oo u67 .calm rfl (Zb (.inl rfl) rfl) ?_
    refine Oo u67 .calm rfl (rfl) ?_
    refine Oo u67 .calm rfl (rfl) ?_
    refine Oo u67 .calm rfl XH22 ?_
    refine Oo u67 .look rfl (W32 rfl rfl rfl rfl) ?_
    refine Oo u67 .calm rfl (W22 rfl rfl rfl) ?_
    refine Oo u67 .look rfl (W2y rfl rfl rfl rfl) ?_
    refine ZX (env' := u67) rfl rfl rfl rfl rfl (by exact hgrow_in ih hA (s1.1, s1.2 ||| 1#64 <<< c) g _ (show (0 : Int) ≤ s1.1.getD c 0 - 1 by omega) (show s1.1.getD c 0 - 1 < (rows.length : Int) by omega) hk1 (by show 64 - Yz 64 (s1.2 ||| 1#64 <<< c) < n; omega)) XH14 rfl rfl ?_
    refine Oo u67 .calm rfl (ZF rfl rfl rfl) ?_
    refine ZS [] XH2 (trivial) ?_
    refine Zc ?_
    refine Zm _ rfl (fun hc3 => ?_) (fun hc3 => ?_)
    ·try simp only [qB] at hc3
     refine Ze ?_
     refine ZV [0, 1, 2, 3, 4, 5, 6, 7] #[0, 0, 0, 4, 1, 17, 63, 127] XH2 XH2 XH2 ?_
     refine Oo u67 .look rfl (W2y rfl rfl rfl rfl) ?_
     refine Oo u67 .calm rfl (Zb (.inl rfl) rfl) ?_
     refine Oo u67 .look rfl (W2y rfl rfl rfl rfl) ?_
     refine Oo u67 .calm rfl (W14 rfl rfl rfl) ?_
     refine Oo u67 .calm rfl (rfl) ?_
     refine Oo u67 .calm rfl (rfl) ?_
     refine Oo u67 .calm rfl XH22 ?_
     refine Oo u67 .turn rfl (W34 rfl rfl rfl rfl rfl rfl rfl) ?_
     refine ZS [] XH2 (trivial) ?_
     refine Zc (Ze (Za ?_))
     refine Lo u67 (Ym (VVal.bool true) rfl rfl rfl rfl rfl rfl rfl XH13 XH4 (by exact ZW (Yq rfl))) ?_
     refine Zf (Zc (Zj (ZB ?_)))
     refine ⟨(_, true), rfl, .inr ⟨Code.ret, rfl, ⟨rfl, ?_⟩⟩⟩
     first
       | exact ⟨by rw [hg, grL, if_neg hnseen, if_pos (by assumption)]; rfl, rfl⟩
       | exact ⟨by rw [hg, grL, if_neg hnseen, if_neg hno, if_pos (by assumption)]; rfl, rfl⟩
    ·try simp only [qB] at hc3
     refine Zl (Zy ?_)
     have hcg2 : Yz 64 (s1.2 ||| 1#64 <<< c) ≤ Yz 64 (grw rows n (s1.1.getD c 0 - 1) (s1.1, s1.2 ||| 1#64 <<< c)).2.2 := come_le2 hgr.sub
     refine ⟨(_, false), rfl, .inl ⟨rfl, ?_⟩⟩
     exact ⟨post, by rw [hx, List.append_assoc]; rfl, by rw [hg, grL, if_neg hnseen, if_neg hno, if_neg (nof (by assumption))]; rfl, ((hgr.no (by assumption)).1).trans hO1, (by show 64 - Yz 64 (grw rows n (s1.1.getD c 0 - 1) (s1.1, s1.2 ||| 1#64 <<< c)).2.2 ≤ n; omega), rfl⟩
 ·intro s k hk hI
  obtain ⟨s1, res⟩ := s
  try dsimp only at hI ⊢
  obtain ⟨z, hz, hg, hO1, hcm, hres⟩ := hI
  have hres : res = false := hres
  subst hres
  obtain rfl : z = [] := by simpa using hz
  refine Zy (Zc (Ze (Za ?_)))
  refine Lo u67 (Ym (VVal.bool false) rfl rfl rfl rfl rfl rfl rfl XH13 XH4 (by exact ZW (Yq rfl))) ?_
  refine Zf (Zc (Zj ?_))
  refine W36 (.inr rfl) (vres_cell rfl rfl rfl rfl (by exact ZG (Yq rfl) rfl) (by first | rfl | assumption | exact hown_cell (by omega) | exact hgp_cell hl1 | exact fget (α := BitVec 64) 0 (by omega))) ?_
  exact ⟨by rw [show grw rows (n + 1) row (O, S) = (false, s1) from grw_all.trans hg], by rw [show grw rows (n + 1) row (O, S) = (false, s1) from grw_all.trans hg]⟩
 ·rintro j pre c post s k hk hx (⟨rfl, hX⟩)
  obtain ⟨s1, res⟩ := s
  try dsimp only
  obtain ⟨hX1, hX2⟩ := hX
  have hX2 : res = true := hX2
  subst hX2
  refine J_ret ?_
  refine ZB (Zn ?_)
  refine W36 (.inr rfl) (vres_cell rfl rfl rfl rfl (by exact ZG (Yq rfl) rfl) (by first | rfl | assumption | exact hown_cell (by omega) | exact hgp_cell hl1 | exact fget (α := BitVec 64) 0 (by omega))) ?_
  exact ⟨by rw [show grw rows (n + 1) row (O, S) = (true, s1) from grw_all.trans hX1], by rw [show grw rows (n + 1) row (O, S) = (true, s1) from grw_all.trans hX1]⟩
abbrev u51 {a0 a1 a2 a3 a4 a5 a6 a7 a8 a9 a10 a11 a12 a13 a14 a15 a16 a17 a18 a19 a20 a21 a22 a23 a24 a25 a26 a27 a28 a29 a30 a31 a32 a33 a34 a35 a36 a37 a38 a39 a40 a41 a42 a43 a44 a45 a46 a47 a48 a49 a50 : VVal} : VEnv := a0 :: a1 :: a2 :: a3 :: a4 :: a5 :: a6 :: a7 :: a8 :: a9 :: a10 :: a11 :: a12 :: a13 :: a14 :: a15 :: a16 :: a17 :: a18 :: a19 :: a20 :: a21 :: a22 :: a23 :: a24 :: a25 :: a26 :: a27 :: a28 :: a29 :: a30 :: a31 :: a32 :: a33 :: a34 :: a35 :: a36 :: a37 :: a38 :: a39 :: a40 :: a41 :: a42 :: a43 :: a44 :: a45 :: a46 :: a47 :: a48 :: a49 :: a50 :: []
theorem W39 {T : TypeId → Option VTy} {H : Zd} {op : Op} {ρ : Operand → VVal} {t : TypeId} {a : Operand} {y : VTy} {p v : VVal} (ho : op = .load t a) (ha : ρ a = p) (hy : T t = some y) (hd : Zk y.desc = false) (h : LdOk H p v := by first | exact .inl ⟨_, _, rfl, by first | exact fget0 (α := BitVec 64) 0 (by rw [mkT_len]; omega) | rfl⟩ | exact .inr ⟨_, _, _, _, rfl, XH23, by first | exact fget0 (α := BitVec 64) 0 (by rw [mkT_len]; omega) | rfl⟩) : vop T ρ H op = some (v, H) := v_ld ho ha hy hd h
theorem W3b {T : TypeId → Option VTy} {H : Zd} {op : Op} {ρ : VEnv} {H' : Zd} {t : TypeId} {a : Operand} {i : Nat} {v : VVal} {y : VTy} {b off : Nat} {cs new : List VVal} (ho : op = .store t a (.tmp i)) (hv : ρ[i]? = some v) (ha : ρ.eval a = .ptr (some (b, off))) (hy : T t = some y) (hx : v.cells = some new) (hn : new.length = y.size) (h1 : new.all VVal.one = true) (hb : H[b]? = some (.cells cs true) := by exact XH23) (hl : off + new.length ≤ cs.length := by show 0 + (k : Int).toNat * 1 + 1 ≤ _; rw [List.length_map, mkT_len]; omega) (hH : H.set b (.cells (Zv cs off new) true) = H' := by exact (ZW rfl).trans (by show H ++ [VBlk.cells (Zv (List.map iW (mkT l t k)) (0 + (k : Int).toNat * 1) [_]) true, _] = _; rw [spl_w (by rw [mkT_len]; omega)])) : vop T ρ.eval H op = some (.skip, H') := Z6 ho hv ha hy hx hn h1 hb hl hH
theorem W3d {S : V.Sys} {H : Zd} {fn : Func} {ex : Exit} {env : VEnv} {B L : Zd} {v : VVal} {R : VVal → Zd → Prop} (hx : ex = .normal ∨ ex = .ret) (hv : Z0 S.C.T env (B ++ L) fn.results = some v) (h : R v B) (hB : BaseOk H B := by exact BaseOk.set (BaseOk.refl _) _ rfl) (hu : v.under H.length = true := by first | rfl | simp [VVal.under, VVal.underL, *]) : fnK S fn H R ex env (B ++ L) := E_app hx hv hB hu h
theorem W3e {P : Prop} (h : P := by first | exact ⟨by rw [(full_no (by omega) hz (by assumption)).1], by rw [show fuG l t = ⟨0, 0, edN (msk l t) (k + 1)⟩ from congrArg (Gz.mk 0 0) (full_no (by omega) hz (by assumption)).2]⟩ | (obtain rfl : k = l.length := by omega); exact ⟨by rw [full_yes hz], rfl⟩) : P := h
theorem hgrow_spec {x : SW} (p q y : Nat) (rows : List (BitVec 64)) (h62 : rows.length < 4611686018427387904) : ∀ (n : Nat) (H : Zd) (row : Int) (O : List Int) (S : BitVec 64) (g : Gz), Apart3 H p q y → H[p]? = some (hmB y rows O) → H[q]? = some (hsB S) → H[y]? = some (gaB (gw g S)) → 0 ≤ row → row < rows.length → Gok rows O → 64 - Yz 64 S < n → F (psys x) 119 [.ptr (some (p, 0)), iI row, .ptr (some (q, 0))] H fun v G => v = .bool (grw rows n row (O, S)).1 ∧ G = htH H p q y rows (grw rows n row (O, S)).2 (gw g (grw rows n row (O, S)).2.2)
  | 0, _, _, _, _, _, _, _, _, _, _, _, _, h => absurd h (by omega)
  | n + 1, H, row, O, S, g, a, hp, hq, hs, h0, h1, hO, hm => hgrow_s p q y n rows (fun H row O S g a b c d e f h i => hgrow_spec p q y rows h62 n H row O S g a b c d e f h i) H a row O S g hp hq hs h0 h1 hO hm h62
theorem gw_0 (g : Gz) : gw g 0#64 = g := by unfold gw; rw [come_0]; rfl
theorem gw_ed {rows : List (BitVec 64)} {k : Nat} {g : Gz} (h : (szO rows k).2 = k) : gw (g + ⟨0, 0, edN rows k⟩) (grw rows 65 k ((szO rows k).1, 0#64)).2.2 = g + ⟨0, 0, edN rows (k + 1)⟩ := by
  rw [edN_yes h]; exact Gz.ext' rfl rfl (Nat.add_assoc _ _ _)
theorem hgrow_at {x : SW} {H : Zd} {y p q : Nat} (hp : p = H.length + 1) (hq : q = H.length + 2) (g : Gz) (hy : y < H.length) (rows : List (BitVec 64)) (O : List Int) (row : Int) (h0 : 0 ≤ row) (h1 : row < rows.length) (hO : Gok rows O) (h62 : rows.length < 4611686018427387904) : F (psys x) 119 [.ptr (some (p, 0)), iI row, .ptr (some (q, 0))] (H.set y (gaB g) ++ [.dead, hmB y rows O, hsB 0#64]) fun v G => v = .bool (grw rows 65 row (O, 0#64)).1 ∧ G = H.set y (gaB (gw g (grw rows 65 row (O, 0#64)).2.2)) ++ [.dead, hmB y rows (grw rows 65 row (O, 0#64)).2.1, hsB (grw rows 65 row (O, 0#64)).2.2] := by
  subst hp hq
  have := hgrow_spec (x := x) (H.length + 1) (H.length + 2) y rows h62 65 (H.set y (gaB g) ++ [.dead, hmB y rows O, hsB 0#64]) row O 0#64 g ⟨by simp, by simp, by simp; omega, by omega, by omega, by omega⟩ (ZG (List.length_set) rfl) (ZG (List.length_set) rfl) (by rw [gw_0]; exact get_out (List.getElem?_set_self hy)) h0 h1 hO (by rw [come_0]; omega)
  unfold htH at this
  rw [ZW (List.length_set), ZW (List.length_set), Yj XH17, List.set_set] at this
  exact this
theorem hmB_under {n y : Nat} {rows : List (BitVec 64)} {O : List Int} (h : y < n) : (hmB y rows O).under n = true := by
  show VVal.underL n (fzW rows :: (O.map iI ++ [.ptr (some (y, 0))])) = true
  have h1 : VVal.underL n (O.map iI ++ [.ptr (some (y, 0))]) = true := VVal.underL_app (VVal.underL_map fun _ => rfl) (by simp [VVal.underL, VVal.under, h])
  simp only [VVal.underL, h1, Bool.and_true]
  exact VVal.underL_map fun _ => rfl
theorem wApp_c {l : List (BitVec 64)} : Zp (l.map iW) 0 (l.length * 1) = some (l.map iW) := by
  unfold Zp; rw [if_pos XH16, List.drop_zero, List.take_of_length_le XH16]
theorem spl_w {l : List (BitVec 64)} {k : Nat} {w : BitVec 64} (h : k < l.length) : Zv (l.map iW) (0 + k * 1) [iW w] = (l.set k w).map iW := by
  rw [show 0 + k * 1 = k by omega]
  unfold Zv
  rw [List.map_set, List.set_eq_take_append_cons_drop, if_pos (by rw [List.length_map]; exact h)]; simp
section
variable {T : TypeId → Option VTy} {ρ : Operand → VVal} {H : Zd} {op : Op}
theorem v_eqNilC {t : TypeId} {x y : Operand} {ty : TypeId} {cs : List VVal} {len es : Nat} {ex : Bool} {i : VTy} {e : TypeId} (ho : op = .binOp .eql t x y ty) (hx : ρ x = .fsl cs len es ex) (hy : ρ y = .slice none 0 0 true 0) (hT : T t = some i) (hd : i.desc = .slice e) (hl : len ≠ 0) : vop T ρ H op = some (.bool false, H) := by
  rw [ho]; simp [vop, vbin, hx, hy, veq, hT, hd, hl]
end
theorem CloW_nil {x : SW} (H : Zd) : F (psys x) 99 [.slice none 0 0 true 0] H fun v G => v = .fsl [] 0 1 false ∧ G = H := by
 refine Zs Tryd.func99 rfl u8 rfl ?_
 refine Ze (Za ?_)
 refine Lo u8 (Zh (VVal.slice none 0 0 true 0) (.inr rfl) rfl) ?_
 refine Zf (Zc (Ze (Ze (Za ?_))))
 refine Lo u8 (Zb (.inl rfl) rfl) ?_
 refine Lo u8 (rfl) ?_
 refine Zf (Zc ?_)
 refine ZM rfl rfl ?_
 refine Ze (Za ?_)
 refine Lo u8 (Zh (VVal.slice none 0 0 true 0) (.inr rfl) rfl) ?_
 refine Zf (Zc (Zj (Zn ?_)))
 refine E_gh (.inr rfl) (Zg rfl rfl) (Gh.ansLV (BaseOk.refl _) (LV.nil H.length 1 []) rfl) ?_
 exact ⟨rfl, rfl⟩
theorem CloW_emp {x : SW} (H : Zd) : F (psys x) 99 [.slice none 0 0 false 0] H fun v G => v = .fsl [] 0 1 false ∧ G = H := by
 refine Zs Tryd.func99 rfl u8 rfl ?_
 refine Ze (Za ?_)
 refine Lo u8 (Zh (VVal.slice none 0 0 true 0) (.inr rfl) rfl) ?_
 refine Zf (Zc (Ze (Ze (Za ?_))))
 refine Lo u8 (Zb (.inl rfl) rfl) ?_
 refine Lo u8 (rfl) ?_
 refine Zf (Zc ?_)
 refine Z4 rfl rfl ?_
 refine Zl (Zc (Ze (Za ?_)))
 refine Lo u8 (Zz rfl rfl (by decide) rfl) ?_
 refine Lo u8 (Zb (.inl rfl) rfl) ?_
 refine Lo u8 (v_appIn rfl rfl rfl rfl rfl rfl rfl (ZG rfl rfl) rfl rfl rfl rfl (by decide) (by decide) (by decide)) ?_
 refine L_heap (H' := H ++ [.cells [] true]) (by rw [ZW rfl]; rfl) ?_
 refine Lo u8 (Zb (.inr rfl) rfl) ?_
 refine Zf (Zc (Zj ?_))
 refine E_gh (.inr rfl) (Zg rfl rfl) (Gh.fsl (j := 0) (off := 0) (len := 0) (l := []) (BaseOk.refl _) rfl rfl (Nat.le_refl _) rfl) ?_
 exact ⟨rfl, rfl⟩
theorem CloW_c {x : SW} (H : Zd) (l : List (BitVec 64)) (hne : l ≠ []) (hl : l.length ≤ 1000000) : F (psys x) 99 [fzW l] H fun v G => v = .slice (some (H.length, 0)) l.length l.length (decide (l.length = 0)) 1 ∧ G = H ++ [.cells (l.map iW) true] := by
 refine Zs Tryd.func99 rfl u8 rfl ?_
 refine Ze (Za ?_)
 refine Lo u8 (Zh (VVal.slice none 0 0 true 0) (.inr rfl) rfl) ?_
 refine Zf (Zc (Ze (Ze (Za ?_))))
 refine Lo u8 (Zb (.inl rfl) rfl) ?_
 refine Lo u8 (v_eqNilC rfl rfl rfl rfl rfl (fun e => hne (List.eq_nil_of_length_eq_zero e))) ?_
 refine Zf (Zc ?_)
 refine Z4 rfl rfl ?_
 refine Zl (Zc (Ze (Za ?_)))
 refine Lo u8 (Zz rfl rfl (by decide) rfl) ?_
 refine Lo u8 (Zb (.inl rfl) rfl) ?_
 refine L_opX rfl rfl (v_appE rfl rfl rfl rfl rfl rfl rfl rfl (by rw [List.length_map]; exact (Nat.mul_one _).symm) (mapW_one _) (by decide) (by show l.length * 8 ≤ _ ∧ l.length ≤ _; omega)) ?_
 rintro _ _ ⟨Z, i, rfl, rfl, hi⟩
 refine Le u8 ?_
 refine Lo u8 (Zb (.inr rfl) rfl) ?_
 refine Zf (Zc (Zj ?_))
 refine E_gh (.inr rfl) (Zg rfl rfl) (Gh.pack (BaseOk.refl _) hi (mapW_under _ _)) ?_
 exact ⟨rfl, rfl⟩
theorem CloW_0 {x : SW} (H : Zd) : F (psys x) 99 [fzW []] H fun v G => v = .fsl [] 0 1 false ∧ G = H := F_split0 (CloW_nil H) (CloW_emp H)
theorem CloW_L {x : SW} (H L : Zd) (l : List (BitVec 64)) (hne : l ≠ []) (hl : l.length ≤ 1000000) : F (psys x) 99 [fzW l] (H ++ L) fun v G => v = .slice (some (H.length + L.length, 0)) l.length l.length (decide (l.length = 0)) 1 ∧ G = H ++ (L ++ [.cells (l.map iW) true]) := by
  have := CloW_c (x := x) (H ++ L) l hne hl
  rw [List.length_append, List.append_assoc] at this
  exact this
abbrev huC (u : Int) (ws rs : VVal) (y : Nat) : List VVal := [iI u, ws, rs, .ptr (some (y, 0))]
abbrev huP (u : Int) (ws rs : VVal) (y : Nat) : VVal := .fptr (huC u ws rs y) 0
theorem hfull_0 {x : SW} {u : Int} {ws rs : VVal} (H : Zd) (y : Nat) (g : Gz) (hs : H[y]? = some (gaB g)) (t : BitVec 64) : F (psys x) 87 [huP u ws rs y, fzW [], iW t] H fun v G => v = .bool (Yh [] t) ∧ G = H := by
 refine Zs Tryd.func87 rfl u51 rfl ?_
 refine Ze (Za ?_)
 refine Lo u51 (Zh (VVal.bool false) (.inr rfl) rfl) ?_
 refine Zf (Zc (Ze ?_))
 refine ZV [0, 2, 3, 4, 5, 1, 6, 7, 8] #[0, 1, 0, 4, 12, 28, 63, 127, 255] XH2 XH2 XH2 ?_
 refine Oo u51 .calm rfl (Zb (.inl rfl) rfl) ?_
 refine Oo u51 .calm rfl (Zb (.inl rfl) rfl) ?_
 refine Oo u51 .calm rfl (rfl) ?_
 refine Oo u51 .calm rfl (rfl) ?_
 refine Ye (env' := u51) (x := .look _ _) rfl rfl rfl (W12 rfl rfl rfl rfl) rfl rfl rfl ?_
 refine ZX (env' := u51) rfl rfl rfl rfl rfl (by exact CloW_0 _) XH7 rfl rfl ?_
 refine Oo u51 .calm rfl (rfl) ?_
 refine Oo u51 .grow rfl (Zw rfl rfl rfl) ?_
 refine Oo u51 .calm rfl (Zb (.inr rfl) rfl) ?_
 refine ZS [_] (by rfl) (And.intro (And.intro (W12 rfl rfl rfl rfl) (W12 rfl rfl rfl rfl)) trivial) ?_
 refine Zc (Ze (Ze (Za ?_)))
 refine Lo u51 (Zb (.inl rfl) rfl) ?_
 refine Lo u51 (rfl) ?_
 refine Lo u51 (rfl) ?_
 refine Lo u51 (W12 rfl rfl rfl rfl) ?_
 refine Lo u51 (rfl) ?_
 refine Lo u51 (Zh (VVal.int .i64 0) (.inl rfl) rfl) ?_
 refine Zf (Zc (Zo ?_))
 refine ZJ (mk 51 2251799788519291) (env' := u51) rfl ?_
 refine ZN (fun (k : Nat) => 0) (fun (k : Nat) => [(24, iI (k : Nat))]) (fun (k : Nat) G => (k = 0) ∧ G = H ++ [hmB y [] (szO [] 0).1]) 0 rfl ?_ ?_
 ·refine ⟨?_, rfl⟩
  trivial
 rintro k _ ⟨_, rfl⟩
 refine ZZ (env' := u51) rfl ?_
 refine Ze (Za ?_)
 refine Lo u51 (rfl) ?_
 refine Zf (Zc (Ze ?_))
 refine Zm _ rfl (fun hc1 => ?_) (fun hc1 => ?_)
 ·try simp only [qB] at hc1
  exfalso; try simp only [List.length_nil] at *
  omega
 ·try simp only [qB] at hc1
  refine ZR (ZP (ZI (ZQ (Zc (Ze (Ze (Za ?_)))))))
  refine Lo u51 (Zb (.inl rfl) rfl) ?_
  refine Lo u51 (rfl) ?_
  refine Lo u51 (rfl) ?_
  refine Lo u51 (W12 rfl rfl rfl rfl) ?_
  refine Lo u51 (rfl) ?_
  refine Lo u51 (Zh (VVal.int .i64 0) (.inl rfl) rfl) ?_
  refine Zf (Zc (Zo ?_))
  refine ZJ (mk 51 2238605674151807) (env' := u51) rfl ?_
  refine ZN (fun (k : Nat) => 0) (fun (k : Nat) => [(43, iI (k : Nat))]) (fun (k : Nat) G => (k = 0) ∧ G = H ++ [hmB y [] (szO [] 0).1]) 0 rfl ?_ ?_
  ·refine ⟨?_, rfl⟩
   trivial
  rintro k _ ⟨_, rfl⟩
  refine ZZ (env' := u51) rfl ?_
  refine Ze (Za ?_)
  refine Lo u51 (rfl) ?_
  refine Zf (Zc (Ze ?_))
  refine Zm _ rfl (fun hc2 => ?_) (fun hc2 => ?_)
  ·try simp only [qB] at hc2
   exfalso; try simp only [List.length_nil] at *
   omega
  ·try simp only [qB] at hc2
   refine ZR (ZP (ZI (ZQ (Zc (Ze (Za ?_))))))
   refine Lo u51 (Zh (VVal.bool true) (.inr rfl) rfl) ?_
   refine Zf (Zc (Zj ?_))
   refine W10 (.inr rfl) (Zg rfl rfl) ?_
   exact ⟨rfl, rfl⟩
theorem hfull_c {x : SW} {u : Int} {ws rs : VVal} (H : Zd) (y : Nat) (g : Gz) (hs : H[y]? = some (gaB g)) (l : List (BitVec 64)) (t : BitVec 64) (hne : l ≠ []) (hl : l.length ≤ 1000000) : F (psys x) 87 [huP u ws rs y, fzW l, iW t] H fun v G => v = .bool (Yh l t) ∧ G = H.set y (gaB (g + fuG l t)) := by
 have hy := ZO hs
 refine Zs Tryd.func87 rfl u51 rfl ?_
 refine Ze (Za ?_)
 refine Lo u51 (Zh (VVal.bool false) (.inr rfl) rfl) ?_
 refine Zf (Zc (Ze ?_))
 refine ZV [0, 2, 3, 4, 5, 1, 6, 7, 8] #[0, 1, 0, 4, 12, 28, 63, 127, 255] XH2 XH2 XH2 ?_
 refine Oo u51 .calm rfl (Zb (.inl rfl) rfl) ?_
 refine Oo u51 .calm rfl (Zb (.inl rfl) rfl) ?_
 refine Oo u51 .calm rfl (rfl) ?_
 refine Oo u51 .calm rfl (rfl) ?_
 refine Ye (env' := u51) (x := .look _ _) rfl rfl rfl (W39 rfl rfl rfl rfl) rfl rfl rfl ?_
 refine ZX (env' := u51) rfl rfl rfl rfl rfl (by exact CloW_L _ _ _ hne hl) XH7 rfl rfl ?_
 refine Oo u51 .calm rfl (rfl) ?_
 refine Oo u51 .grow rfl (Zw rfl rfl rfl) ?_
 refine Oo u51 .calm rfl (Zb (.inr rfl) rfl) ?_
 refine ZS [_] (by rfl) (And.intro (And.intro (W39 rfl rfl rfl rfl) (W39 rfl rfl rfl rfl)) trivial) ?_
 refine Zc (Ze (Ze (Za ?_)))
 refine Lo u51 (Zb (.inl rfl) rfl) ?_
 refine Lo u51 (rfl) ?_
 refine Lo u51 (rfl) ?_
 refine Lo u51 (W39 rfl rfl rfl rfl) ?_
 refine Lo u51 (rfl) ?_
 refine Lo u51 (Zh (VVal.int .i64 0) (.inl rfl) rfl) ?_
 refine Zf (Zc (Zo ?_))
 refine ZJ (mk 51 2251799788519291) (env' := u51) rfl ?_
 refine ZN (fun (k : Nat) => l.length - k) (fun (k : Nat) => [(24, iI (k : Nat))]) (fun (k : Nat) G => (k ≤ l.length) ∧ G = H ++ [.cells ((mkT l t k).map iW) true, .cells (.slice (some (H.length + 0, 0)) l.length l.length (decide (l.length = 0)) 1 :: ((List.replicate 64 0).map iI ++ [.ptr (some (y, 0))])) true]) 0 rfl ?_ ?_
 ·refine ⟨?_, (by rw [mkT_0]; rfl)⟩
  exact Nat.zero_le _
 rintro k _ ⟨hk, rfl⟩
 refine ZZ (env' := u51) rfl ?_
 refine Ze (Za ?_)
 refine Lo u51 (rfl) ?_
 refine Zf (Zc (Ze ?_))
 refine Zm _ rfl (fun hc1 => ?_) (fun hc1 => ?_)
 ·try simp only [qB] at hc1
  refine Zl (Zc (Ze (Zo (Ze (Za ?_)))))
  refine Lo u51 (Zb (.inl rfl) rfl) ?_
  refine Lo u51 (Zb (.inr rfl) rfl) ?_
  refine Zf (Zc (Za ?_))
  refine Lo u51 (Zb (.inl rfl) rfl) ?_
  refine Lo u51 (rfl) ?_
  refine Lo u51 (rfl) ?_
  refine Lo u51 (W39 rfl rfl rfl rfl) ?_
  refine Lo u51 (Zb (.inl rfl) rfl) ?_
  refine Lo u51 (W18 rfl rfl rfl rfl rfl rfl rfl) ?_
  refine Lo u51 (W39 rfl rfl rfl rfl) ?_
  refine Lo u51 (Zb (.inl rfl) rfl) ?_
  refine Lo u51 (v_andNotW rfl rfl rfl) ?_
  refine Lo u51 (W18 rfl rfl rfl rfl rfl rfl rfl) ?_
  refine Lo u51 (W3b rfl rfl rfl rfl rfl rfl rfl) ?_
  refine Zf (Zy (Zc (Za ?_)))
  refine Lo u51 (W14 rfl rfl rfl) ?_
  refine Lo u51 (Zb (.inl rfl) rfl) ?_
  refine Zf ?_
  have hE : (mkT l t k).set (k : Int).toNat ((mkT l t k).getD (k : Int).toNat 0 &&& ~~~t) = mkT l t (k + 1) := by rw [Int.toNat_natCast, mkT_get (by omega), mkT_set (by omega)]
  refine ZD (mk 51 2251799788519291) (env' := u51) rfl ⟨k + 1, ?_, rfl, ?_⟩
  ·first | omega | (simp only []; omega)
  ·exact ⟨by omega, by rw [← hE]⟩
 ·try simp only [qB] at hc1
  refine ZR (ZP (ZI (ZQ (Zc (Ze (Ze ?_))))))
  obtain rfl : k = l.length := by omega
  rw [mkT_all]
  refine Yy (Gh.cellL (l := (msk l t).map iW) 1 0 0 rfl rfl (by decide) rfl (by rw [show l.length * 1 = (msk l t).length * 1 by rw [Yb]]; exact wApp_c) (Nat.le_refl _)) ?_
  refine Za ?_
  refine Lo u51 (Zb (.inl rfl) rfl) ?_
  refine Lo u51 (rfl) ?_
  refine Lo u51 (rfl) ?_
  refine Lo u51 (W39 rfl rfl rfl rfl) ?_
  refine Lo u51 (rfl) ?_
  refine Lo u51 (Zh (VVal.int .i64 0) (.inl rfl) rfl) ?_
  refine Zf (Zc (Zo ?_))
  refine ZJ (mk 51 2238605674151807) (env' := u51) rfl ?_
  refine ZN (fun (k : Nat) => l.length - k) (fun (k : Nat) => [(43, iI (k : Nat))]) (fun (k : Nat) G => (k ≤ l.length ∧ (szO (msk l t) k).2 = k) ∧ G = H.set y (gaB (g + ⟨0, 0, edN (msk l t) k⟩)) ++ [.dead, hmB y (msk l t) (szO (msk l t) k).1]) 0 rfl ?_ ?_
  ·refine ⟨?_, (by rw [edN, show g + ⟨0, 0, 0⟩ = g from Gz.add_zero g, ← set_keep hs]; show H ++ [VBlk.dead, VBlk.cells (VVal.fsl ((msk l t).map iW) l.length 1 false :: _) true] = H ++ [VBlk.dead, VBlk.cells (VVal.fsl ((msk l t).map iW) (msk l t).length 1 false :: _) true]; rw [Yb]; rfl)⟩
   exact ⟨Nat.zero_le _, rfl⟩
  rintro k _ ⟨⟨hk, hz⟩, rfl⟩
  refine ZZ (env' := u51) rfl ?_
  refine Ze (Za ?_)
  refine Lo u51 (rfl) ?_
  refine Zf (Zc (Ze ?_))
  refine Zm _ rfl (fun hc2 => ?_) (fun hc2 => ?_)
  ·try simp only [qB] at hc2
   refine Zl (Zc (Ze (Zo (Ze (Za ?_)))))
   refine Lo u51 (Zb (.inl rfl) rfl) ?_
   refine Lo u51 (Zb (.inr rfl) rfl) ?_
   refine Zf (Zc (Ze (Za ?_)))
   refine Lo u51 (ZH rfl rfl) ?_
   refine Lo u51 (Ym (VVal.int .u64 0) rfl rfl rfl rfl rfl rfl rfl XH0 XH4 XH5) ?_
   refine Zf (Zc (Ze (Za ?_)))
   refine Lo u51 (Zb (.inl rfl) rfl) ?_
   refine Lo u51 (Zb (.inl rfl) rfl) ?_
   refine Zt rfl rfl rfl (by exact hgrow_at (p := H.length + 1) (q := (H.set y (gaB (g + ⟨0, 0, edN (msk l t) k⟩))).length + 2) rfl (by rw [List.length_set]) (g + ⟨0, 0, edN (msk l t) k⟩) hy (msk l t) (szO (msk l t) k).1 k (by omega) (by rw [Yb]; omega) (szO_ok (by rw [Yb]; omega)) (by rw [Yb]; omega)) ?_
   rintro v _ ⟨rfl, rfl⟩; rw [gw_ed hz]
   refine Le u51 ?_
   refine Lo u51 (rfl) ?_
   refine Zf (Zc ?_)
   refine Zm _ rfl (fun hc3 => ?_) (fun hc3 => ?_)
   ·try simp only [qB] at hc3
    refine Ze (Za ?_)
    refine Lo u51 (Zh (VVal.bool false) (.inr rfl) rfl) ?_
    refine Zf (Zc (Zj (ZB (Zn (Yc (ZB (Zn ?_)))))))
    refine W3d (.inr rfl) (Zg rfl rfl) ?_
    exact W3e
   ·try simp only [qB] at hc3
    refine Zl (Zy (Zc (Za ?_)))
    refine Lo u51 (W14 rfl rfl rfl) ?_
    refine Lo u51 (Zb (.inl rfl) rfl) ?_
    refine Zf ?_
    refine K_loopG (mk 51 2238605674151807) (env' := u51) rfl (Gh.dropTo (L := [.dead, hmB y (msk l t) (szO (msk l t) (k + 1)).1]) (X := [hsB _]) 2 rfl (BaseOk.set (BaseOk.refl _) _ rfl) (by first | (simp [VVal.underL, VVal.under]; done) | (simp [VVal.underL, VVal.under]; omega)) (by show (true && ((hmB y _ _).under _ && true)) = true; rw [hmB_under (by first | omega | (rw [List.length_set]; omega))]; rfl)) ⟨k + 1, ?_, rfl, ?_⟩
    ·first | omega | (simp only []; omega)
    ·exact ⟨⟨by omega, szO_yes hz (by assumption)⟩, rfl⟩
  ·try simp only [qB] at hc2
   refine ZR (ZP (ZI (ZQ (Zc (Ze (Za ?_))))))
   refine Lo u51 (Zh (VVal.bool true) (.inr rfl) rfl) ?_
   refine Zf (Zc (Zj ?_))
   refine W3d (.inr rfl) (Zg rfl rfl) ?_
   exact W3e
abbrev u44 {a0 a1 a2 a3 a4 a5 a6 a7 a8 a9 a10 a11 a12 a13 a14 a15 a16 a17 a18 a19 a20 a21 a22 a23 a24 a25 a26 a27 a28 a29 a30 a31 a32 a33 a34 a35 a36 a37 a38 a39 a40 a41 a42 a43 : VVal} : VEnv := a0 :: a1 :: a2 :: a3 :: a4 :: a5 :: a6 :: a7 :: a8 :: a9 :: a10 :: a11 :: a12 :: a13 :: a14 :: a15 :: a16 :: a17 :: a18 :: a19 :: a20 :: a21 :: a22 :: a23 :: a24 :: a25 :: a26 :: a27 :: a28 :: a29 :: a30 :: a31 :: a32 :: a33 :: a34 :: a35 :: a36 :: a37 :: a38 :: a39 :: a40 :: a41 :: a42 :: a43 :: []
theorem W3g {T : TypeId → Option VTy} {H : Zd} {op : Op} {ρ : Operand → VVal} {t : TypeId} {a : Operand} {y : VTy} {p v : VVal} (ho : op = .load t a) (ha : ρ a = p) (hy : T t = some y) (hd : Zk y.desc = false) (h : LdOk H p v := by first | exact .inl ⟨_, _, rfl, by first | rfl | assumption | exact Yw (α := Nat) 0 (by omega) | exact Yw (α := BitVec 64) 0 (by omega)⟩ | exact .inr ⟨_, _, _, _, rfl, XH23, by first | rfl | assumption | exact Yw (α := Nat) 0 (by omega) | exact Yw (α := BitVec 64) 0 (by omega)⟩) : vop T ρ H op = some (v, H) := v_ld ho ha hy hd h
theorem W3i {T : TypeId → Option VTy} {H : Zd} {op : Op} {ρ : Operand → VVal} {t : TypeId} {a : Operand} {y : VTy} {p v : VVal} (ho : op = .load t a) (ha : ρ a = p) (hy : T t = some y) (hd : Zk y.desc = false) (h : LdOk H p v := by first | exact .inl ⟨_, _, rfl, by exact fget0N (f := iW) (l := Z8 ws a k) (k := a.getD k 0) 0 hlt⟩ | exact .inr ⟨_, _, _, _, rfl, by exact ZG rfl hbX, by exact fget0N (f := iW) (l := Z8 ws a k) (k := a.getD k 0) 0 hlt⟩) : vop T ρ H op = some (v, H) := v_ld ho ha hy hd h
theorem W3j {T : TypeId → Option VTy} {H : Zd} {op : Op} {ρ : VEnv} {H' : Zd} {t : TypeId} {a : Operand} {i : Nat} {v : VVal} {y : VTy} {b off : Nat} {cs new : List VVal} (ho : op = .store t a (.tmp i)) (hv : ρ[i]? = some v) (ha : ρ.eval a = .ptr (some (b, off))) (hy : T t = some y) (hx : v.cells = some new) (hn : new.length = y.size) (h1 : new.all VVal.one = true) (hb : H[b]? = some (.cells cs true) := by exact XH23) (hl : off + new.length ≤ cs.length := by show 0 + ((a.getD k 0 : Nat) : Int).toNat * 1 + 1 ≤ (List.map iW (Z8 ws a k)).length; rw [List.length_map]; omega) (hH : H.set b (.cells (Zv cs off new) true) = H' := by exact (ZW rfl).trans (by show H ++ X.set b (VBlk.cells (Zv ((Z8 ws a k).map iW) (0 + ((a.getD k 0 : Nat) : Int).toNat * 1) [_]) true) = _; rw [Int.toNat_natCast, spl_w hlt])) : vop T ρ.eval H op = some (.skip, H') := Z6 ho hv ha hy hx hn h1 hb hl hH
theorem hfull_spec {x : SW} {u : Int} {ws rs : VVal} (H : Zd) (y : Nat) (g : Gz) (hs : H[y]? = some (gaB g)) (l : List (BitVec 64)) (t : BitVec 64) (hl : l.length ≤ 1000000) : F (psys x) 87 [huP u ws rs y, fzW l, iW t] H fun v G => v = .bool (Yh l t) ∧ G = H.set y (gaB (g + fuG l t)) := by
  by_cases h : l = []
  · subst h
    refine (hfull_0 H y g hs t).mono ?_
    rintro v G ⟨rfl, rfl⟩
    exact ⟨rfl, by rw [show fuG [] t = 0 from rfl, Gz.add_zero, ← set_keep hs]⟩
  · exact hfull_c H y g hs l t h hl
theorem hBlocks_spec {x : SW} {u : Int} {rs : VVal} {y : Nat} (H : Zd) (ws : List (BitVec 64)) (a : List Nat) (ha : Pat a) (hw : a.length ≤ ws.length) (hn : ws.length ≤ 1000000) : F (psys x) 85 [huP u (fzW ws) rs y, fzN a] H fun v G => v = fzW (Z8 ws a a.length) ∧ G = H := by
 refine Zs Tryd.func85 rfl u44 rfl ?_
 refine Ze (Za ?_)
 refine Lo u44 (Zh (VVal.slice none 0 0 true 0) (.inr rfl) rfl) ?_
 refine Zf (Zc (Ze (Za ?_)))
 refine Lo u44 (Zh (VVal.slice none 0 0 true 0) (.inr rfl) rfl) ?_
 refine Zf (Zc (Ze (Ze (Za ?_))))
 refine Lo u44 (Zb (.inl rfl) rfl) ?_
 refine Lo u44 (rfl) ?_
 refine Lo u44 (Zh (VVal.int .i64 0) (.inl rfl) rfl) ?_
 refine Zf (Zc (Zo ?_))
 refine ZJ (mk 44 17592186042590) (env' := u44) rfl ?_
 refine ZN (fun (⟨k, lv⟩ : Nat × VVal) => a.length - k) (fun (⟨k, lv⟩ : Nat × VVal) => [(5, lv), (10, iI (k : Nat))]) (fun (⟨k, lv⟩ : Nat × VVal) G => (k ≤ a.length) ∧ ∃ X, G = H ++ X ∧ LV H.length 1 X lv ((Z8 ws a k).map iW) (Z8 ws a k).length) ⟨0, _⟩ rfl ?_ ?_
 ·refine ⟨?_, ⟨_, rfl, LV.nil _ _ _⟩⟩
  exact Nat.zero_le _
 rintro ⟨k, lv⟩ _ ⟨hk, ⟨X, rfl, hl⟩⟩
 refine ZZ (env' := u44) rfl ?_
 refine Ze (Za ?_)
 refine Lo u44 (rfl) ?_
 refine Zf (Zc (Ze ?_))
 refine Zm _ rfl (fun hc1 => ?_) (fun hc1 => ?_)
 ·try simp only [qB, qN] at hc1
  refine Zl (Zc (Ze (Zo (Ze (Za ?_)))))
  refine Lo u44 (Zb (.inl rfl) rfl) ?_
  refine Lo u44 (W18 rfl rfl rfl rfl rfl rfl rfl) ?_
  refine Lo u44 (W3g rfl rfl rfl rfl) ?_
  refine Lo u44 (Zb (.inr rfl) rfl) ?_
  refine Lo u44 (Zb (.inr rfl) rfl) ?_
  refine Zf (Zc (Ze (Za ?_)))
  refine Lo u44 (Zb (.inl rfl) rfl) ?_
  refine Lo u44 (Zb (.inl rfl) rfl) ?_
  refine Lo u44 (v_len rfl rfl rfl rfl hl) ?_
  refine Lo u44 (rfl) ?_
  refine Zf (Zc ?_)
  refine Zm _ rfl (fun hc2 => ?_) (fun hc2 => ?_)
  ·try simp only [qB, qN] at hc2
   refine Za ?_
   refine Lo u44 (Zb (.inl rfl) rfl) ?_
   refine Lo u44 (Zb (.inl rfl) rfl) ?_
   refine Lo u44 (rfl) ?_
   refine Lo u44 (rfl) ?_
   refine Lo u44 (W3g rfl rfl rfl rfl) ?_
   refine Lo u44 (Zb (.inl rfl) rfl) ?_
   refine Lo u44 (W18 rfl rfl rfl rfl rfl rfl rfl) ?_
   refine Lo u44 (W3g rfl rfl rfl rfl) ?_
   refine Lo u44 (Zz rfl rfl (by decide) rfl) ?_
   refine L_opX rfl rfl (v_appX rfl rfl rfl rfl rfl rfl rfl hl rfl rfl (by decide) (by have := @blkN_len ws a k; have := @szP_le a k; show (_ + 1) * 8 ≤ _ ∧ _ + 1 ≤ _; omega) (by decide)) ?_
   rintro _ _ ⟨Y1, rfl, rfl, hY1, hY2, hY3⟩
   refine Le u44 ?_
   refine Lo u44 (Zb (.inr rfl) rfl) ?_
   refine Zf (Zy (Zc (Za ?_)))
   refine Lo u44 (W14 rfl rfl rfl) ?_
   refine Lo u44 (Zb (.inl rfl) rfl) ?_
   refine Zf ?_
   refine ZD (mk 44 17592186042590) (env' := u44) rfl ⟨⟨k + 1, _⟩, ?_, rfl, ?_⟩
   ·first | omega | (simp only []; omega)
   ·first | exact ⟨by omega, _, rfl, by rw [blkN_new (by assumption)]; exact LV.pushW hY3⟩ | exact ⟨by omega, _, rfl, by rw [blkN_old (by assumption), List.length_set]; exact LV.upW hl h0 (ZO hbX) (by rw [List.length_set])⟩
  ·try simp only [qB, qN] at hc2
   have hak := ha k (by omega)
   have hbl := @blkN_len ws a k
   have hlt : a.getD k 0 < (Z8 ws a k).length := by omega
   have h0 : 0 < (Z8 ws a k).length := by omega
   obtain ⟨b, rfl, hbX⟩ := LV.pos hl h0
   refine ZV [0, 1, 2, 3, 4, 5, 6, 7, 8, 9, 10, 11, 12, 13] #[0, 0, 3, 7, 0, 16, 48, 112, 0, 496, 1008, 2047, 4095, 8191] XH2 XH2 XH2 ?_
   refine Oo u44 .calm rfl (Zb (.inl rfl) rfl) ?_
   refine Oo u44 .calm rfl (Zb (.inl rfl) rfl) ?_
   refine Oo u44 .calm rfl (W18 rfl rfl rfl rfl rfl rfl rfl) ?_
   refine Oo u44 .look rfl (W3i rfl rfl rfl rfl) ?_
   refine Oo u44 .calm rfl (Zb (.inl rfl) rfl) ?_
   refine Oo u44 .calm rfl (rfl) ?_
   refine Oo u44 .calm rfl (rfl) ?_
   refine Oo u44 .look rfl (W3g rfl rfl rfl rfl) ?_
   refine Oo u44 .calm rfl (Zb (.inl rfl) rfl) ?_
   refine Oo u44 .calm rfl (W18 rfl rfl rfl rfl rfl rfl rfl) ?_
   refine Oo u44 .look rfl (W3g rfl rfl rfl rfl) ?_
   refine Oo u44 .calm rfl (v_andW rfl rfl rfl) ?_
   refine Oo u44 .calm rfl (W18 rfl rfl rfl rfl rfl rfl rfl) ?_
   refine Oo u44 .turn rfl (W3j rfl rfl rfl rfl rfl rfl rfl) ?_
   refine ZS [] XH2 (trivial) ?_
   refine Zy (Zc (Za ?_))
   refine Lo u44 (W14 rfl rfl rfl) ?_
   refine Lo u44 (Zb (.inl rfl) rfl) ?_
   refine Zf ?_
   refine ZD (mk 44 17592186042590) (env' := u44) rfl ⟨⟨k + 1, _⟩, ?_, rfl, ?_⟩
   ·first | omega | (simp only []; omega)
   ·first | exact ⟨by omega, _, rfl, by rw [blkN_new (by assumption)]; exact LV.pushW hY3⟩ | exact ⟨by omega, _, rfl, by rw [blkN_old (by assumption), List.length_set]; exact LV.upW hl h0 (ZO hbX) (by rw [List.length_set])⟩
 ·try simp only [qB, qN] at hc1
  refine ZR (ZP (ZI (ZQ (Zc (Ze (Za ?_))))))
  refine Lo u44 (Zb (.inl rfl) rfl) ?_
  refine Lo u44 (Zb (.inr rfl) rfl) ?_
  refine Zf (Zc (Zj ?_))
  refine E_gh (.inr rfl) (Zg rfl rfl) (Gh.ansLV (BaseOk.refl _) hl (mapW_under _ _)) ?_
  obtain rfl : k = a.length := by omega
  exact ⟨rfl, rfl⟩
abbrev u22 {a0 a1 a2 a3 a4 a5 a6 a7 a8 a9 a10 a11 a12 a13 a14 a15 a16 a17 a18 a19 a20 a21 : VVal} : VEnv := a0 :: a1 :: a2 :: a3 :: a4 :: a5 :: a6 :: a7 :: a8 :: a9 :: a10 :: a11 :: a12 :: a13 :: a14 :: a15 :: a16 :: a17 :: a18 :: a19 :: a20 :: a21 :: []
abbrev u73 {a0 a1 a2 a3 a4 a5 a6 a7 a8 a9 a10 a11 a12 a13 a14 a15 a16 a17 a18 a19 a20 a21 a22 a23 a24 a25 a26 a27 a28 a29 a30 a31 a32 a33 a34 a35 a36 a37 a38 a39 a40 a41 a42 a43 a44 a45 a46 a47 a48 a49 a50 a51 a52 a53 a54 a55 a56 a57 a58 a59 a60 a61 a62 a63 a64 a65 a66 a67 a68 a69 a70 a71 a72 : VVal} : VEnv := a0 :: a1 :: a2 :: a3 :: a4 :: a5 :: a6 :: a7 :: a8 :: a9 :: a10 :: a11 :: a12 :: a13 :: a14 :: a15 :: a16 :: a17 :: a18 :: a19 :: a20 :: a21 :: a22 :: a23 :: a24 :: a25 :: a26 :: a27 :: a28 :: a29 :: a30 :: a31 :: a32 :: a33 :: a34 :: a35 :: a36 :: a37 :: a38 :: a39 :: a40 :: a41 :: a42 :: a43 :: a44 :: a45 :: a46 :: a47 :: a48 :: a49 :: a50 :: a51 :: a52 :: a53 :: a54 :: a55 :: a56 :: a57 :: a58 :: a59 :: a60 :: a61 :: a62 :: a63 :: a64 :: a65 :: a66 :: a67 :: a68 :: a69 :: a70 :: a71 :: a72 :: []
theorem W3m {P : Prop} (h : P := by first | exact ⟨by unfold erl; rw [hck, decide_eq_true hg2]; rfl, rfl⟩ | exact ⟨by unfold erl; rw [hck, decide_eq_false (by omega)]; rfl, rfl⟩ | exact ⟨by unfold erl; rw [hck]; rfl, rfl⟩) : P := h
theorem W3n {T : TypeId → Option VTy} {H : Zd} {op : Op} {ρ : Operand → VVal} {t : TypeId} {a : Operand} {y : VTy} {p v : VVal} (ho : op = .load t a) (ha : ρ a = p) (hy : T t = some y) (hd : Zk y.desc = false) (h : LdOk H p v := by first | exact .inl ⟨_, _, rfl, XH28⟩ | exact .inr ⟨_, _, _, _, rfl, XH23, XH28⟩) : vop T ρ H op = some (v, H) := v_ld ho ha hy hd h
theorem W3o {T : TypeId → Option VTy} {H : Zd} {op : Op} {ρ : VEnv} {H' : Zd} {t : TypeId} {a : Operand} {i : Nat} {v : VVal} {y : VTy} {b off : Nat} {cs new : List VVal} (ho : op = .store t a (.tmp i)) (hv : ρ[i]? = some v) (ha : ρ.eval a = .ptr (some (b, off))) (hy : T t = some y) (hx : v.cells = some new) (hn : new.length = y.size) (h1 : new.all VVal.one = true) (hb : H[b]? = some (.cells cs true) := by exact XH23) (hl : off + new.length ≤ cs.length := by exact XH25) (hH : H.set b (.cells (Zv cs off new) true) = H' := by exact ga_n0 hs) : vop T ρ.eval H op = some (.skip, H') := Z6 ho hv ha hy hx hn h1 hb hl hH
theorem W3p {T : TypeId → Option VTy} {H : Zd} {op : Op} {ρ : Operand → VVal} {t : TypeId} {a : Operand} {y : VTy} {p v : VVal} (ho : op = .load t a) (ha : ρ a = p) (hy : T t = some y) (hd : Zk y.desc = false) (h : LdOk H p v := by first | exact .inl ⟨_, _, rfl, XH28⟩ | exact .inr ⟨_, _, _, _, rfl, by exact get_out (List.getElem?_set_self hy), XH28⟩) : vop T ρ H op = some (v, H) := v_ld ho ha hy hd h
theorem W3q {T : TypeId → Option VTy} {H : Zd} {op : Op} {ρ : VEnv} {H' : Zd} {t : TypeId} {a : Operand} {i : Nat} {v : VVal} {y : VTy} {b off : Nat} {cs new : List VVal} (ho : op = .store t a (.tmp i)) (hv : ρ[i]? = some v) (ha : ρ.eval a = .ptr (some (b, off))) (hy : T t = some y) (hx : v.cells = some new) (hn : new.length = y.size) (h1 : new.all VVal.one = true) (hb : H[b]? = some (.cells cs true) := by exact get_out (List.getElem?_set_self hy)) (hl : off + new.length ≤ cs.length := by exact XH25) (hH : H.set b (.cells (Zv cs off new) true) = H' := by exact ga_p hy) : vop T ρ.eval H op = some (.skip, H') := Z6 ho hv ha hy hx hn h1 hb hl hH
theorem W3u {P : Prop} (h : P := by first | exact ⟨by rw [(kpK_0 (u := u) (by assumption)).1], by rw [(kpK_0 (by assumption)).2]; rfl⟩ | exact ⟨by rw [(kpK_1 (u := u) (by assumption) (all_bad (k := k) (d := r0) (by omega) (by first | assumption | exact Bool.eq_false_iff.2 ‹_›))).1], by rw [(kpK_1 (by assumption) (all_bad (k := k) (d := r0) (by omega) (by first | assumption | exact Bool.eq_false_iff.2 ‹_›))).2]; rfl⟩ | exact ⟨by rw [(kpK_2 (u := u) (by assumption) (all_full (by omega) hall)).1], by rw [(kpK_2 (by assumption) (all_full (by omega) hall)).2, ← Gz.assoc]; rfl⟩) : P := h
theorem W3v {T : TypeId → Option VTy} {H : Zd} {op : Op} {ρ : Operand → VVal} {t : TypeId} {a : Operand} {y : VTy} {p v : VVal} (ho : op = .load t a) (ha : ρ a = p) (hy : T t = some y) (hd : Zk y.desc = false) (h : LdOk H p v := by first | exact .inl ⟨_, _, rfl, by exact Yw (f := fzR) (l := rss) (k := a.length - 1) [] (by omega)⟩ | exact .inr ⟨_, _, _, _, rfl, XH23, by exact Yw (f := fzR) (l := rss) (k := a.length - 1) [] (by omega)⟩) : vop T ρ H op = some (v, H) := v_ld ho ha hy hd h
theorem W3w {T : TypeId → Option VTy} {H : Zd} {op : Op} {ρ : Operand → VVal} {t : TypeId} {a : Operand} {y : VTy} {p : VVal} {n : Nat} {vs : List VVal} (ho : op = .load t a) (ha : ρ a = p) (hy : T t = some y) (hd : Zk y.desc = true) (hn : y.size = n) (h : LdOkA H p n vs := by first | exact .inl ⟨_, _, rfl, XH28⟩ | exact .inr ⟨_, _, _, _, rfl, XH23, XH28⟩) : vop T ρ H op = some (.agg vs, H) := v_ldA ho ha hy hd hn h
abbrev fzRR (rss : List (List Rul)) : VVal := .fsl (rss.map fzR) rss.length 1 false
theorem fzR_und (n : Nat) (l : List Rul) : (fzR l).under n = true := VVal.underL_all (n := n) (vs := l.flatMap rlB) fun v hv => by
  obtain ⟨r, _, h⟩ := List.mem_flatMap.1 hv
  simp only [List.mem_cons, List.not_mem_nil, or_false] at h
  rcases h with rfl | rfl | rfl
  · rfl
  · rfl
  · exact VVal.underL_map fun _ => rfl
theorem mapN_under (n : Nat) (l : List Nat) : VVal.underL n (l.map fun (m : Nat) => iI (m : Nat)) = true := VVal.underL_map fun _ => rfl
theorem rss_under (n : Nat) (rss : List (List Rul)) : VVal.underL n (rss.map fzR) = true := VVal.underL_map fun l => fzR_und n l
theorem huUnder {H : Zd} {y : Nat} (hy : y < H.length) (u : Int) (ws : List (BitVec 64)) (rss : List (List Rul)) : (huP u (fzW ws) (fzRR rss) y).under H.length = true := by
  show VVal.underL _ [iI u, fzW ws, fzRR rss, .ptr (some (y, 0))] = true
  simp only [VVal.underL, VVal.under, fzW_under, mapW_under, rss_under, hy, decide_true, Bool.and_true]
theorem rEarly_spec {x : SW} (H : Zd) (r : Rul) (n : Int) (l : List Int) (hl : r.steps.length ≤ 1000000) : F (psys x) 86 [.agg (rlB r), iI n, fzI l] H fun v G => v = .bool (erl r n l) ∧ G = H := by
 refine Zs Tryd.func86 rfl u22 rfl ?_
 refine Ze (Za ?_)
 refine Lo u22 (Zw rfl rfl rfl) ?_
 refine Lo u22 (Zh (VVal.bool false) (.inr rfl) rfl) ?_
 refine Zf (Zc (Ze (Za ?_)))
 refine Lo u22 (Zb (.inl rfl) rfl) ?_
 refine Lo u22 (W11 rfl rfl rfl rfl rfl) ?_
 refine Zt rfl rfl rfl (by exact rCheck_spec _ _ _ (by omega)) ?_
 rintro _ _ ⟨rfl, rfl⟩
 refine Le u22 ?_
 refine Lo u22 (rfl) ?_
 refine Lo u22 (Zb (.inl rfl) rfl) ?_
 refine Zx 11 (env1 := u22) (env2 := u22) rfl rfl rfl (fun hg1 => ?_) (fun hg1 => ?_)
 ·try simp only [qB] at hg1
  have hck : rck n r = true := rcE_eq.1 hg1
  refine Lo u22 (Zb (.inl rfl) rfl) ?_
  refine Lo u22 (rfl) ?_
  refine Lo u22 (Zb (.inl rfl) rfl) ?_
  refine Lo u22 (rfl) ?_
  refine Lo u22 (ZE rfl rfl rfl) ?_
  refine Lo u22 (Zb (.inl rfl) rfl) ?_
  refine Zx 17 (env1 := u22) (env2 := u22) rfl rfl rfl (fun hg2 => ?_) (fun hg2 => ?_)
  ·try simp only [qB] at hg2
   refine Lo u22 (W11 rfl rfl rfl rfl rfl) ?_
   refine Lo u22 (Zb (.inl rfl) rfl) ?_
   refine Zt rfl rfl rfl (by exact keeps_spec _ _ _ (rck_kind hck) (rck_pos hck) (Nat.le_trans (rck_len hck) (by decide))) ?_
   rintro _ _ ⟨rfl, rfl⟩
   refine Le u22 ?_
   refine Lo u22 (ZE rfl rfl rfl) ?_
   refine Lo u22 (Zb (.inr rfl) rfl) ?_
   refine Zf (Zc (Zj ?_))
   refine W10 (.inr rfl) (Zg rfl rfl) ?_
   exact W3m
  ·try simp only [qB] at hg2
   refine Lf u22 ?_
   refine Lf u22 ?_
   refine Lf u22 ?_
   refine Lo u22 (Zu (VVal.bool false) rfl rfl rfl) ?_
   refine Lo u22 (Zb (.inr rfl) rfl) ?_
   refine Zf (Zc (Zj ?_))
   refine W10 (.inr rfl) (Zg rfl rfl) ?_
   exact W3m
 ·try simp only [qB] at hg1
  have hck : rck n r = false := bool_f fun e => hg1 (rcE_eq.2 e)
  refine Lf u22 ?_
  refine Lf u22 ?_
  refine Lf u22 ?_
  refine Lf u22 ?_
  refine Lo u22 (Zu (VVal.bool false) rfl rfl rfl) ?_
  refine Lo u22 (Zb (.inl rfl) rfl) ?_
  refine Lf u22 ?_
  refine Lf u22 ?_
  refine Lf u22 ?_
  refine Lo u22 (Zu (VVal.bool false) rfl rfl rfl) ?_
  refine Lo u22 (Zb (.inr rfl) rfl) ?_
  refine Zf (Zc (Zj ?_))
  refine W10 (.inr rfl) (Zg rfl rfl) ?_
  exact W3m
theorem rEarlyN {x : SW} (H : Zd) (r : Rul) (n : Int) (a : List Nat) (hl : r.steps.length ≤ 1000000) : F (psys x) 86 [.agg (rlB r), iI n, fzN a] H fun v G => v = .bool (erl r n (zI a)) ∧ G = H := by
  rw [fzN_is]; exact rEarly_spec H r n (zI a) hl
theorem hKeep_spec {x : SW} {u : Nat} (H : Zd) (y : Nat) (g : Gz) (hs : H[y]? = some (gaB g)) (ws : List (BitVec 64)) (rss : List (List Rul)) (a : List Nat) (ha : Pat a) (h0 : 0 < a.length) (hw : a.length ≤ ws.length) (hn : ws.length ≤ 1000000) (hr : rss.length = ws.length) (hR : ∀ i, (rss.getD i []).length ≤ 1000000 ∧ ∀ r, r ∈ rss.getD i [] → r.steps.length ≤ 1000000) : F (psys x) 53 [huP (u : Nat) (fzW ws) (fzRR rss) y, fzN a] H fun v G => v = .bool (kpB ws rss a) ∧ G = H.set y (gaB (g + kpG u ws rss a)) := by
 have hy := ZO hs
 have hbl := @blkN_len ws a a.length
 have hla := ha (a.length - 1) (by omega)
 have hsl : a.getD (a.length - 1) 0 < szP a a.length := by
    obtain ⟨m, hm⟩ : ∃ m, a.length = m + 1 := ⟨a.length - 1, by omega⟩
    rw [hm] at hla ⊢; rw [szP]; rw [Nat.add_sub_cancel] at hla ⊢; split <;> omega
 have hR1 := hR (a.length - 1)
 refine Zs Tryd.func53 rfl u73 rfl ?_
 refine Ze (Za ?_)
 refine Lo u73 (Zh (VVal.bool false) (.inr rfl) rfl) ?_
 refine Zf (Zc (Ze (Za ?_)))
 refine Lo u73 (Zb (.inl rfl) rfl) ?_
 refine Lo u73 (rfl) ?_
 refine Lo u73 (rfl) ?_
 refine Lo u73 (W3n rfl rfl rfl rfl) ?_
 refine Lo u73 (rfl) ?_
 refine Lo u73 (rfl) ?_
 refine Lo u73 (W3n rfl rfl rfl rfl) ?_
 refine Lo u73 (v_addW (b := 1#64) rfl rfl rfl) ?_
 refine Lo u73 (rfl) ?_
 refine Lo u73 (rfl) ?_
 refine Lo u73 (W3o rfl rfl rfl rfl rfl rfl rfl) ?_
 refine Zf (Zc (Ze ?_))
 refine ZV [0, 1, 2, 3, 4, 5, 6, 7, 8, 9, 10, 11, 12, 13, 14, 15] #[0, 1, 3, 7, 15, 31, 63, 0, 128, 384, 896, 1920, 4095, 8191, 16383, 32767] XH2 XH2 XH2 ?_
 refine Oo u73 .calm rfl (Zb (.inl rfl) rfl) ?_
 refine Oo u73 .calm rfl (rfl) ?_
 refine Oo u73 .calm rfl (rfl) ?_
 refine Oo u73 .look rfl (W3n rfl rfl rfl rfl) ?_
 refine Oo u73 .calm rfl (rfl) ?_
 refine Oo u73 .calm rfl (rfl) ?_
 refine Oo u73 .look rfl (W3p rfl rfl rfl rfl) ?_
 refine Oo u73 .calm rfl (Zb (.inl rfl) rfl) ?_
 refine Oo u73 .calm rfl (rfl) ?_
 refine Oo u73 .calm rfl (rfl) ?_
 refine Oo u73 .look rfl (W3n rfl rfl rfl rfl) ?_
 refine Oo u73 .calm rfl (v_cvW rfl rfl rfl rfl rfl) ?_
 refine Oo u73 .calm rfl (v_addW rfl rfl rfl) ?_
 refine Oo u73 .calm rfl (rfl) ?_
 refine Oo u73 .calm rfl (rfl) ?_
 refine Oo u73 .turn rfl (W3q rfl rfl rfl rfl rfl rfl rfl) ?_
 refine ZS [] XH2 (trivial) ?_
 refine Zc (Ze (Za ?_))
 refine Lo u73 (Zb (.inl rfl) rfl) ?_
 refine Lo u73 (Zb (.inl rfl) rfl) ?_
 refine Zt rfl rfl rfl (by exact hBlocks_spec _ _ _ ha hw hn) ?_
 rintro _ _ ⟨rfl, rfl⟩
 refine Le u73 ?_
 refine Lo u73 (Zb (.inl rfl) rfl) ?_
 refine Lo u73 (rfl) ?_
 refine Lo u73 (W22 rfl rfl rfl) ?_
 refine Lo u73 (Zb (.inr rfl) rfl) ?_
 refine Lo u73 (Zb (.inr rfl) rfl) ?_
 refine Zf (Zc (Ze (Ze ?_)))
 rw [show ((a.length : Nat) : Int) - 1 = ((a.length - 1 : Nat) : Int) by omega]
 refine Za ?_
 refine Lo u73 (Zb (.inl rfl) rfl) ?_
 refine Lo u73 (Zb (.inl rfl) rfl) ?_
 refine Lo u73 (Zb (.inl rfl) rfl) ?_
 refine Lo u73 (W18 rfl rfl rfl rfl rfl rfl rfl) ?_
 refine Lo u73 (W3n rfl rfl rfl rfl) ?_
 refine Lo u73 (W18 rfl rfl rfl rfl rfl rfl rfl) ?_
 refine Lo u73 (W3n rfl rfl rfl rfl) ?_
 refine Lo u73 (rfl) ?_
 refine Zf (Zc ?_)
 refine Zm _ rfl (fun hc1 => ?_) (fun hc1 => ?_)
 ·try simp only [qB, qN] at hc1
  refine Ze (Za ?_)
  refine Lo u73 (Zh (VVal.bool false) (.inr rfl) rfl) ?_
  refine Zf (Zc (Zj (Zn ?_)))
  refine W3d (.inr rfl) (Zg rfl rfl) ?_
  exact W3u
 ·try simp only [qB, qN] at hc1
  refine Zl (Zc (Ze (Ze (Za ?_))))
  refine Lo u73 (Zb (.inl rfl) rfl) ?_
  refine Lo u73 (rfl) ?_
  refine Lo u73 (rfl) ?_
  refine Lo u73 (W3n rfl rfl rfl rfl) ?_
  refine Lo u73 (Zb (.inl rfl) rfl) ?_
  refine Lo u73 (W18 rfl rfl rfl rfl rfl rfl rfl) ?_
  refine Lo u73 (W3v rfl rfl rfl rfl) ?_
  refine Lo u73 (rfl) ?_
  refine Lo u73 (Zh (VVal.int .i64 0) (.inl rfl) rfl) ?_
  refine Zf (Zc (Zo ?_))
  refine ZJ (mk 73 9444606864949724053468) (env' := u73) rfl ?_
  refine ZN (fun (k : Nat) => (rss.getD (a.length - 1) []).length - k) (fun (k : Nat) => [(56, iI (k : Nat))]) (fun (k : Nat) G => (k ≤ (rss.getD (a.length - 1) []).length ∧ ((rss.getD (a.length - 1) []).take k).all (fun r => erl r ws.length (zI a)) = true) ∧ G = H.set y (gaB (⟨g.n + 1, g.p + u, g.e⟩ : Gz)) ++ []) 0 rfl ?_ ?_
  ·refine ⟨?_, rfl⟩
   exact ⟨Nat.zero_le _, rfl⟩
  rintro k _ ⟨⟨hk, hall⟩, rfl⟩
  refine ZZ (env' := u73) rfl ?_
  refine Ze (Za ?_)
  refine Lo u73 (rfl) ?_
  refine Zf (Zc (Ze ?_))
  refine Zm _ rfl (fun hc2 => ?_) (fun hc2 => ?_)
  ·try simp only [qB, qN] at hc2
   refine Zl (Zc (Ze (Zo (Ze (Za ?_)))))
   refine Lo u73 (W18 rfl rfl rfl rfl rfl rfl rfl) ?_
   refine Lo u73 (W3w rfl rfl rfl rfl rfl) ?_
   refine Lo u73 (ZH rfl rfl) ?_
   refine Lo u73 (W13 rfl rfl rfl rfl rfl rfl rfl) ?_
   refine Zf (Zc (Ze ?_))
   refine ZV [0, 1, 2, 3, 4, 5, 6, 7, 8] #[0, 0, 2, 6, 14, 30, 0, 127, 255] XH2 XH2 XH2 ?_
   refine Oo u73 .look rfl (W3w rfl rfl rfl rfl rfl) ?_
   refine Oo u73 .calm rfl (Zb (.inl rfl) rfl) ?_
   refine Oo u73 .calm rfl (rfl) ?_
   refine Oo u73 .calm rfl (rfl) ?_
   refine Oo u73 .look rfl (W3n rfl rfl rfl rfl) ?_
   refine Oo u73 .look rfl (rfl) ?_
   refine Oo u73 .calm rfl (Zb (.inl rfl) rfl) ?_
   refine ZX (env' := u73) rfl rfl rfl rfl rfl (by exact rEarlyN _ _ _ _ (hR1.2 _ (rul_mem (by omega)))) XH7 rfl rfl ?_
   refine Oo u73 .calm rfl (rfl) ?_
   refine ZS [] XH2 (trivial) ?_
   refine Zc ?_
   refine Zm _ rfl (fun hc3 => ?_) (fun hc3 => ?_)
   ·try simp only [qB, qN] at hc3
    refine Ze (Za ?_)
    refine Lo u73 (Zh (VVal.bool false) (.inr rfl) rfl) ?_
    refine Zf (Zc (Zj (ZB (Zn (Yc (ZB (Zn ?_)))))))
    refine W3d (.inr rfl) (Zg rfl rfl) ?_
    exact W3u
   ·try simp only [qB, qN] at hc3
    refine Zl (Zy (Zc (Za ?_)))
    refine Lo u73 (W14 rfl rfl rfl) ?_
    refine Lo u73 (Zb (.inl rfl) rfl) ?_
    refine Zf ?_
    refine K_loopG (mk 73 9444606864949724053468) (env' := u73) rfl (Gh.dropTo (L := []) (X := [_]) 0 rfl (BaseOk.set (BaseOk.refl _) _ rfl) (by first | (simp [VVal.underL, VVal.under, fzW_under]; done) | (simp [VVal.underL, VVal.under, fzW_under, rss_under, mapW_under, mapN_under, fzR_und, List.length_set, hy]; done) | (simp [VVal.underL, VVal.under, fzW_under]; omega)) rfl) ⟨k + 1, ?_, rfl, ?_⟩
    ·first | omega | (simp only []; omega)
    ·exact ⟨⟨by omega, all_step (by omega) hall (by assumption)⟩, rfl⟩
  ·try simp only [qB, qN] at hc2
   refine ZR (ZP (ZI (ZQ (Zc (Ze (Za ?_))))))
   refine Lo u73 (Zb (.inl rfl) rfl) ?_
   refine Lo u73 (Zb (.inl rfl) rfl) ?_
   refine Zt rfl rfl rfl (by exact hfull_spec (H.set y (gaB (⟨g.n + 1, g.p + u, g.e⟩ : Gz)) ++ []) y (⟨g.n + 1, g.p + u, g.e⟩ : Gz) (Zq (List.getElem?_set_self hy)) (Z8 ws a a.length) 0#64 (by have := @szP_le a a.length; omega)) ?_
   rintro v _ ⟨rfl, rfl⟩; rw [Yj XH17, List.set_set]
   refine Le u73 ?_
   refine Lo u73 (Zb (.inr rfl) rfl) ?_
   refine Zf (Zc (Zj ?_))
   refine W3d (.inr rfl) (Zg rfl rfl) ?_
   exact W3u
theorem W3z {T : TypeId → Option VTy} {H : Zd} {op : Op} {ρ : Operand → VVal} {t : TypeId} {a : Operand} {y : VTy} {p v : VVal} (ho : op = .load t a) (ha : ρ a = p) (hy : T t = some y) (hd : Zk y.desc = false) (h : LdOk H p v := by first | exact .inl ⟨_, _, rfl, XH24⟩ | exact .inr ⟨_, _, _, _, rfl, by exact get_out hq, XH24⟩) : vop T ρ H op = some (v, H) := v_ld ho ha hy hd h
theorem W40 {T : TypeId → Option VTy} {H : Zd} {op : Op} {ρ : VEnv} {H' : Zd} {t : TypeId} {a : Operand} {i : Nat} {v : VVal} {y : VTy} {b off : Nat} {cs new : List VVal} (ho : op = .store t a (.tmp i)) (hv : ρ[i]? = some v) (ha : ρ.eval a = .ptr (some (b, off))) (hy : T t = some y) (hx : v.cells = some new) (hn : new.length = y.size) (h1 : new.all VVal.one = true) (hb : H[b]? = some (.cells cs true) := by exact get_out hq) (hl : off + new.length ≤ cs.length := by exact XH25) (hH : H.set b (.cells (Zv cs off new) true) = H' := by exact Yj hql) : vop T ρ.eval H op = some (.skip, H') := Z6 ho hv ha hy hx hn h1 hb hl hH
theorem W41 {T : TypeId → Option VTy} {H : Zd} {op : Op} {ρ : Operand → VVal} {t : TypeId} {a : Operand} {y : VTy} {p v : VVal} (ho : op = .load t a) (ha : ρ a = p) (hy : T t = some y) (hd : Zk y.desc = false) (h : LdOk H p v := by first | exact .inl ⟨_, _, rfl, by rfl⟩ | exact .inr ⟨_, _, _, _, rfl, by exact get_out (List.getElem?_set_self hql), by rfl⟩) : vop T ρ H op = some (v, H) := v_ld ho ha hy hd h
theorem W42 {T : TypeId → Option VTy} {H : Zd} {op : Op} {ρ : Operand → VVal} {t : TypeId} {a : Operand} {y : VTy} {p v : VVal} (ho : op = .load t a) (ha : ρ a = p) (hy : T t = some y) (hd : Zk y.desc = false) (h : LdOk H p v := by first | exact .inl ⟨_, _, rfl, XH24⟩ | exact .inr ⟨_, _, _, _, rfl, by exact get_out ((List.getElem?_set_ne (Ne.symm hqm)).trans hm), XH24⟩) : vop T ρ H op = some (v, H) := v_ld ho ha hy hd h
theorem Found_spec {x : SW} (H : Zd) (q m : Nat) (hq : H[q]? = some (.cells [.slice none 0 0 true 0] true)) (hm : H[m]? = some (.cells [iI 1] true)) (a : List Nat) : F (psys x) 83 [fzN a, .ptr (some (q, 0)), .ptr (some (m, 0))] H fun v G => v = .bool false ∧ ∃ X w, G = H.set q (.cells [w] true) ++ X ∧ LV H.length 1 X w [fzN a] 1 := by
 have hql := ZO hq
 have hqm : m ≠ q := fun e => by subst e; rw [hm] at hq; cases hq
 refine Zs Tryd.func83 rfl u13 rfl ?_
 refine Ze (Za ?_)
 refine Lo u13 (Zh (VVal.bool false) (.inr rfl) rfl) ?_
 refine Zf (Zc (Ze (Za ?_)))
 refine Lo u13 (W3z rfl rfl rfl rfl) ?_
 refine Lo u13 (Zb (.inl rfl) rfl) ?_
 refine Lo u13 (Zz rfl rfl (by decide) rfl) ?_
 refine L_opX rfl rfl (v_appX rfl rfl rfl rfl rfl rfl rfl (LV.nil _ _ _) rfl rfl (by decide) (by decide) (by decide)) ?_
 rintro _ _ ⟨Y1, rfl, rfl, hY1, hY2, hY3⟩
 refine Le u13 ?_
 refine Lo u13 (W40 rfl rfl rfl rfl rfl rfl rfl) ?_
 refine Zf (Zc (Ze (Za ?_)))
 refine Lo u13 (W41 rfl rfl rfl rfl) ?_
 refine Lo u13 (v_len rfl rfl rfl rfl hY3) ?_
 refine Lo u13 (W42 rfl rfl rfl rfl) ?_
 refine Lo u13 (rfl) ?_
 refine Lo u13 (Zb (.inr rfl) rfl) ?_
 refine Zf (Zc (Zj ?_))
 refine E_keep (.inr rfl) (Zg rfl rfl) ?_
 exact ⟨rfl, _, _, rfl, hY3⟩
theorem CloI_nil {x : SW} (H : Zd) : F (psys x) 109 [.slice none 0 0 true 0] H fun v G => v = .fsl [] 0 1 false ∧ G = H := by
 refine Zs Tryd.func109 rfl u8 rfl ?_
 refine Ze (Za ?_)
 refine Lo u8 (Zh (VVal.slice none 0 0 true 0) (.inr rfl) rfl) ?_
 refine Zf (Zc (Ze (Ze (Za ?_))))
 refine Lo u8 (Zb (.inl rfl) rfl) ?_
 refine Lo u8 (rfl) ?_
 refine Zf (Zc ?_)
 refine ZM rfl rfl ?_
 refine Ze (Za ?_)
 refine Lo u8 (Zh (VVal.slice none 0 0 true 0) (.inr rfl) rfl) ?_
 refine Zf (Zc (Zj (Zn ?_)))
 refine E_gh (.inr rfl) (Zg rfl rfl) (Gh.ansLV (BaseOk.refl _) (LV.nil H.length 1 []) rfl) ?_
 exact ⟨rfl, rfl⟩
theorem CloI_b {x : SW} (H : Zd) (b cap : Nat) (cs l : List VVal) (hb : H[b]? = some (.cells cs true)) (hc : cs.take l.length = l) (hl : l.length ≤ cs.length) (h0 : 0 < l.length) (hm : l.length ≤ 1000000) (h1 : l.all VVal.one = true) (hu : VVal.underL H.length l = true) : F (psys x) 109 [.slice (some (b, 0)) l.length cap false 1] H fun v G => v = .fsl l l.length 1 false ∧ G = H := by
 refine Zs Tryd.func109 rfl u8 rfl ?_
 refine Ze (Za ?_)
 refine Lo u8 (Zh (VVal.slice none 0 0 true 0) (.inr rfl) rfl) ?_
 refine Zf (Zc (Ze (Ze (Za ?_))))
 refine Lo u8 (Zb (.inl rfl) rfl) ?_
 refine Lo u8 (rfl) ?_
 refine Zf (Zc ?_)
 refine Z4 rfl rfl ?_
 refine Zl (Zc (Ze (Za ?_)))
 refine Lo u8 (Zz rfl rfl (by decide) rfl) ?_
 refine Lo u8 (Zb (.inl rfl) rfl) ?_
 refine L_opX rfl rfl (v_appEs rfl rfl rfl rfl rfl rfl rfl rfl (srcLive hb hc hl) (by exact (Nat.mul_one _).symm) h1 (by decide) (by show l.length * 8 ≤ _ ∧ l.length ≤ _; omega)) ?_
 rintro _ _ ⟨Z, i, rfl, rfl, hi⟩
 refine Le u8 ?_
 refine Lo u8 (Zb (.inr rfl) rfl) ?_
 refine Zf (Zc (Zj ?_))
 refine E_gh (.inr rfl) (Zg rfl rfl) (Gh.fsl (BaseOk.refl _) hi (by show Zp l 0 (l.length * 1) = some l; unfold Zp; rw [if_pos (by omega), List.drop_zero, Nat.mul_one, List.take_length]) (Nat.le_refl _) hu) ?_
 exact ⟨rfl, rfl⟩
theorem rc_under (n : Nat) (row : List Nat) : VVal.underL n (rcN row) = true := VVal.underL_map fun _ => rfl
theorem rc_one (row : List Nat) : (rcN row).all VVal.one = true := List.all_eq_true.2 fun v hv => by
  obtain ⟨n, _, rfl⟩ := List.mem_map.1 hv; rfl
theorem CloR {x : SW} (B X : Zd) (rv : VVal) (row : List Nat) (r : RV B.length X rv (rcN row)) (h : row = [] → rv = .slice none 0 0 true 0) (hm : row.length ≤ 1000000) : F (psys x) 109 [rv] (B ++ X) fun v G => v = fzN row ∧ G = B ++ X := by
  rcases r with ⟨h1, rfl⟩ | ⟨b, cap, cs, rfl, h2, h3, h4, h5⟩
  · obtain rfl : row = [] := by simpa using h1
    exact CloI_nil _
  · by_cases h0 : row = []
    · exact absurd (h h0) (by simp)
    · have hlen : (rcN row).length = row.length := by simp
      have hpos : 0 < row.length := List.length_pos_iff.2 h0
      have := CloI_b (x := x) (B ++ X) (B.length + b) cap cs (rcN row) (ZG rfl h2) h5 (by omega) (by omega) (by omega) (rc_one _) (rc_under _ _)
      rw [hlen] at this ⊢
      exact this
abbrev kpV (u : Nat) (ws : List (BitVec 64)) (rss : List (List Rul)) (y : Nat) : VVal := .func 53 [huP (u : Nat) (fzW ws) (fzRR rss) y] []
abbrev fdV (H : Zd) : VVal := .func 83 [] [.ptr (some (H.length + 1, 0)), .ptr (some (H.length, 0))]
abbrev niS : VVal := .slice none 0 0 true 0
def wkH (H : Zd) (y : Nat) (kv rv fnd : VVal) (g : Gz) : Zd := H.set y (gaB g) ++ [.cells [iI 1] true, .cells [fnd] true, .cells [rv, kv, fdV H] true]
section
variable {H X : Zd} {y : Nat} {kv rv fnd : VVal} {g : Gz}
theorem wk_len : (wkH H y kv rv fnd g).length = H.length + 3 := by unfold wkH; rw [List.length_append, List.length_set]; rfl
theorem wk_at {n : Nat} {k : VBlk} (h : n < 3) (hk : [VBlk.cells [iI 1] true, .cells [fnd] true, .cells [rv, kv, fdV H] true][n]? = some k) : (wkH H y kv rv fnd g ++ X)[H.length + n]? = some k := by
  unfold wkH; rw [List.append_assoc]; exact ZG (List.length_set) (by rw [List.getElem?_append_left h]; exact hk)
theorem wk_ga (hy : y < H.length) : (wkH H y kv rv fnd g ++ X)[y]? = some (gaB g) := by
  unfold wkH; rw [List.append_assoc]; exact get_out (List.getElem?_set_self hy)
theorem wk_setg {g' : Gz} (hy : y < H.length) : (wkH H y kv rv fnd g ++ X).set y (gaB g') = wkH H y kv rv fnd g' ++ X := by
  unfold wkH; rw [List.append_assoc, Yj XH17, List.set_set, List.append_assoc]
theorem wk_setf {w : VVal} : (wkH H y kv rv fnd g ++ X).set (H.length + 1) (.cells [w] true) = wkH H y kv rv w g ++ X := by
  unfold wkH; rw [List.append_assoc, ZW (List.length_set), List.append_assoc]; rfl
theorem wk_setr {w : VVal} : (wkH H y kv rv fnd g ++ X).set (H.length + 2) (.cells (Zv [rv, kv, fdV H] (0 + 0) [w]) true) = wkH H y kv w fnd g ++ X := by
  unfold wkH; rw [List.append_assoc, ZW (List.length_set), List.append_assoc]; rfl
end
def frPost (H : Zd) (y : Nat) (kv : VVal) (g : Gz) (row : List Nat) (r : Gz × Option (List Nat)) (v : VVal) (G : Zd) : Prop :=
  ∃ rv X, RV (H.length + 3) X rv (rcN row) ∧ ((r.2 = none ∧ v = .bool true ∧ G = wkH H y kv rv niS (g + r.1) ++ X) ∨ ∃ s w, r.2 = some s ∧ v = .bool false ∧ G = wkH H y kv rv w (g + r.1) ++ X ∧ LV (H.length + 3) 1 X w [fzN s] 1)
theorem hKeep_in {x : SW} {H X : Zd} {u y : Nat} {ws : List (BitVec 64)} {rss : List (List Rul)} {rv fnd : VVal} {g : Gz} (hy : y < H.length) (a : List Nat) (ha : Pat a) (h0 : 0 < a.length) (hw : a.length ≤ ws.length) (hn : ws.length ≤ 1000000) (hr : rss.length = ws.length) (hR : ∀ i, (rss.getD i []).length ≤ 1000000 ∧ ∀ r, r ∈ rss.getD i [] → r.steps.length ≤ 1000000) :
    F (psys x) 53 [huP (u : Nat) (fzW ws) (fzRR rss) y, fzN a] (wkH H y (kpV u ws rss y) rv fnd g ++ X) fun v G => (v = .bool true ∧ kpB ws rss a = true ∧ G = wkH H y (kpV u ws rss y) rv fnd (g + kpG u ws rss a) ++ X) ∨ (v = .bool false ∧ kpB ws rss a = false ∧ G = wkH H y (kpV u ws rss y) rv fnd (g + kpG u ws rss a) ++ X) := by
  refine (hKeep_spec _ y g (wk_ga hy) ws rss a ha h0 hw hn hr hR).mono ?_
  rintro v G ⟨rfl, rfl⟩
  rw [wk_setg hy]
  cases h : kpB ws rss a
  · exact .inr ⟨rfl, rfl, rfl⟩
  · exact .inl ⟨rfl, rfl, rfl⟩
abbrev u84 {a0 a1 a2 a3 a4 a5 a6 a7 a8 a9 a10 a11 a12 a13 a14 a15 a16 a17 a18 a19 a20 a21 a22 a23 a24 a25 a26 a27 a28 a29 a30 a31 a32 a33 a34 a35 a36 a37 a38 a39 a40 a41 a42 a43 a44 a45 a46 a47 a48 a49 a50 a51 a52 a53 a54 a55 a56 a57 a58 a59 a60 a61 a62 a63 a64 a65 a66 a67 a68 a69 a70 a71 a72 a73 a74 a75 a76 a77 a78 a79 a80 a81 a82 a83 : VVal} : VEnv := a0 :: a1 :: a2 :: a3 :: a4 :: a5 :: a6 :: a7 :: a8 :: a9 :: a10 :: a11 :: a12 :: a13 :: a14 :: a15 :: a16 :: a17 :: a18 :: a19 :: a20 :: a21 :: a22 :: a23 :: a24 :: a25 :: a26 :: a27 :: a28 :: a29 :: a30 :: a31 :: a32 :: a33 :: a34 :: a35 :: a36 :: a37 :: a38 :: a39 :: a40 :: a41 :: a42 :: a43 :: a44 :: a45 :: a46 :: a47 :: a48 :: a49 :: a50 :: a51 :: a52 :: a53 :: a54 :: a55 :: a56 :: a57 :: a58 :: a59 :: a60 :: a61 :: a62 :: a63 :: a64 :: a65 :: a66 :: a67 :: a68 :: a69 :: a70 :: a71 :: a72 :: a73 :: a74 :: a75 :: a76 :: a77 :: a78 :: a79 :: a80 :: a81 :: a82 :: a83 :: []
theorem W43 {T : TypeId → Option VTy} {H : Zd} {op : Op} {ρ : Operand → VVal} {t : TypeId} {a : Operand} {y : VTy} {p v : VVal} (ho : op = .load t a) (ha : ρ a = p) (hy : T t = some y) (hd : Zk y.desc = false) (h : LdOk H p v := by first | exact .inl ⟨_, _, rfl, by first | rfl | assumption⟩ | exact .inr ⟨_, _, _, _, rfl, by exact wk_at (n := 2) (by decide) rfl, by first | rfl | assumption⟩) : vop T ρ H op = some (v, H) := v_ld ho ha hy hd h
theorem W45 {T : TypeId → Option VTy} {H : Zd} {op : Op} {ρ : Operand → VVal} {t ty : TypeId} {x y : Operand} {n m : Int} (ho : op = .binOp .sub t x y ty) (hx : ρ x = .int .i64 n) (hy : ρ y = .int .i64 m) (h : -9223372036854775808 ≤ n - m ∧ n - m < 9223372036854775808 := by simp; omega) : vop T ρ H op = some (.int .i64 (n - m), H) := v_subI ho hx hy h
theorem W46 {P : Prop} (h : P := by first | exact ⟨_, _, hr4, .inr ⟨s, w, by rw [frm_R, hx, frR_hit (by omega) hk1 ho], rfl, by rw [frm_R, hx, frR_hit (by omega) hk1 ho]; simp only [Gz.assoc], hw⟩⟩ | exact ⟨_, _, hr1, .inl ⟨by rw [frm_R, hx, frR_end (by omega)], rfl, by rw [frm_R, hx, frR_end (by omega)]; show _ = wkH _ _ _ _ _ (g + (d + 0)) ++ _; rw [Gz.add_zero]⟩⟩) : P := h
theorem from_0 {x : SW} (H : Zd) {u y : Nat} {ws : List (BitVec 64)} {rss : List (List Rul)} (hy : y < H.length) (hn : ws.length ≤ 1000000) (hr : rss.length = ws.length) (hR : ∀ i, (rss.getD i []).length ≤ 1000000 ∧ ∀ r, r ∈ rss.getD i [] → r.steps.length ≤ 1000000) (row : List Nat) (rv : VVal) (X : Zd) (g : Gz) (hp : Pat row) (hrv : RV (H.length + 3) X rv (rcN row)) (h0 : row = [] → rv = niS) (hl : row.length = ws.length) : F (psys x) 84 [.ptr (some (H.length + 2, 0)), iI (ws.length : Nat), iI (szP row row.length : Nat)] (wkH H y (kpV u ws rss y) rv niS g ++ X) (frPost H y (kpV u ws rss y) g row (frm (kpB ws rss) (kpG u ws rss) 0 row (szP row row.length))) := by
 refine Zs Tryd.func84 rfl u84 rfl ?_
 refine Ze (Za ?_)
 refine Lo u84 (Zh (VVal.bool false) (.inr rfl) rfl) ?_
 refine Zf (Zc (Ze (Ze ?_)))
 rw [List.append_nil]
 refine Za ?_
 refine Lo u84 (Zb (.inl rfl) rfl) ?_
 refine Lo u84 (rfl) ?_
 refine Lo u84 (rfl) ?_
 refine Lo u84 (W43 rfl rfl rfl rfl) ?_
 refine Lo u84 (v_lenN rfl rfl rfl rfl hrv) ?_
 refine Lo u84 (Zb (.inl rfl) rfl) ?_
 refine Lo u84 (v_is true rfl (by rw [hl]; simp)) ?_
 refine Zf (Zc ?_)
 refine ZM rfl rfl ?_
 refine Ze ?_
 refine B_drawP #[0, 1, 3, 7, 0, 16, 48, 112, 240, 511, 1023] XH2 ?_
 refine P_seg [0, 1, 2, 3, 4, 5, 6, 7, 8] (bef := #[0, 1, 3, 7, 0, 16, 48, 112, 240, 511, 1023]) XH2 XH2 XH2 ?_
 refine Oo u84 .calm rfl (Zb (.inl rfl) rfl) ?_
 refine Oo u84 .calm rfl (rfl) ?_
 refine Oo u84 .calm rfl (rfl) ?_
 refine Ye (env' := u84) (x := .look _ _) rfl rfl rfl (W43 rfl rfl rfl rfl) rfl rfl rfl ?_
 refine Oo u84 .calm rfl (Zb (.inl rfl) rfl) ?_
 refine Oo u84 .calm rfl (rfl) ?_
 refine Oo u84 .calm rfl (rfl) ?_
 refine Oo u84 .look rfl (W43 rfl rfl rfl rfl) ?_
 refine ZX (env' := u84) rfl rfl rfl rfl rfl (by exact CloR _ _ _ _ (by rw [wk_len]; exact hrv) h0 (by omega)) XH7 rfl rfl ?_
 refine ZS [_] (by rfl) (And.intro (And.intro (W43 rfl rfl rfl rfl) (W43 rfl rfl rfl rfl)) trivial) ?_
 refine P_call 9 (bef := #[0, 1, 3, 7, 0, 16, 48, 112, 240, 511, 1023]) XH2 XH2 rfl rfl rfl rfl (by exact Found_spec _ (H.length + 1) H.length (wk_at (n := 1) (by decide) rfl) (wk_at (n := 0) (by decide) rfl) row) ?_
 rintro _ _ ⟨rfl, X2, w, rfl, hw⟩; rw [wk_setf, List.append_assoc]
 refine P_env (env' := u84) rfl ?_
 refine P_seg [10] (bef := #[0, 1, 3, 7, 0, 16, 48, 112, 240, 511, 1023]) XH2 XH2 XH2 ?_
 refine Oo u84 .calm rfl (Zb (.inr rfl) rfl) ?_
 refine ZS [] XH2 (trivial) ?_
 refine P_end XH2 ?_
 refine Zc (Zj (Zn ?_))
 refine E_keep (.inr rfl) (Zg rfl rfl) ?_
 exact ⟨rv, X ++ X2, hrv.app _, .inr ⟨row, w, rfl, rfl, by rw [show (frm (kpB ws rss) (kpG u ws rss) 0 row (szP row row.length)).1 = 0 from rfl, Gz.add_zero, List.append_assoc], LV.behind (by rw [List.length_append, wk_len]) hw⟩⟩
theorem from_s {x : SW} (H : Zd) {u y : Nat} {ws : List (BitVec 64)} {rss : List (List Rul)} (hy : y < H.length) (hn : ws.length ≤ 1000000) (hr : rss.length = ws.length) (hR : ∀ i, (rss.getD i []).length ≤ 1000000 ∧ ∀ r, r ∈ rss.getD i [] → r.steps.length ≤ 1000000) (n : Nat) (ih : ∀ (row : List Nat) (rv : VVal) (X : Zd) (g : Gz) (hp : Pat row) (hrv : RV (H.length + 3) X rv (rcN row)) (h0 : row = [] → rv = niS), row.length + n = ws.length → F (psys x) 84 [.ptr (some (H.length + 2, 0)), iI (ws.length : Nat), iI (szP row row.length : Nat)] (wkH H y (kpV u ws rss y) rv niS g ++ X) (frPost H y (kpV u ws rss y) g row (frm (kpB ws rss) (kpG u ws rss) n row (szP row row.length)))) (row : List Nat) (rv : VVal) (X : Zd) (g : Gz) (hp : Pat row) (hrv : RV (H.length + 3) X rv (rcN row)) (h0 : row = [] → rv = niS) (hl : row.length + (n + 1) = ws.length) : F (psys x) 84 [.ptr (some (H.length + 2, 0)), iI (ws.length : Nat), iI (szP row row.length : Nat)] (wkH H y (kpV u ws rss y) rv niS g ++ X) (frPost H y (kpV u ws rss y) g row (frm (kpB ws rss) (kpG u ws rss) (n + 1) row (szP row row.length))) := by
 refine Zs Tryd.func84 rfl u84 rfl ?_
 refine Ze (Za ?_)
 refine Lo u84 (Zh (VVal.bool false) (.inr rfl) rfl) ?_
 refine Zf (Zc (Ze (Ze ?_)))
 rw [List.append_nil]
 refine Za ?_
 refine Lo u84 (Zb (.inl rfl) rfl) ?_
 refine Lo u84 (rfl) ?_
 refine Lo u84 (rfl) ?_
 refine Lo u84 (W43 rfl rfl rfl rfl) ?_
 refine Lo u84 (v_lenN rfl rfl rfl rfl hrv) ?_
 refine Lo u84 (Zb (.inl rfl) rfl) ?_
 refine Lo u84 (v_is false rfl (by simp; omega)) ?_
 refine Zf (Zc ?_)
 refine Z4 rfl rfl ?_
 refine Zl (Zc (Ze (Ze (Za ?_))))
 refine Lo u84 (Zh (VVal.int .i64 0) (.inr rfl) rfl) ?_
 refine Zf (Zc (Zo ?_))
 refine ZJ (mk 84 19342813113834066795298680) (env' := u84) rfl ?_
 refine ZN (fun (k : Nat) => szP row row.length + 1 - k) (fun (k : Nat) => [(7, iI (k : Nat))]) (fun (k : Nat) G => (k ≤ szP row row.length + 1) ∧ ∃ X1 rv1 d, G = wkH H y (kpV u ws rss y) rv1 niS (g + d) ++ X1 ∧ RV (H.length + 3) X1 rv1 (rcN row) ∧ frR (kpB ws rss) (kpG u ws rss) (frm (kpB ws rss) (kpG u ws rss) n) row (szP row row.length) 0 = (d + (frR (kpB ws rss) (kpG u ws rss) (frm (kpB ws rss) (kpG u ws rss) n) row (szP row row.length) k).1, (frR (kpB ws rss) (kpG u ws rss) (frm (kpB ws rss) (kpG u ws rss) n) row (szP row row.length) k).2)) 0 rfl ?_ ?_
 ·refine ⟨?_, ⟨X, rv, 0, by rw [Gz.add_zero], hrv, by rw [Gz.zero_add]⟩⟩
  exact Nat.zero_le _
 rintro k _ ⟨hk, ⟨X1, rv1, d, rfl, hr1, hx⟩⟩
 refine ZZ (env' := u84) rfl ?_
 have hsz := @szP_le row row.length
 refine Ze (Ze (Za ?_))
 refine Lo u84 (Zb (.inl rfl) rfl) ?_
 refine Lo u84 (Zb (.inl rfl) rfl) ?_
 refine Lo u84 (rfl) ?_
 refine Zf (Zc ?_)
 refine Zm _ rfl (fun hc1 => ?_) (fun hc1 => ?_)
 ·try simp only [qB, qN] at hc1
  refine Zl (Zc (Ze (Zo (Ze (Za ?_)))))
  refine Lo u84 (Zb (.inl rfl) rfl) ?_
  refine Lo u84 (Zb (.inl rfl) rfl) ?_
  refine Lo u84 (rfl) ?_
  refine Lo u84 (rfl) ?_
  refine Lo u84 (W43 rfl rfl rfl rfl) ?_
  refine Lo u84 (Zb (.inl rfl) rfl) ?_
  refine Lo u84 (Zz rfl rfl (by decide) rfl) ?_
  refine L_opX rfl rfl (v_rvApp rfl rfl rfl rfl rfl rfl rfl rfl (by rw [wk_len]; exact hr1) rfl (by rw [List.length_map]; show (row.length + 1) * 8 ≤ _ ∧ _; omega)) ?_
  rintro v2 _ ⟨Y1, rfl, hY⟩; have hY : RV (H.length + 3) Y1 v2 (rcN (row ++ [k])) := by rw [rcN_snoc]; rw [wk_len] at hY; exact hY
  refine Le u84 ?_
  refine Lo u84 (rfl) ?_
  refine Lo u84 (rfl) ?_
  refine Lo u84 (Z6 rfl rfl rfl rfl hY.cells rfl (by simp [hY.one]) (wk_at (n := 2) (by decide) rfl) (Nat.le_of_ble_eq_true rfl) wk_setr) ?_
  refine Zf (Zc (Ze ?_))
  refine B_drawP #[0, 1, 3, 7, 15, 31, 63, 127, 255, 511, 63, 1087, 3135, 7231, 15423, 32767, 65535, 131071, 262143, 524287, 524287, 524287, 524287, 4718591, 15204351, 33554431, 67108863, 134217727] XH2 ?_
  refine P_seg [0, 1, 2, 3, 4, 5, 6, 7, 8, 9, 10, 11, 12, 13, 14] (bef := #[0, 1, 3, 7, 15, 31, 63, 127, 255, 511, 63, 1087, 3135, 7231, 15423, 32767, 65535, 131071, 262143, 524287, 524287, 524287, 524287, 4718591, 15204351, 33554431, 67108863, 134217727]) XH2 XH2 XH2 ?_
  refine Oo u84 .calm rfl (Zb (.inl rfl) rfl) ?_
  refine Oo u84 .calm rfl (rfl) ?_
  refine Oo u84 .calm rfl (rfl) ?_
  refine Oo u84 .look rfl (W43 rfl rfl rfl rfl) ?_
  refine Oo u84 .calm rfl (rfl) ?_
  refine Oo u84 .calm rfl (Zb (.inl rfl) rfl) ?_
  refine Oo u84 .calm rfl (Zb (.inl rfl) rfl) ?_
  refine Oo u84 .calm rfl (rfl) ?_
  refine Oo u84 .calm rfl (rfl) ?_
  refine Ye (env' := u84) (x := .look _ _) rfl rfl rfl (W43 rfl rfl rfl rfl) rfl rfl rfl ?_
  refine Oo u84 .calm rfl (Zb (.inl rfl) rfl) ?_
  refine Oo u84 .calm rfl (rfl) ?_
  refine Oo u84 .calm rfl (rfl) ?_
  refine Oo u84 .look rfl (W43 rfl rfl rfl rfl) ?_
  refine ZX (env' := u84) rfl rfl rfl rfl rfl (by exact CloR _ _ _ (row ++ [k]) (by rw [wk_len]; exact hY) (by simp) (by simp; omega)) XH7 rfl rfl ?_
  refine ZS [_] (by rfl) (And.intro (And.intro (W43 rfl rfl rfl rfl) (W43 rfl rfl rfl rfl)) trivial) ?_
  refine P_call 15 (bef := #[0, 1, 3, 7, 15, 31, 63, 127, 255, 511, 63, 1087, 3135, 7231, 15423, 32767, 65535, 131071, 262143, 524287, 524287, 524287, 524287, 4718591, 15204351, 33554431, 67108863, 134217727]) XH2 XH2 rfl rfl rfl rfl (by exact hKeep_in hy (row ++ [k]) (Pat_snoc hp (by omega)) (by simp) (by simp; omega) hn hr hR) ?_
  rintro _ _ (⟨rfl, hk1, rfl⟩ | ⟨rfl, hk1, rfl⟩)
  ·skip
   refine P_env (env' := u84) rfl ?_
   refine P_seg [16, 17, 18, 19, 20, 21, 22, 23, 24] (bef := #[0, 1, 3, 7, 15, 31, 63, 127, 255, 511, 63, 1087, 3135, 7231, 15423, 32767, 65535, 131071, 262143, 524287, 524287, 524287, 524287, 4718591, 15204351, 33554431, 67108863, 134217727]) XH2 XH2 XH2 ?_
   refine Oo u84 .calm rfl (rfl) ?_
   refine Oo u84 .calm rfl (ZE rfl rfl rfl) ?_
   refine Oo u84 .calm rfl (Zb (.inl rfl) rfl) ?_
   refine Oo u84 .calm rfl (Zb (.inl rfl) rfl) ?_
   refine Oo u84 .calm rfl (Zb (.inl rfl) rfl) ?_
   refine Oo u84 .calm rfl (Zb (.inl rfl) rfl) ?_
   refine Oo u84 .calm rfl (Zb (.inl rfl) rfl) ?_
   refine Oo u84 .calm rfl (W14 rfl rfl rfl) ?_
   refine Oo u84 .calm rfl (v_val rfl (by show iI _ = iI ((max (szP row row.length) (k + 1) : Nat)); congr 1; omega)) ?_
   refine ZS [] XH2 (trivial) ?_
   refine P_call 25 (bef := #[0, 1, 3, 7, 15, 31, 63, 127, 255, 511, 63, 1087, 3135, 7231, 15423, 32767, 65535, 131071, 262143, 524287, 524287, 524287, 524287, 4718591, 15204351, 33554431, 67108863, 134217727]) XH2 XH2 rfl rfl rfl rfl (by have := ih (row ++ [k]) _ _ (g + d + kpG u ws rss (row ++ [k])) (Pat_snoc hp (by omega)) hY (by simp) (by simp; omega); rw [szP_next (by omega)] at this; exact this) ?_
   rintro _ _ ⟨rv3, X3, hr3, (⟨ho, rfl, rfl⟩ | ⟨s, w, ho, rfl, rfl, hw⟩)⟩
   ·skip
    refine P_env (env' := u84) rfl ?_
    refine P_seg [26, 27] (bef := #[0, 1, 3, 7, 15, 31, 63, 127, 255, 511, 63, 1087, 3135, 7231, 15423, 32767, 65535, 131071, 262143, 524287, 524287, 524287, 524287, 4718591, 15204351, 33554431, 67108863, 134217727]) XH2 XH2 XH2 ?_
    refine Oo u84 .calm rfl (ZF rfl rfl rfl) ?_
    refine Oo u84 .calm rfl (Zb (.inr rfl) rfl) ?_
    refine ZS [] XH2 (trivial) ?_
    refine P_end XH2 ?_
    refine Zc (Ze ?_)
    refine ZV [0, 1, 2, 3, 4, 5, 6, 7, 8, 9, 10, 11, 12, 13, 14] #[0, 0, 2, 6, 14, 0, 32, 96, 224, 480, 992, 2046, 4095, 8191, 16383] XH2 XH2 XH2 ?_
    refine Oo u84 .calm rfl (Zb (.inl rfl) rfl) ?_
    refine Oo u84 .calm rfl (Zb (.inl rfl) rfl) ?_
    refine Oo u84 .calm rfl (rfl) ?_
    refine Oo u84 .calm rfl (rfl) ?_
    refine Oo u84 .look rfl (W43 rfl rfl rfl rfl) ?_
    refine Oo u84 .calm rfl (Zb (.inl rfl) rfl) ?_
    refine Oo u84 .calm rfl (rfl) ?_
    refine Oo u84 .calm rfl (rfl) ?_
    refine Oo u84 .look rfl (W43 rfl rfl rfl rfl) ?_
    refine Oo u84 .look rfl (XH18) ?_
    refine Oo u84 .calm rfl (W45 rfl rfl rfl) ?_
    refine O_opX .calm rfl rfl rfl (XH12) rfl rfl ?_
    rintro v4 _ ⟨rfl, hr4⟩
    refine O_env (env' := u84) rfl ?_
    refine Oo u84 .calm rfl (rfl) ?_
    refine Oo u84 .calm rfl (rfl) ?_
    refine Oo u84 .turn rfl (Z6 rfl rfl rfl rfl hr4.cells rfl (by simp [hr4.one]) (wk_at (n := 2) (by decide) rfl) (Nat.le_of_ble_eq_true rfl) wk_setr) ?_
    refine ZS [] XH2 (trivial) ?_
    refine Zc (Ze (Za ?_))
    refine Lo u84 (Zb (.inl rfl) rfl) ?_
    refine Lo u84 (rfl) ?_
    refine Zf (Zc ?_)
    refine Z4 rfl rfl ?_
    refine Zl (Zy (Zc (Za ?_)))
    refine Lo u84 (Zb (.inl rfl) rfl) ?_
    refine Lo u84 (W14 rfl rfl rfl) ?_
    refine Lo u84 (Zb (.inr rfl) rfl) ?_
    refine Zf ?_
    refine ZD (mk 84 19342813113834066795298680) (env' := u84) rfl ⟨k + 1, ?_, rfl, ?_⟩
    ·first | omega | (simp only []; omega)
    ·first | exact ⟨by omega, _, _, d + (kpG u ws rss (row ++ [k]) + (frm (kpB ws rss) (kpG u ws rss) n (row ++ [k]) (max (szP row row.length) (k + 1))).1), by simp only [Gz.assoc], hr4, by rw [hx, frR_on (by omega) hk1 ho]; simp only [Gz.assoc]⟩ | exact ⟨by omega, _, _, d + kpG u ws rss (row ++ [k]), by simp only [Gz.assoc], hr4, by rw [hx, frR_no (by omega) hk1]; simp only [Gz.assoc]⟩
   ·skip
    refine P_env (env' := u84) rfl ?_
    refine P_seg [26, 27] (bef := #[0, 1, 3, 7, 15, 31, 63, 127, 255, 511, 63, 1087, 3135, 7231, 15423, 32767, 65535, 131071, 262143, 524287, 524287, 524287, 524287, 4718591, 15204351, 33554431, 67108863, 134217727]) XH2 XH2 XH2 ?_
    refine Oo u84 .calm rfl (ZF rfl rfl rfl) ?_
    refine Oo u84 .calm rfl (Zb (.inr rfl) rfl) ?_
    refine ZS [] XH2 (trivial) ?_
    refine P_end XH2 ?_
    refine Zc (Ze ?_)
    refine ZV [0, 1, 2, 3, 4, 5, 6, 7, 8, 9, 10, 11, 12, 13, 14] #[0, 0, 2, 6, 14, 0, 32, 96, 224, 480, 992, 2046, 4095, 8191, 16383] XH2 XH2 XH2 ?_
    refine Oo u84 .calm rfl (Zb (.inl rfl) rfl) ?_
    refine Oo u84 .calm rfl (Zb (.inl rfl) rfl) ?_
    refine Oo u84 .calm rfl (rfl) ?_
    refine Oo u84 .calm rfl (rfl) ?_
    refine Oo u84 .look rfl (W43 rfl rfl rfl rfl) ?_
    refine Oo u84 .calm rfl (Zb (.inl rfl) rfl) ?_
    refine Oo u84 .calm rfl (rfl) ?_
    refine Oo u84 .calm rfl (rfl) ?_
    refine Oo u84 .look rfl (W43 rfl rfl rfl rfl) ?_
    refine Oo u84 .look rfl (XH18) ?_
    refine Oo u84 .calm rfl (W45 rfl rfl rfl) ?_
    refine O_opX .calm rfl rfl rfl (XH12) rfl rfl ?_
    rintro v4 _ ⟨rfl, hr4⟩
    refine O_env (env' := u84) rfl ?_
    refine Oo u84 .calm rfl (rfl) ?_
    refine Oo u84 .calm rfl (rfl) ?_
    refine Oo u84 .turn rfl (Z6 rfl rfl rfl rfl hr4.cells rfl (by simp [hr4.one]) (wk_at (n := 2) (by decide) rfl) (Nat.le_of_ble_eq_true rfl) wk_setr) ?_
    refine ZS [] XH2 (trivial) ?_
    refine Zc (Ze (Za ?_))
    refine Lo u84 (Zb (.inl rfl) rfl) ?_
    refine Lo u84 (rfl) ?_
    refine Zf (Zc ?_)
    refine ZM rfl rfl ?_
    refine Ze (Za ?_)
    refine Lo u84 (Zh (VVal.bool false) (.inr rfl) rfl) ?_
    refine Zf (Zc (Zj (ZB (Zn (Yc (ZB (Zn ?_)))))))
    refine E_keep (.inr rfl) (Zg rfl rfl) ?_
    exact W46
  ·skip
   refine P_env (env' := u84) rfl ?_
   refine P_seg [16, 17, 18, 19, 20, 21, 22, 23, 24] (bef := #[0, 1, 3, 7, 15, 31, 63, 127, 255, 511, 63, 1087, 3135, 7231, 15423, 32767, 65535, 131071, 262143, 524287, 524287, 524287, 524287, 4718591, 15204351, 33554431, 67108863, 134217727]) XH2 XH2 XH2 ?_
   refine Oo u84 .calm rfl (rfl) ?_
   refine Oo u84 .calm rfl (ZE rfl rfl rfl) ?_
   refine Oo u84 .calm rfl (Zb (.inl rfl) rfl) ?_
   refine Of u84 rfl ?_
   refine Of u84 rfl ?_
   refine Of u84 rfl ?_
   refine Of u84 rfl ?_
   refine Of u84 rfl ?_
   refine Of u84 rfl ?_
   refine ZS [] XH2 (trivial) ?_
   refine P_seg [25, 26, 27] (bef := #[0, 1, 3, 7, 15, 31, 63, 127, 255, 511, 63, 1087, 3135, 7231, 15423, 32767, 65535, 131071, 262143, 524287, 524287, 524287, 524287, 4718591, 15204351, 33554431, 67108863, 134217727]) XH2 XH2 XH2 ?_
   refine Of u84 rfl ?_
   refine Oo u84 .calm rfl (ZL (VVal.bool true) rfl rfl rfl) ?_
   refine Oo u84 .calm rfl (Zb (.inr rfl) rfl) ?_
   refine ZS [] XH2 (trivial) ?_
   refine P_end XH2 ?_
   refine Zc (Ze ?_)
   refine ZV [0, 1, 2, 3, 4, 5, 6, 7, 8, 9, 10, 11, 12, 13, 14] #[0, 0, 2, 6, 14, 0, 32, 96, 224, 480, 992, 2046, 4095, 8191, 16383] XH2 XH2 XH2 ?_
   refine Oo u84 .calm rfl (Zb (.inl rfl) rfl) ?_
   refine Oo u84 .calm rfl (Zb (.inl rfl) rfl) ?_
   refine Oo u84 .calm rfl (rfl) ?_
   refine Oo u84 .calm rfl (rfl) ?_
   refine Oo u84 .look rfl (W43 rfl rfl rfl rfl) ?_
   refine Oo u84 .calm rfl (Zb (.inl rfl) rfl) ?_
   refine Oo u84 .calm rfl (rfl) ?_
   refine Oo u84 .calm rfl (rfl) ?_
   refine Oo u84 .look rfl (W43 rfl rfl rfl rfl) ?_
   refine Oo u84 .look rfl (XH18) ?_
   refine Oo u84 .calm rfl (W45 rfl rfl rfl) ?_
   refine O_opX .calm rfl rfl rfl (XH12) rfl rfl ?_
   rintro v4 _ ⟨rfl, hr4⟩
   refine O_env (env' := u84) rfl ?_
   refine Oo u84 .calm rfl (rfl) ?_
   refine Oo u84 .calm rfl (rfl) ?_
   refine Oo u84 .turn rfl (Z6 rfl rfl rfl rfl hr4.cells rfl (by simp [hr4.one]) (wk_at (n := 2) (by decide) rfl) (Nat.le_of_ble_eq_true rfl) wk_setr) ?_
   refine ZS [] XH2 (trivial) ?_
   refine Zc (Ze (Za ?_))
   refine Lo u84 (Zb (.inl rfl) rfl) ?_
   refine Lo u84 (rfl) ?_
   refine Zf (Zc ?_)
   refine Z4 rfl rfl ?_
   refine Zl (Zy (Zc (Za ?_)))
   refine Lo u84 (Zb (.inl rfl) rfl) ?_
   refine Lo u84 (W14 rfl rfl rfl) ?_
   refine Lo u84 (Zb (.inr rfl) rfl) ?_
   refine Zf ?_
   refine ZD (mk 84 19342813113834066795298680) (env' := u84) rfl ⟨k + 1, ?_, rfl, ?_⟩
   ·first | omega | (simp only []; omega)
   ·first | exact ⟨by omega, _, _, d + (kpG u ws rss (row ++ [k]) + (frm (kpB ws rss) (kpG u ws rss) n (row ++ [k]) (max (szP row row.length) (k + 1))).1), by simp only [Gz.assoc], hr4, by rw [hx, frR_on (by omega) hk1 ho]; simp only [Gz.assoc]⟩ | exact ⟨by omega, _, _, d + kpG u ws rss (row ++ [k]), by simp only [Gz.assoc], hr4, by rw [hx, frR_no (by omega) hk1]; simp only [Gz.assoc]⟩
 ·try simp only [qB, qN] at hc1
  refine ZR (ZP (ZI (ZQ (Zc (Ze (Za ?_))))))
  refine Lo u84 (Zh (VVal.bool true) (.inr rfl) rfl) ?_
  refine Zf (Zc (Zj ?_))
  refine E_keep (.inr rfl) (Zg rfl rfl) ?_
  exact W46
abbrev u29 {a0 a1 a2 a3 a4 a5 a6 a7 a8 a9 a10 a11 a12 a13 a14 a15 a16 a17 a18 a19 a20 a21 a22 a23 a24 a25 a26 a27 a28 : VVal} : VEnv := a0 :: a1 :: a2 :: a3 :: a4 :: a5 :: a6 :: a7 :: a8 :: a9 :: a10 :: a11 :: a12 :: a13 :: a14 :: a15 :: a16 :: a17 :: a18 :: a19 :: a20 :: a21 :: a22 :: a23 :: a24 :: a25 :: a26 :: a27 :: a28 :: []
theorem W49 {T : TypeId → Option VTy} {H : Zd} {op : Op} {ρ : Operand → VVal} {t : TypeId} {a : Operand} {y : VTy} {p v : VVal} (ho : op = .load t a) (ha : ρ a = p) (hy : T t = some y) (hd : Zk y.desc = false) (h : LdOk H p v := by first | exact .inl ⟨_, _, rfl, by rfl⟩ | exact .inr ⟨_, _, _, _, rfl, by exact ZG (List.length_set) hX, by rfl⟩) : vop T ρ H op = some (v, H) := v_ld ho ha hy hd h
theorem from_spec {x : SW} (H : Zd) {u y : Nat} {ws : List (BitVec 64)} {rss : List (List Rul)} (hy : y < H.length) (hn : ws.length ≤ 1000000) (hr : rss.length = ws.length) (hR : ∀ i, (rss.getD i []).length ≤ 1000000 ∧ ∀ r, r ∈ rss.getD i [] → r.steps.length ≤ 1000000) : ∀ (n : Nat) (row : List Nat) (rv : VVal) (X : Zd) (g : Gz) (hp : Pat row) (hrv : RV (H.length + 3) X rv (rcN row)) (h0 : row = [] → rv = niS), row.length + n = ws.length → F (psys x) 84 [.ptr (some (H.length + 2, 0)), iI (ws.length : Nat), iI (szP row row.length : Nat)] (wkH H y (kpV u ws rss y) rv niS g ++ X) (frPost H y (kpV u ws rss y) g row (frm (kpB ws rss) (kpG u ws rss) n row (szP row row.length)))
  | 0, row, rv, X, g, hp, hrv, h0, hl => from_0 H hy hn hr hR row rv X g hp hrv h0 hl
  | n + 1, row, rv, X, g, hp, hrv, h0, hl => from_s H hy hn hr hR n (fun row rv X g a b c d => from_spec H hy hn hr hR n row rv X g a b c d) row rv X g hp hrv h0 hl
theorem from_in {x : SW} (H : Zd) {u y : Nat} {ws : List (BitVec 64)} {rss : List (List Rul)} (g : Gz) (hs : H[y]? = some (gaB g)) (hn : ws.length ≤ 1000000) (hr : rss.length = ws.length) (hR : ∀ i, (rss.getD i []).length ≤ 1000000 ∧ ∀ r, r ∈ rss.getD i [] → r.steps.length ≤ 1000000) : F (psys x) 84 [.ptr (some (H.length + 2, 0)), iI (ws.length : Nat), iI 0] (H ++ [.cells [iI 1] true, .cells [niS] true, .cells [niS, (kpV u ws rss y), fdV H] true])
    fun v G => ∃ b X w, v = .bool b ∧ G = H.set y (gaB (g + (frm (kpB ws rss) (kpG u ws rss) ws.length [] 0).1)) ++ X ∧ X[1]? = some (.cells [w] true) ∧ LV H.length 1 X w ((frm (kpB ws rss) (kpG u ws rss) ws.length [] 0).2.toList.map fzN) (frm (kpB ws rss) (kpG u ws rss) ws.length [] 0).2.toList.length := by
  have := from_spec (x := x) (u := u) H (ZO hs) hn hr hR ws.length [] niS [] g Pat_nil (RV.nil _ _) (fun _ => rfl) (Nat.zero_add _)
  rw [List.append_nil, show wkH H y (kpV u ws rss y) niS niS g = H ++ [.cells [iI 1] true, .cells [niS] true, .cells [niS, (kpV u ws rss y), fdV H] true] by unfold wkH; rw [← set_keep hs]] at this
  refine this.mono ?_
  rintro v G ⟨rv, X, hr, (⟨ho, rfl, rfl⟩ | ⟨s, w, ho, rfl, rfl, hw⟩)⟩
  · have ho : (frm (kpB ws rss) (kpG u ws rss) ws.length [] 0).2 = none := ho
    rw [ho]
    exact ⟨true, _ :: _ :: _ :: X, niS, rfl, by unfold wkH; rw [List.append_assoc]; rfl, rfl, LV.nil _ _ _⟩
  · have ho : (frm (kpB ws rss) (kpG u ws rss) ws.length [] 0).2 = some s := ho
    rw [ho]
    exact ⟨false, _, w, rfl, by unfold wkH; rw [List.append_assoc]; rfl, rfl, LV.behind (X := [.cells [iI 1] true, .cells [w] true, .cells [rv, (kpV u ws rss y), fdV H] true]) rfl hw⟩
theorem Search_spec {x : SW} (H : Zd) {u y : Nat} {ws : List (BitVec 64)} {rss : List (List Rul)} (g : Gz) (hs : H[y]? = some (gaB g)) (hn : ws.length ≤ 1000000) (hr : rss.length = ws.length) (hR : ∀ i, (rss.getD i []).length ≤ 1000000 ∧ ∀ r, r ∈ rss.getD i [] → r.steps.length ≤ 1000000) (h12 : ws.length ≤ 12) : F (psys x) 52 [iI (ws.length : Nat), iI 1, (kpV u ws rss y)] H fun v G => v = .fsl ((frm (kpB ws rss) (kpG u ws rss) ws.length [] 0).2.toList.map fzN) (frm (kpB ws rss) (kpG u ws rss) ws.length [] 0).2.toList.length 1 false ∧ G = H.set y (gaB (g + (frm (kpB ws rss) (kpG u ws rss) ws.length [] 0).1)) := by
 refine Zs Tryd.func52 rfl u29 rfl ?_
 refine Ze (Za ?_)
 refine Lo u29 (Zw rfl rfl rfl) ?_
 refine Lo u29 (Zh (VVal.slice none 0 0 true 0) (.inr rfl) rfl) ?_
 refine Zf (Zc (Ze (Za ?_)))
 refine Lo u29 (W12 rfl rfl rfl rfl) ?_
 refine Lo u29 (rfl) ?_
 refine Lo u29 (W13 rfl rfl rfl rfl rfl rfl rfl) ?_
 refine Zf (Zc (Ze (Ze (Za ?_))))
 refine Lo u29 (Zb (.inl rfl) rfl) ?_
 refine Lo u29 (v_is false rfl (by simp)) ?_
 refine Lo u29 (Zb (.inl rfl) rfl) ?_
 refine Lo u29 (Zb (.inl rfl) rfl) ?_
 refine Lo u29 (v_is false rfl (by simp; omega)) ?_
 refine Lo u29 (ZF rfl rfl rfl) ?_
 refine Lo u29 (Zb (.inl rfl) rfl) ?_
 refine Lo u29 (W12 rfl rfl rfl rfl) ?_
 refine Lo u29 (rfl) ?_
 refine Lo u29 (ZF rfl rfl rfl) ?_
 refine Zf (Zc ?_)
 refine Z4 rfl rfl ?_
 refine Zl (Zc (Ze (Za ?_)))
 refine Lo u29 (ZH rfl rfl) ?_
 refine Zf (Zc (Ze (Za ?_)))
 refine Lo u29 (Zb (.inl rfl) rfl) ?_
 refine Lo u29 (v_func [_, _] rfl rfl) ?_
 refine Lo u29 (rfl) ?_
 refine Lo u29 (Zw rfl rfl rfl) ?_
 refine Lo u29 (Zb (.inr rfl) rfl) ?_
 refine Zf (Zc (Ze (Za ?_)))
 refine Lo u29 (Zb (.inl rfl) rfl) ?_
 refine Lo u29 (Zb (.inl rfl) rfl) ?_
 refine Zt rfl rfl rfl (by exact from_in H g hs hn hr hR) ?_
 rintro _ _ ⟨b, X, w, rfl, rfl, hX, hw⟩
 refine Le u29 ?_
 refine Zf (Zc (Ze (Za ?_)))
 refine Lo u29 (W49 rfl rfl rfl rfl) ?_
 refine Lo u29 (Zb (.inr rfl) rfl) ?_
 refine Zf (Zc (Zj ?_))
 refine E_gh (.inr rfl) (Zg rfl rfl) (Gh.ansLV (B := H.set y (gaB (g + (frm (kpB ws rss) (kpG u ws rss) ws.length [] 0).1))) (BaseOk.set (BaseOk.refl _) _ rfl) (by rw [List.length_set]; exact hw) (VVal.underL_map (f := fzN) fun a => mapN_under _ a)) ?_
 exact ⟨rfl, rfl⟩
def wsP (p : Pb) : List (BitVec 64) := (List.range p.who.length).map (wrd p)
theorem wsP_len {p : Pb} : (wsP p).length = p.who.length := by unfold wsP; simp
theorem wsP_take {p : Pb} {k : Nat} (h : k < p.who.length) : (wsP p).take (k + 1) = (wsP p).take k ++ [wrd p k] := by
  rw [Yi (d := 0) (by rw [wsP_len]; exact h)]
  congr 2
  unfold wsP
  rw [List.getD_eq_getElem?_getD, List.getElem?_map, List.getElem?_range h]; rfl
abbrev nwB (u : Int) (n y b : Nat) (wv : VVal) (vs : List VVal) : Zd := [.dead, .cells vs true, .cells [iI u, wv, .slice (some (b, 0)) n n true 1, .ptr (some (y, 0))] true]
theorem rep1 (v : VVal) : ∀ n : Nat, ZC [v] n = List.replicate n v
  | 0 => rfl
  | n + 1 => by rw [List.replicate_succ, ← rep1 v n]; rfl
theorem vget {l : List VVal} {k : Nat} (h : k < l.length) : l[0 + k * 1]? = some (l.getD k .skip) := by
  rw [show 0 + k * 1 = k by omega, List.getD_eq_getElem?_getD, List.getElem?_eq_getElem h]; rfl
theorem rck_in {n : Int} {r : Rul} (h : rck n r = true) {s : Nat} (hs : s < r.steps.length) : 0 ≤ r.steps.getD s 0 ∧ r.steps.getD s 0 < n := by
  unfold rck at h
  rw [Bool.and_eq_true, Bool.and_eq_true] at h
  have := riseA_mem _ _ h.2.1 _ (mem_getI hs)
  omega
theorem spl_v {l : List VVal} {k : Nat} {w : VVal} (h : k < l.length) : Zv l (0 + k * 1) [w] = l.set k w := by
  rw [show 0 + k * 1 = k by omega]
  unfold Zv
  rw [List.set_eq_take_append_cons_drop, if_pos h]; simp
abbrev u72 {a0 a1 a2 a3 a4 a5 a6 a7 a8 a9 a10 a11 a12 a13 a14 a15 a16 a17 a18 a19 a20 a21 a22 a23 a24 a25 a26 a27 a28 a29 a30 a31 a32 a33 a34 a35 a36 a37 a38 a39 a40 a41 a42 a43 a44 a45 a46 a47 a48 a49 a50 a51 a52 a53 a54 a55 a56 a57 a58 a59 a60 a61 a62 a63 a64 a65 a66 a67 a68 a69 a70 a71 : VVal} : VEnv := a0 :: a1 :: a2 :: a3 :: a4 :: a5 :: a6 :: a7 :: a8 :: a9 :: a10 :: a11 :: a12 :: a13 :: a14 :: a15 :: a16 :: a17 :: a18 :: a19 :: a20 :: a21 :: a22 :: a23 :: a24 :: a25 :: a26 :: a27 :: a28 :: a29 :: a30 :: a31 :: a32 :: a33 :: a34 :: a35 :: a36 :: a37 :: a38 :: a39 :: a40 :: a41 :: a42 :: a43 :: a44 :: a45 :: a46 :: a47 :: a48 :: a49 :: a50 :: a51 :: a52 :: a53 :: a54 :: a55 :: a56 :: a57 :: a58 :: a59 :: a60 :: a61 :: a62 :: a63 :: a64 :: a65 :: a66 :: a67 :: a68 :: a69 :: a70 :: a71 :: []
theorem W4g {T : TypeId → Option VTy} {H : Zd} {op : Op} {ρ : Operand → VVal} {t : TypeId} {a : Operand} {y : VTy} {p v : VVal} (ho : op = .load t a) (ha : ρ a = p) (hy : T t = some y) (hd : Zk y.desc = false) (h : LdOk H p v := by first | exact .inl ⟨_, _, rfl, by exact vget (by rw [hlen]; exact hi)⟩ | exact .inr ⟨_, _, _, _, rfl, by exact getB rfl rfl, by exact vget (by rw [hlen]; exact hi)⟩) : vop T ρ H op = some (v, H) := v_ld ho ha hy hd h
theorem W4h {T : TypeId → Option VTy} {H : Zd} {op : Op} {ρ : VEnv} {H' : Zd} {t : TypeId} {a : Operand} {i : Nat} {v : VVal} {y : VTy} {b off : Nat} {cs new : List VVal} (ho : op = .store t a (.tmp i)) (hv : ρ[i]? = some v) (ha : ρ.eval a = .ptr (some (b, off))) (hy : T t = some y) (hx : v.cells = some new) (hn : new.length = y.size) (h1 : new.all VVal.one = true) (hb : H[b]? = some (.cells cs true) := by exact getB rfl rfl) (hl : off + new.length ≤ cs.length := by show 0 + _ * 1 + 1 ≤ vs.length; omega) (hH : H.set b (.cells (Zv cs off new) true) = H' := by exact (setB rfl (show 1 < 3 from by decide)).trans (by show H ++ List.set _ 1 (VBlk.cells (Zv vs (0 + ((p.rules.getD m r0).steps.getD s 0).toNat * 1) [_]) true) ++ _ = _; rw [spl_v (by rw [hlen]; exact hi)])) : vop T ρ.eval H op = some (.skip, H') := Z6 ho hv ha hy hx hn h1 hb hl hH
theorem W4i {S : V.Sys} {H : Zd} {fn : Func} {ex : Exit} {env : VEnv} {B L : Zd} {v : VVal} {R : VVal → Zd → Prop} (hx : ex = .normal ∨ ex = .ret) (hv : Z0 S.C.T env (B ++ L) fn.results = some v) (h : R v B) (hB : BaseOk H B := by exact BaseOk.refl _) (hu : v.under H.length = true := by exact huUnder hy _ _ _) : fnK S fn H R ex env (B ++ L) := E_app hx hv hB hu h
theorem New_spec {x : SW} (H : Zd) (p : Pb) (y : Nat) (hy : y < H.length) (g : Go.V.Good p) : F (psys x) 51 [.agg (pbB p), .ptr (some (y, 0))] H fun v G => v = huP p.users (fzW (wsP p)) (fzRR (Yd p)) y ∧ G = H := by
 have g1 := g.n12; have g3 := g.r32; have g5 := g.fx
 have gs := fun r hr => rck_len (g.ru r hr)
 refine Zs Tryd.func51 rfl u72 rfl ?_
 refine Ze (Za ?_)
 refine Lo u72 (Zw rfl rfl rfl) ?_
 refine Lo u72 (Zh (VVal.ptr none) (.inr rfl) rfl) ?_
 refine Zf (Zc (Ze ?_))
 refine Yy (Gh.freezePtrL (cs := pbB p) 2 0 rfl rfl rfl) ?_
 refine ZV [0, 1, 2, 3, 4, 5, 6, 7, 8, 9] #[0, 1, 0, 4, 12, 28, 0, 127, 255, 511] XH2 XH2 XH2 ?_
 refine Oo u72 .calm rfl (rfl) ?_
 refine Oo u72 .look rfl (W1t rfl rfl rfl rfl) ?_
 refine Oo u72 .calm rfl (rfl) ?_
 refine Oo u72 .look rfl (W1t rfl rfl rfl rfl) ?_
 refine Oo u72 .look rfl (rfl) ?_
 refine Oo u72 .grow rfl (v_makeSlice rfl rfl rfl rfl rfl (by decide) ⟨by omega, Int.le_refl _, by show (p.who.length : Int) * (24 : Nat) ≤ _; omega, by omega⟩) ?_
 refine Oo u72 .calm rfl (Zb (.inl rfl) rfl) ?_
 refine Oo u72 .calm rfl (rfl) ?_
 refine Oo u72 .grow rfl (Zw rfl rfl rfl) ?_
 refine Oo u72 .calm rfl (Zb (.inr rfl) rfl) ?_
 refine ZS [] XH2 (trivial) ?_
 refine Zc (Ze (Ze (Za ?_)))
 refine Lo u72 (rfl) ?_
 refine Lo u72 (W1t rfl rfl rfl rfl) ?_
 refine Lo u72 (rfl) ?_
 refine Lo u72 (Zh (VVal.int .i64 0) (.inl rfl) rfl) ?_
 refine Zf (Zc (Zo ?_))
 refine ZJ (mk 72 4722366482869632630747) (env' := u72) rfl ?_
 refine ZN (fun (k : Nat) => p.who.length - k) (fun (k : Nat) => [(23, iI (k : Nat))]) (fun (k : Nat) G => (k ≤ p.who.length) ∧ ∃ wv X, G = (H ++ nwB p.users p.who.length y (H.length + 1) wv (List.replicate p.who.length niS)) ++ X ∧ LV (H.length + 3) 1 X wv (((wsP p).take k).map iW) ((wsP p).take k).length) 0 rfl ?_ ?_
 ·refine ⟨?_, ⟨_, [], by rw [List.append_nil, ← rep1]; rfl, LV.nil _ _ _⟩⟩
  exact Nat.zero_le _
 rintro k _ ⟨hk, ⟨wv, X, rfl, hl⟩⟩
 refine ZZ (env' := u72) rfl ?_
 refine Ze (Za ?_)
 refine Lo u72 (rfl) ?_
 refine Zf (Zc (Ze ?_))
 refine Zm _ rfl (fun hc1 => ?_) (fun hc1 => ?_)
 ·try simp only [qB, qN] at hc1
  refine Zl (Zc (Ze (Zo (Ze (Za ?_)))))
  refine Lo u72 (Zb (.inl rfl) rfl) ?_
  refine Lo u72 (Zb (.inr rfl) rfl) ?_
  refine Zf (Zc ?_)
  refine ZV [0, 1, 2, 3, 4, 5, 6, 7, 8, 9, 10, 11, 12] #[0, 0, 2, 6, 14, 0, 0, 96, 224, 510, 1023, 2047, 4095] XH2 XH2 XH2 ?_
  refine Oo u72 .calm rfl (Zb (.inl rfl) rfl) ?_
  refine Oo u72 .calm rfl (Zb (.inl rfl) rfl) ?_
  refine Oo u72 .calm rfl (rfl) ?_
  refine Oo u72 .calm rfl (rfl) ?_
  refine Ye (env' := u72) (x := .look _ _) rfl rfl rfl (W1t rfl rfl rfl rfl) rfl rfl rfl ?_
  refine Oo u72 .look rfl (W1x rfl rfl rfl rfl rfl) ?_
  refine Oo u72 .calm rfl (Zb (.inl rfl) rfl) ?_
  refine ZX (env' := u72) rfl rfl rfl rfl rfl (by exact Word_spec _ _ _ (by omega) (by omega)) XH7 rfl rfl ?_
  refine Oo u72 .grow rfl (Zz rfl rfl (by decide) rfl) ?_
  refine O_opX .turn rfl rfl rfl (v_appXh rfl rfl rfl rfl rfl rfl rfl (by simp) hl rfl rfl (by decide) XH15 (by decide)) rfl rfl ?_
  rintro _ _ ⟨Y1, rfl, rfl, hY1, hY2, hY3⟩
  refine O_env (env' := u72) rfl ?_
  refine Oo u72 .calm rfl (rfl) ?_
  refine Oo u72 .calm rfl (rfl) ?_
  refine Oo u72 .turn rfl (W13 rfl rfl rfl rfl rfl rfl rfl) ?_
  refine ZS [_] (by rfl) (And.intro (And.intro (W1t rfl rfl rfl rfl) (W1t rfl rfl rfl rfl)) trivial) ?_
  refine Zy (Zc (Za ?_))
  refine Lo u72 (W14 rfl rfl rfl) ?_
  refine Lo u72 (Zb (.inl rfl) rfl) ?_
  refine Zf ?_
  refine ZD (mk 72 4722366482869632630747) (env' := u72) rfl ⟨k + 1, ?_, rfl, ?_⟩
  ·first | omega | (simp only []; omega)
  ·exact ⟨by omega, _, _, rfl, by rw [wsP_take (by omega)]; exact LV.pushW hY3⟩
 ·try simp only [qB, qN] at hc1
  refine ZR (ZP (ZI (ZQ (Zc (Ze (Ze ?_))))))
  obtain rfl : k = p.who.length := by omega
  rw [List.take_of_length_le (by rw [wsP_len]; omega)] at hl
  refine B_ghCell 2 1 hl rfl rfl (by simp) fun X1 _ _ => ?_
  refine Za ?_
  refine Lo u72 (rfl) ?_
  refine Lo u72 (W1t rfl rfl rfl rfl) ?_
  refine Lo u72 (rfl) ?_
  refine Lo u72 (Zh (VVal.int .i64 0) (.inl rfl) rfl) ?_
  refine Zf (Zc (Zo ?_))
  refine ZJ (mk 72 4722366475173063819231) (env' := u72) rfl ?_
  refine ZN (fun (m : Nat) => p.rules.length - m) (fun (m : Nat) => [(42, iI (m : Nat))]) (fun (m : Nat) G => (m ≤ p.rules.length) ∧ ∃ Z vs, G = (H ++ nwB p.users p.who.length y (H.length + 1) (fzW (wsP p)) vs) ++ Z ∧ RW rlB 3 (H.length + 3) Z vs (addR p.who.length p.rules m)) 0 rfl ?_ ?_
  ·refine ⟨?_, ⟨_, _, rfl, RW.init⟩⟩
   exact Nat.zero_le _
  rintro m _ ⟨hm, ⟨Z, vs, rfl, hr⟩⟩
  refine ZZ (env' := u72) rfl ?_
  refine Ze (Za ?_)
  refine Lo u72 (rfl) ?_
  refine Zf (Zc (Ze ?_))
  refine Zm _ rfl (fun hc2 => ?_) (fun hc2 => ?_)
  ·try simp only [qB, qN] at hc2
   refine Zl (Zc (Ze (Zo (Ze (Za ?_)))))
   refine Lo u72 (W18 rfl rfl rfl rfl rfl rfl rfl) ?_
   refine Lo u72 (W1x rfl rfl rfl rfl rfl) ?_
   refine Lo u72 (ZH rfl rfl) ?_
   refine Lo u72 (W13 rfl rfl rfl rfl rfl rfl rfl) ?_
   refine Zf (Zc (Ze ?_))
   refine Yy (Gh.freezeEnd (cs := rlB (p.rules.getD m r0)) 8 rfl rfl) ?_
   refine Za ?_
   refine Lo u72 (rfl) ?_
   refine Lo u72 (W1t rfl rfl rfl rfl) ?_
   refine Lo u72 (rfl) ?_
   refine Lo u72 (Zh (VVal.int .i64 0) (.inl rfl) rfl) ?_
   refine Zf (Zc (Zo ?_))
   refine ZJ (mk 72 4722365490010645331679) (env' := u72) rfl ?_
   refine ZN (fun (s : Nat) => (p.rules.getD m r0).steps.length - s) (fun (s : Nat) => [(49, iI (s : Nat))]) (fun (s : Nat) G => (s ≤ (p.rules.getD m r0).steps.length) ∧ ∃ Z vs, G = (H ++ nwB p.users p.who.length y (H.length + 1) (fzW (wsP p)) vs) ++ Z ∧ RW rlB 3 (H.length + 3) Z vs (addS (p.rules.getD m r0) (addR p.who.length p.rules m) s)) 0 rfl ?_ ?_
   ·refine ⟨?_, ⟨_, vs, rfl, hr.app _⟩⟩
    exact Nat.zero_le _
   rintro s _ ⟨hs, ⟨Z, vs, rfl, hr⟩⟩
   refine ZZ (env' := u72) rfl ?_
   refine Ze (Za ?_)
   refine Lo u72 (rfl) ?_
   refine Zf (Zc (Ze ?_))
   refine Zm _ rfl (fun hc3 => ?_) (fun hc3 => ?_)
   ·try simp only [qB, qN] at hc3
    refine Zl (Zc (Ze (Zo (Ze (Za ?_)))))
    refine Lo u72 (W18 rfl rfl rfl rfl rfl rfl rfl) ?_
    refine Lo u72 (W1t rfl rfl rfl rfl) ?_
    refine Lo u72 (Zb (.inr rfl) rfl) ?_
    refine Zf (Zc ?_)
    have hin := rck_in (g.ru _ (rul_mem (l := p.rules) (k := m) (by omega))) (s := s) (by omega)
    have hlen := hr.len
    have hi : ((p.rules.getD m r0).steps.getD s 0).toNat < (addS (p.rules.getD m r0) (addR p.who.length p.rules m) s).length := by rw [addS_len, addR_len]; omega
    have hv9 := hr.lv _ hi
    have hb1 := @addS_row (p.rules.getD m r0) (addR p.who.length p.rules m) ((p.rules.getD m r0).steps.getD s 0).toNat s
    have hb2 := addR_row (n := p.who.length) (i := ((p.rules.getD m r0).steps.getD s 0).toNat) gs (m := m) (by omega)
    have hb3 := gs _ (rul_mem (l := p.rules) (k := m) (by omega))
    refine ZV [0, 1, 2, 3, 4, 5, 6, 7, 8, 9, 10, 11, 12, 13, 14, 15, 16] #[0, 1, 3, 7, 0, 0, 32, 96, 224, 0, 992, 2016, 0, 4096, 16352, 32767, 65535] XH2 XH2 XH2 ?_
    refine Oo u72 .calm rfl (Zb (.inl rfl) rfl) ?_
    refine Oo u72 .calm rfl (rfl) ?_
    refine Oo u72 .calm rfl (rfl) ?_
    refine Ye (env' := u72) (x := .look _ _) rfl rfl rfl (W1t rfl rfl rfl rfl) rfl rfl rfl ?_
    refine Oo u72 .calm rfl (Zb (.inl rfl) rfl) ?_
    refine Oo u72 .calm rfl (Zb (.inl rfl) rfl) ?_
    refine Oo u72 .calm rfl (rfl) ?_
    refine Oo u72 .calm rfl (rfl) ?_
    refine Oo u72 .look rfl (W1t rfl rfl rfl rfl) ?_
    refine Oo u72 .calm rfl (Zb (.inl rfl) rfl) ?_
    refine Oo u72 .calm rfl (W1g rfl rfl rfl rfl rfl rfl rfl) ?_
    refine Oo u72 .look rfl (W4g rfl rfl rfl rfl) ?_
    refine Oo u72 .look rfl (W1x rfl rfl rfl rfl rfl) ?_
    refine Oo u72 .grow rfl (Zz rfl rfl (by decide) rfl) ?_
    refine O_opXI (fun _ G => .turn _ G) rfl rfl rfl (v_appXh rfl rfl rfl rfl rfl rfl rfl (by simp) hv9 rfl rfl (by decide) (by show (_ + 1) * 40 ≤ _ ∧ _ + 1 ≤ _; omega) (by decide)) (fun _ _ => rfl) ?_
    rintro _ _ ⟨Y1, rfl, rfl, hY1, hY2, hY3⟩
    refine O_env (env' := u72) rfl ?_
    refine Oo u72 .calm rfl (W1g rfl rfl rfl rfl rfl rfl rfl) ?_
    refine Oo u72 .turn rfl (W4h rfl rfl rfl rfl rfl rfl rfl) ?_
    refine ZS [_] (by rfl) (And.intro (And.intro (W1t rfl rfl rfl rfl) (W1t rfl rfl rfl rfl)) trivial) ?_
    refine Zy (Zc (Za ?_))
    refine Lo u72 (W14 rfl rfl rfl) ?_
    refine Lo u72 (Zb (.inl rfl) rfl) ?_
    refine Zf ?_
    refine ZD (mk 72 4722365490010645331679) (env' := u72) rfl ⟨s + 1, ?_, rfl, ?_⟩
    ·first | omega | (simp only []; omega)
    ·exact ⟨by omega, _, _, rfl, RW.step hr hi hY2 hY3⟩
   ·try simp only [qB, qN] at hc3
    refine ZR (ZP (ZI (ZQ (Zy (Zc (Za ?_))))))
    refine Lo u72 (W14 rfl rfl rfl) ?_
    refine Lo u72 (Zb (.inl rfl) rfl) ?_
    refine Zf ?_
    refine ZD (mk 72 4722366475173063819231) (env' := u72) rfl ⟨m + 1, ?_, rfl, ?_⟩
    ·first | omega | (simp only []; omega)
    ·(obtain rfl : s = (p.rules.getD m r0).steps.length := by omega); exact ⟨by omega, Z, vs, rfl, hr⟩
  ·try simp only [qB, qN] at hc2
   refine ZR (ZP (ZI (ZQ (Zc (Ze ?_)))))
   obtain rfl : m = p.rules.length := by omega
   refine B_ghRW 1 hr rfl (by simp) fun Z9 => ?_
   refine Yy (Gh.cellL (l := (Yd p).map fzR) 2 2 1 rfl rfl (by decide) rfl (cellsAt_all (by rw [List.length_map]; exact addR_len.symm)) (Nat.le_refl _)) ?_
   refine Yy (Gh.freezePtrL (cs := huC p.users (fzW (wsP p)) (.fsl ((Yd p).map fzR) p.who.length 1 false) y) 5 2 rfl rfl rfl) ?_
   rw [show huC p.users (fzW (wsP p)) (.fsl ((Yd p).map fzR) p.who.length 1 false) y = huC p.users (fzW (wsP p)) (fzRR (Yd p)) y by unfold fzRR; rw [show (Yd p).length = p.who.length from addR_len]]
   refine Za ?_
   refine Lo u72 (Zb (.inl rfl) rfl) ?_
   refine Lo u72 (Zb (.inr rfl) rfl) ?_
   refine Zf (Zc (Zj ?_))
   refine W4i (.inr rfl) (Zg rfl rfl) ?_
   exact ⟨rfl, rfl⟩
theorem W4j {S : V.Sys} {H : Zd} {fn : Func} {ex : Exit} {env : VEnv} {B L : Zd} {v : VVal} {R : VVal → Zd → Prop} (hx : ex = .normal ∨ ex = .ret) (hv : Z0 S.C.T env (B ++ L) fn.results = some v) (h : R v B) (hB : BaseOk H B := by exact XH32) (hu : v.under H.length = true := by first | rfl | exact rc_under _ _) : fnK S fn H R ex env (B ++ L) := E_app hx hv hB hu h
theorem Clip_spec {x : SW} (H : Zd) (us : List Nat) : F (psys x) 136 [fzN us] H fun v G => v = .fsl (rcN us) us.length 1 true ∧ G = H := by
 refine Zs Tryd.func136 rfl u9 rfl ?_
 refine Ze (Za ?_)
 refine Lo u9 (Zh (VVal.slice none 0 0 true 0) (.inr rfl) rfl) ?_
 refine Zf (Zc (Ze (Za ?_)))
 refine Lo u9 (Zb (.inl rfl) rfl) ?_
 refine Lo u9 (Zb (.inl rfl) rfl) ?_
 refine Lo u9 (rfl) ?_
 refine Lo u9 (Zb (.inl rfl) rfl) ?_
 refine Lo u9 (rfl) ?_
 refine Lo u9 (v_clipN rfl rfl rfl rfl rfl rfl rfl rfl) ?_
 refine Lo u9 (Zb (.inr rfl) rfl) ?_
 refine Zf (Zc (Zj ?_))
 refine W4j (.inr rfl) (Zg rfl rfl) ?_
 exact ⟨rfl, rfl⟩
abbrev eaD (r : Bool) : Zd := [.dead, .dead, .dead, .dead, .dead, .cells [.bool r] true, .dead]
def EaP (y : Nat) (K : Bool → Zd → Prop) (A L : Zd) (v : VVal) (G : Zd) : Prop := ∃ b A1 J, v = .bool b ∧ G = A1 ++ (L ++ J) ∧ A1.length = A.length ∧ K b A1 ∧ (b = true → ∃ g1, A1[y]? = some (gaB g1))
theorem hfull_in {x : SW} {H L : Zd} {u : Int} {ws rs : VVal} {y : Nat} {g : Gz} (hs : H[y]? = some (gaB g)) (l : List (BitVec 64)) (t : BitVec 64) (hl : l.length ≤ 1000000) : F (psys x) 87 [huP u ws rs y, fzW l, iW t] (H.set y (gaB (g + ⟨0, 1, 0⟩)) ++ L) fun v G =>
    (v = .bool true ∧ Yh l t = true ∧ G = H.set y (gaB (g + (⟨0, 1, 0⟩ + fuG l t))) ++ L) ∨ (v = .bool false ∧ Yh l t = false ∧ G = H.set y (gaB (g + (⟨0, 1, 0⟩ + fuG l t))) ++ L) := by
  have hy := ZO hs
  refine (hfull_spec _ y (g + ⟨0, 1, 0⟩) (Zq (List.getElem?_set_self hy)) l t hl).mono ?_
  rintro v G ⟨rfl, rfl⟩
  rw [Yj XH17, List.set_set, Gz.assoc]
  cases h : Yh l t
  · exact .inr ⟨rfl, rfl, rfl⟩
  · exact .inl ⟨rfl, rfl, rfl⟩
theorem ea_get {A A1 L Y : Zd} {n : Nat} {k : VBlk} (hA : A1.length = A.length) (hn : n = (A ++ L).length + 5) (h : Y[5]? = some k) : (A1 ++ (L ++ Y))[n]? = some k := by
  rw [hn, List.length_append, Nat.add_assoc]; exact getE (i := 5) hA rfl h
theorem ea_set {A A1 L Y : Zd} {n : Nat} {k : VBlk} (hA : A1.length = A.length) (hn : n = (A ++ L).length + 5) : (A1 ++ (L ++ Y)).set n k = A1 ++ (L ++ Y.set 5 k) := by
  rw [hn, List.length_append, Nat.add_assoc]; exact setE (i := 5) hA rfl
theorem set_add0 {A : Zd} {y : Nat} {g : Gz} (h : A[y]? = some (gaB g)) : A.set y (gaB (g + 0)) = A := by
  rw [Gz.add_zero, ← set_keep h]
theorem ea_end {S : V.Sys} {l y : Nat} {b : Bool} {A1 : Zd} {K : Bool → Zd → Prop} (hk : if b = true then (∃ g1, A1[y]? = some (gaB g1)) ∧ IterP S l y [] 0 A1 K else K false A1) : K b A1 ∧ (b = true → ∃ g1, A1[y]? = some (gaB g1)) := by
  cases b with
  | false => exact ⟨hk, fun e => by cases e⟩
  | true =>
    obtain ⟨⟨g2, hg2⟩, hk⟩ := hk
    have h := hk g2 hg2
    rw [set_add0 hg2] at h
    exact ⟨h, fun _ => ⟨g2, hg2⟩⟩
theorem each_in {x : SW} {A Z : Zd} {y l u : Nat} {hu : VVal} {rows : List (BitVec 64)} {us : List Nat} {t : BitVec 64} {K : Bool → Zd → Prop} {n c : Nat} (h : F (psys x) 121 [hu, fzW rows, fzN (us ++ [u]), iW t, .yield l] (A ++ (Z ++ [.dead])) (EaP y K A (Z ++ [.dead]))) (hn : n = us.length + 1) (hc : c = n) :
    F (psys x) 121 [hu, fzW rows, .slice (some (A.length + Z.length, 0)) n c false 1, iW t, .yield l] (A ++ (Z ++ [.cells (rcN us ++ [iI (u : Nat)]) true])) (EaP y K A (Z ++ [.dead])) := by
  subst hc; subst hn
  refine F.pre (Gh.freezeL (H := A) (L := Z ++ [.cells (rcN us ++ [iI (u : Nat)]) true]) (l := rcN (us ++ [u])) (vs' := [hu, fzW rows, fzN (us ++ [u]), iW t, .yield l]) 2 Z.length rfl get_end (by rw [← rcN_snoc]; exact cellsAt_all (by simp)) (Nat.le_refl _) (by simp [rcN_snoc])) ?_
  rw [set_end]; exact h
theorem W4k {T : TypeId → Option VTy} {H : Zd} {op : Op} {ρ : Operand → VVal} {t : TypeId} {a : Operand} {y : VTy} {p v : VVal} (ho : op = .load t a) (ha : ρ a = p) (hy : T t = some y) (hd : Zk y.desc = false) (h : LdOk H p v := by first | exact .inl ⟨_, _, rfl, by first | rfl | assumption⟩ | exact .inr ⟨_, _, _, _, rfl, XH23, by first | rfl | assumption⟩) : vop T ρ H op = some (v, H) := v_ld ho ha hy hd h
theorem W4m {T : TypeId → Option VTy} {H : Zd} {op : Op} {ρ : VEnv} {H' : Zd} {t : TypeId} {a : Operand} {i : Nat} {v : VVal} {y : VTy} {b off : Nat} {cs new : List VVal} (ho : op = .store t a (.tmp i)) (hv : ρ[i]? = some v) (ha : ρ.eval a = .ptr (some (b, off))) (hy : T t = some y) (hx : v.cells = some new) (hn : new.length = y.size) (h1 : new.all VVal.one = true) (hb : H[b]? = some (.cells cs true) := by exact ea_get (by assumption) rfl rfl) (hl : off + new.length ≤ cs.length := by exact XH25) (hH : H.set b (.cells (Zv cs off new) true) = H' := by exact ea_set (by assumption) rfl) : vop T ρ.eval H op = some (.skip, H') := Z6 ho hv ha hy hx hn h1 hb hl hH
theorem W4o {T : TypeId → Option VTy} {H : Zd} {op : Op} {ρ : Operand → VVal} {t : TypeId} {a : Operand} {y : VTy} {p v : VVal} (ho : op = .load t a) (ha : ρ a = p) (hy : T t = some y) (hd : Zk y.desc = false) (h : LdOk H p v := by first | exact .inl ⟨_, _, rfl, by exact Yw (α := BitVec 64) 0 (by omega)⟩ | exact .inr ⟨_, _, _, _, rfl, XH23, by exact Yw (α := BitVec 64) 0 (by omega)⟩) : vop T ρ H op = some (v, H) := v_ld ho ha hy hd h
theorem W4p {T : TypeId → Option VTy} {H : Zd} {op : Op} {ρ : Operand → VVal} {t : TypeId} {a : Operand} {y : VTy} {p v : VVal} (ho : op = .load t a) (ha : ρ a = p) (hy : T t = some y) (hd : Zk y.desc = false) (h : LdOk H p v := by first | exact .inl ⟨_, _, rfl, by first | rfl | assumption⟩ | exact .inr ⟨_, _, _, _, rfl, by exact Zq hg1, by first | rfl | assumption⟩) : vop T ρ H op = some (v, H) := v_ld ho ha hy hd h
theorem W4q {T : TypeId → Option VTy} {H : Zd} {op : Op} {ρ : VEnv} {H' : Zd} {t : TypeId} {a : Operand} {i : Nat} {v : VVal} {y : VTy} {b off : Nat} {cs new : List VVal} (ho : op = .store t a (.tmp i)) (hv : ρ[i]? = some v) (ha : ρ.eval a = .ptr (some (b, off))) (hy : T t = some y) (hx : v.cells = some new) (hn : new.length = y.size) (h1 : new.all VVal.one = true) (hb : H[b]? = some (.cells cs true) := by exact Zq hg1) (hl : off + new.length ≤ cs.length := by exact XH25) (hH : H.set b (.cells (Zv cs off new) true) = H' := by exact ga_p1 hg1) : vop T ρ.eval H op = some (.skip, H') := Z6 ho hv ha hy hx hn h1 hb hl hH
theorem W4s {P : Prop} (h : P := by first | exact ⟨true, A0, _, rfl, rfl, hA0, hI, fun _ => ⟨g1, hg1⟩⟩ | exact ⟨false, A0, _, rfl, rfl, hA0, hX, fun e => by cases e⟩) : P := h
theorem each_0 {x : SW} {u : Int} {ws rs : VVal} (y l : Nat) (rows : List (BitVec 64)) (hr : rows.length ≤ 1000000) (A L : Zd) (us : List Nat) (taken : BitVec 64) (g : Gz) (K : Bool → Zd → Prop) (hs : A[y]? = some (gaB g)) (hI : IterP (psys x) l y (tv (usT (rows.drop us.length) us taken)) (usT (rows.drop us.length) us taken).2 A K) (hl : us.length = rows.length) : F (psys x) 121 [huP u ws rs y, fzW rows, fzN us, iW taken, .yield l] (A ++ L) (EaP y K A L) := by
 have e5 : (A ++ L).length + 5 = A.length + (L.length + 5) := by rw [List.length_append]; omega
 have eA : A.length = A.length := rfl
 refine Zs Tryd.func121 rfl u67 rfl ?_
 refine Ze (Za ?_)
 refine Lo u67 (Zw rfl rfl rfl) ?_
 refine Lo u67 (Zw rfl rfl rfl) ?_
 refine Lo u67 (Zw rfl rfl rfl) ?_
 refine Lo u67 (Zw rfl rfl rfl) ?_
 refine Lo u67 (Zw rfl rfl rfl) ?_
 refine Lo u67 (ZH rfl rfl) ?_
 refine Zf (Zc (Ze ?_))
 refine Yy (Gh.freezePtrL (cs := [huP u ws rs y]) 5 0 rfl rfl rfl) ?_
 refine Yy (Gh.freezePtrL (cs := [fzW rows]) 6 1 rfl rfl rfl) ?_
 refine Yy (Gh.freezePtrL (cs := [fzN us]) 7 2 rfl rfl rfl) ?_
 refine Yy (Gh.freezePtrL (cs := [iW taken]) 8 3 rfl rfl rfl) ?_
 refine Yy (Gh.freezePtrL (cs := [.yield l]) 9 4 rfl rfl rfl) ?_
 refine Za ?_
 refine Lo u67 (W4k rfl rfl rfl rfl) ?_
 refine Lo u67 (rfl) ?_
 refine Lo u67 (ZH rfl rfl) ?_
 refine Lo u67 (W13 rfl rfl rfl rfl rfl rfl rfl) ?_
 refine Zf (Zc (Ze (Ze ?_)))
 refine Yy (Gh.freezePtrL (cs := [iI (us.length : Nat)]) 11 6 rfl rfl rfl) ?_
 refine B_heap (H' := A ++ (L ++ eaD false)) (by simp; rfl) ?_
 refine Za ?_
 refine Lo u67 (W4k rfl rfl rfl rfl) ?_
 refine Lo u67 (W4k rfl rfl rfl rfl) ?_
 refine Lo u67 (rfl) ?_
 refine Lo u67 (v_is true rfl (by rw [hl]; simp)) ?_
 refine Zf (Zc ?_)
 refine ZM rfl rfl ?_
 refine Ze ?_
 rw [List.drop_eq_nil_of_le (by omega)] at hI
 refine Za ?_
 refine Lo u67 (W4k rfl rfl rfl rfl) ?_
 refine Lo u67 (W4k rfl rfl rfl rfl) ?_
 refine L_callV rfl rfl rfl (by have h9 := hI g hs (L ++ eaD false); rw [show usT [] us taken = ([(0, us)], 0) from rfl] at h9; exact (set_add0 hs) ▸ h9) ?_
 rintro _ G ⟨b, A1, J1, rfl, hG, hA1, hk⟩; obtain rfl : G = A1 ++ (L ++ (eaD false ++ J1)) := hG.trans (by simp)
 refine Le u67 ?_
 refine Lo u67 (W4m rfl rfl rfl rfl rfl rfl rfl) ?_
 refine Zf (Zc (Zj (Zn ?_)))
 refine E_keep (.inr rfl) (vres_cell rfl rfl rfl rfl XH20 (by rfl)) ?_
 exact ⟨b, A1, _, rfl, rfl, hA1, ea_end hk⟩
theorem each_s {x : SW} {u : Int} {ws rs : VVal} (y l : Nat) (rows : List (BitVec 64)) (hr : rows.length ≤ 1000000) (n : Nat) (ih : ∀ (A L : Zd) (us : List Nat) (taken : BitVec 64) (g : Gz) (K : Bool → Zd → Prop) (hs : A[y]? = some (gaB g)) (hI : IterP (psys x) l y (tv (usT (rows.drop us.length) us taken)) (usT (rows.drop us.length) us taken).2 A K), us.length + n = rows.length → F (psys x) 121 [huP u ws rs y, fzW rows, fzN us, iW taken, .yield l] (A ++ L) (EaP y K A L)) (A L : Zd) (us : List Nat) (taken : BitVec 64) (g : Gz) (K : Bool → Zd → Prop) (hs : A[y]? = some (gaB g)) (hI : IterP (psys x) l y (tv (usT (rows.drop us.length) us taken)) (usT (rows.drop us.length) us taken).2 A K) (hl : us.length + (n + 1) = rows.length) : F (psys x) 121 [huP u ws rs y, fzW rows, fzN us, iW taken, .yield l] (A ++ L) (EaP y K A L) := by
 have e5 : (A ++ L).length + 5 = A.length + (L.length + 5) := by rw [List.length_append]; omega
 have eA : A.length = A.length := rfl
 refine Zs Tryd.func121 rfl u67 rfl ?_
 refine Ze (Za ?_)
 refine Lo u67 (Zw rfl rfl rfl) ?_
 refine Lo u67 (Zw rfl rfl rfl) ?_
 refine Lo u67 (Zw rfl rfl rfl) ?_
 refine Lo u67 (Zw rfl rfl rfl) ?_
 refine Lo u67 (Zw rfl rfl rfl) ?_
 refine Lo u67 (ZH rfl rfl) ?_
 refine Zf (Zc (Ze ?_))
 refine Yy (Gh.freezePtrL (cs := [huP u ws rs y]) 5 0 rfl rfl rfl) ?_
 refine Yy (Gh.freezePtrL (cs := [fzW rows]) 6 1 rfl rfl rfl) ?_
 refine Yy (Gh.freezePtrL (cs := [fzN us]) 7 2 rfl rfl rfl) ?_
 refine Yy (Gh.freezePtrL (cs := [iW taken]) 8 3 rfl rfl rfl) ?_
 refine Yy (Gh.freezePtrL (cs := [.yield l]) 9 4 rfl rfl rfl) ?_
 refine Za ?_
 refine Lo u67 (W4k rfl rfl rfl rfl) ?_
 refine Lo u67 (rfl) ?_
 refine Lo u67 (ZH rfl rfl) ?_
 refine Lo u67 (W13 rfl rfl rfl rfl rfl rfl rfl) ?_
 refine Zf (Zc (Ze (Ze ?_)))
 refine Yy (Gh.freezePtrL (cs := [iI (us.length : Nat)]) 11 6 rfl rfl rfl) ?_
 refine B_heap (H' := A ++ (L ++ eaD false)) (by simp; rfl) ?_
 refine Za ?_
 refine Lo u67 (W4k rfl rfl rfl rfl) ?_
 refine Lo u67 (W4k rfl rfl rfl rfl) ?_
 refine Lo u67 (rfl) ?_
 refine Lo u67 (v_is false rfl (by simp; omega)) ?_
 refine Zf (Zc ?_)
 refine Z4 rfl rfl ?_
 refine Zl (Zc (Ze (Ze ?_)))
 rw [show rows.drop us.length = rows.getD us.length 0 :: rows.drop (us.length + 1) by rw [List.drop_eq_getElem_cons (by omega), List.getD_eq_getElem?_getD, List.getElem?_eq_getElem (by omega)]; rfl, usT] at hI
 refine ZV [0, 1, 2, 3, 4, 5, 6, 7] #[0, 0, 3, 7, 0, 31, 63, 127] XH2 XH2 XH2 ?_
 refine Oo u67 .look rfl (W4k rfl rfl rfl rfl) ?_
 refine Oo u67 .look rfl (W4k rfl rfl rfl rfl) ?_
 refine Oo u67 .calm rfl (W18 rfl rfl rfl rfl rfl rfl rfl) ?_
 refine Oo u67 .look rfl (W4o rfl rfl rfl rfl) ?_
 refine Oo u67 .look rfl (W4k rfl rfl rfl rfl) ?_
 refine Oo u67 .calm rfl (v_andNotW rfl rfl rfl) ?_
 refine ZX (env' := u67) rfl rfl rfl rfl rfl (by exact hset_spec _ _) XH7 rfl rfl ?_
 refine ZX (env' := u67) rfl rfl rfl rfl rfl (by exact All_spec _ _) XH7 rfl rfl ?_
 refine ZS [] XH2 (trivial) ?_
 refine Zc (Zo ?_)
 refine ZJ (mk 67 147573952589139537951) (env' := u67) rfl ?_
 refine B_rangeM cI (pl (rows.getD us.length 0 &&& ~~~taken) 0) (fun l0 h => by cases h) rfl (fun l G R h => All1_spec _ _ _ _ h) (σ := {q : Zd × Zd // q.1.length = A.length}) (fun k s => s.1.1 ++ (L ++ ([.dead, .dead, .dead, .dead, .dead, .cells [.bool false] true, .dead] ++ k :: s.1.2))) ⟨(A, []), rfl⟩ (fun k => by simp) (fun k s => by rw [show (A ++ (L ++ eaD false)).length = A.length + (L.length + 7) by simp]; exact getE (i := 7) s.2 rfl rfl) (fun k k1 s => by rw [show (A ++ (L ++ eaD false)).length = A.length + (L.length + 7) by simp]; exact setE (i := 7) s.2 rfl) (fun pre s => ∃ z, (pl (rows.getD us.length 0 &&& ~~~taken) 0) = pre ++ z ∧ (∃ g1, s.1.1[y]? = some (gaB g1)) ∧ IterP (psys x) l y (tv (usF (fun u => usT (rows.drop (us.length + 1)) (us ++ [u]) (taken ||| 1#64 <<< u)) (rows.drop (us.length + 1)) taken z)) (usF (fun u => usT (rows.drop (us.length + 1)) (us ++ [u]) (taken ||| 1#64 <<< u)) (rows.drop (us.length + 1)) taken z).2 s.1.1 K) ?_ (fun j pre c s => (j = Code.ret ∧ (K false s.1.1))) rfl ?_ ?_ ?_
 ·exact ⟨_, rfl, ⟨g, hs⟩, hI⟩
 ·intro pre c post s hx hI kr kb hkr hkb
  obtain ⟨⟨A0, J0⟩, hA0⟩ := s
  try dsimp only at hI ⊢
  have hA0 : A0.length = A.length := hA0
  obtain ⟨z, hz, ⟨g1, hg1⟩, hI⟩ := hI
  obtain rfl : z = c :: post := List.append_cancel_left (hz.symm.trans hx)
  have hcx : c ∈ (pl (rows.getD us.length 0 &&& ~~~taken) 0) := by rw [hx]; simp
  obtain ⟨_, hc64, _⟩ := mem_pl.1 hcx
  rw [usF] at hI
  refine ZZ (env' := u67) rfl ?_
  refine Za ?_
  refine Lo u67 (Zb (.inr rfl) rfl) ?_
  refine Zf ?_
  refine ⟨rfl, ⟨(A0, J0), hA0⟩, rfl, ?_⟩
  try dsimp only
  refine Zo (Ze (Za ?_))
  refine Lo u67 (W4k rfl rfl rfl rfl) ?_
  refine Lo u67 (rfl) ?_
  refine Lo u67 (rfl) ?_
  refine Lo u67 (W4k rfl rfl rfl rfl) ?_
  refine Lo u67 (rfl) ?_
  refine Lo u67 (rfl) ?_
  refine Lo u67 (W4p rfl rfl rfl rfl) ?_
  refine Lo u67 (v_addW (b := 1#64) rfl rfl rfl) ?_
  refine Lo u67 (rfl) ?_
  refine Lo u67 (rfl) ?_
  refine Lo u67 (W4q rfl rfl rfl rfl rfl rfl rfl) ?_
  refine Zf (Zc (Ze ?_))
  refine B_drawP #[0, 0, 0, 4, 14, 0, 0, 64, 224, 511, 1023, 2047, 2047, 2047, 10239, 2047, 34815, 124927, 2047, 2047, 526335, 1837055, 2047, 8388607, 16777215, 33554431] XH2 ?_
  refine P_seg [0, 1, 2, 3, 4, 5, 6, 7, 8] (bef := #[0, 0, 0, 4, 14, 0, 0, 64, 224, 511, 1023, 2047, 2047, 2047, 10239, 2047, 34815, 124927, 2047, 2047, 526335, 1837055, 2047, 8388607, 16777215, 33554431]) XH2 XH2 XH2 ?_
  refine Oo u67 .look rfl (W4k rfl rfl rfl rfl) ?_
  refine Oo u67 .look rfl (W4k rfl rfl rfl rfl) ?_
  refine Oo u67 .look rfl (W4k rfl rfl rfl rfl) ?_
  refine Oo u67 .calm rfl (W14 rfl rfl rfl) ?_
  refine Oo u67 .calm rfl (v_wLo (k := us.length + 1) rfl rfl rfl rfl rfl rfl rfl (by simp) (by omega)) ?_
  refine Oo u67 .look rfl (W4k rfl rfl rfl rfl) ?_
  refine Oo u67 .calm rfl (Zb (.inl rfl) rfl) ?_
  refine Oo u67 .calm rfl (v_shl1 rfl rfl rfl XH3) ?_
  refine Oo u67 .calm rfl (v_orW rfl rfl rfl) ?_
  refine ZS [] XH2 (trivial) ?_
  refine P_call 9 (bef := #[0, 0, 0, 4, 14, 0, 0, 64, 224, 511, 1023, 2047, 2047, 2047, 10239, 2047, 34815, 124927, 2047, 2047, 526335, 1837055, 2047, 8388607, 16777215, 33554431]) XH2 XH2 rfl rfl rfl rfl (by exact hfull_in hg1 (rows.drop (us.length + 1)) _ (by rw [List.length_drop]; omega)) ?_
  rintro _ _ (⟨rfl, hf, rfl⟩ | ⟨rfl, hf, rfl⟩)
  ·skip
   refine P_env (env' := u67) rfl ?_
   refine P_seg [10, 11, 12, 13, 15, 16, 18, 19, 20, 21, 22, 14, 17] (bef := #[0, 0, 0, 4, 14, 0, 0, 64, 224, 511, 1023, 2047, 2047, 2047, 10239, 2047, 34815, 124927, 2047, 2047, 526335, 1837055, 2047, 8388607, 16777215, 33554431]) XH2 XH2 XH2 ?_
   refine Oo u67 .calm rfl (Zb (.inl rfl) rfl) ?_
   refine Ye (env' := u67) (x := .look _ _) rfl rfl rfl (W4k rfl rfl rfl rfl) rfl rfl rfl ?_
   refine Ye (env' := u67) (x := .look _ _) rfl rfl rfl (W4k rfl rfl rfl rfl) rfl rfl rfl ?_
   refine Oo u67 .look rfl (W4k rfl rfl rfl rfl) ?_
   refine Oo u67 .calm rfl (Zb (.inl rfl) rfl) ?_
   refine Ye (env' := u67) (x := .grow _) rfl rfl rfl (Zz rfl rfl (by decide) rfl) rfl rfl rfl ?_
   refine Ye (env' := u67) (x := .look _ _) rfl rfl rfl (W4k rfl rfl rfl rfl) rfl rfl rfl ?_
   refine Oo u67 .calm rfl (Zb (.inl rfl) rfl) ?_
   refine Oo u67 .calm rfl (v_shl1 rfl rfl rfl XH3) ?_
   refine Oo u67 .calm rfl (v_orW rfl rfl rfl) ?_
   refine Ye (env' := u67) (x := .look _ _) rfl rfl rfl (W4k rfl rfl rfl rfl) rfl rfl rfl ?_
   refine ZX (env' := u67) rfl rfl rfl rfl rfl (by exact Clip_spec _ _) XH7 rfl rfl ?_
   refine Ye (env' := u67) (x := .turn _ _) rfl rfl rfl (v_appFX (c := iI ((c : Nat) : Int)) rfl rfl rfl rfl rfl rfl rfl rfl get_end rfl (by simp) (by show (us.length + 1) * 8 ≤ _ ∧ _; omega)) rfl rfl rfl ?_
   refine ZS [_, _, _, _, _, _, _, _, _] (by rfl) (And.intro (And.intro (W4k rfl rfl rfl rfl) (W4k rfl rfl rfl rfl)) (And.intro (And.intro (W4k rfl rfl rfl rfl) (W4k rfl rfl rfl rfl)) (And.intro (And.intro (W4k rfl rfl rfl rfl) (W4k rfl rfl rfl rfl)) (And.intro (And.intro (W4k rfl rfl rfl rfl) (W4k rfl rfl rfl rfl)) (And.intro ((by first | exact rfl | simp)) (And.intro (And.intro (W4k rfl rfl rfl rfl) (W4k rfl rfl rfl rfl)) (And.intro (And.intro (W4k rfl rfl rfl rfl) (W4k rfl rfl rfl rfl)) (And.intro (And.intro (W4k rfl rfl rfl rfl) (W4k rfl rfl rfl rfl)) (And.intro (And.intro (W4k rfl rfl rfl rfl) (W4k rfl rfl rfl rfl)) trivial))))))))) ?_
   refine P_call 23 (bef := #[0, 0, 0, 4, 14, 0, 0, 64, 224, 511, 1023, 2047, 2047, 2047, 10239, 2047, 34815, 124927, 2047, 2047, 526335, 1837055, 2047, 8388607, 16777215, 33554431]) XH2 XH2 rfl rfl rfl rfl (by have hIf := hI; rw [if_pos (show Yh _ (taken ||| 1#64 <<< c) = true from hf)] at hIf; have hIc := IterP.catT (xs := (usT (rows.drop (us.length + 1)) (us ++ [c]) (taken ||| 1#64 <<< c)).1) (da := (usT (rows.drop (us.length + 1)) (us ++ [c]) (taken ||| 1#64 <<< c)).2) (IterP.addF hg1 hIf); exact each_in (ih _ _ (us ++ [c]) (taken ||| 1#64 <<< c) (g1 + (⟨0, 1, 0⟩ + fuG (rows.drop (us.length + 1)) (taken ||| 1#64 <<< c))) _ (List.getElem?_set_self (ZO hg1)) (by rw [List.length_append]; exact hIc) (by simp; omega)) rfl rfl) ?_
   rintro _ G ⟨b, A2, J2, rfl, hG, hA2, hk2, hg2⟩; have hA3 : A2.length = A.length := hA2.trans (by rw [List.length_set]; exact hA0); obtain rfl : G = A2 ++ (L ++ ([.dead, .dead, .dead, .dead, .dead, .cells [.bool false] true, .dead] ++ kb :: (J0 ++ [.cells [iI (c : Nat)] true, .dead] ++ J2))) := hG.trans (by simp; rfl); cases b; rotate_left
   ·skip
    refine P_env (env' := u67) rfl ?_
    refine P_seg [24, 25] (bef := #[0, 0, 0, 4, 14, 0, 0, 64, 224, 511, 1023, 2047, 2047, 2047, 10239, 2047, 34815, 124927, 2047, 2047, 526335, 1837055, 2047, 8388607, 16777215, 33554431]) XH2 XH2 XH2 ?_
    refine Oo u67 .calm rfl (rfl) ?_
    refine Oo u67 .calm rfl (ZE rfl rfl rfl) ?_
    refine ZS [] XH2 (trivial) ?_
    refine P_end XH2 ?_
    refine Zc ?_
    refine Z4 rfl rfl ?_
    refine Zl (Zy ?_)
    refine ⟨⟨(A2, _), hA3⟩, rfl, .inl ⟨rfl, ?_⟩⟩
    exact ⟨post, by rw [hx, List.append_assoc]; rfl, hg2 rfl, hk2⟩
   ·skip
    refine P_env (env' := u67) rfl ?_
    refine P_seg [24, 25] (bef := #[0, 0, 0, 4, 14, 0, 0, 64, 224, 511, 1023, 2047, 2047, 2047, 10239, 2047, 34815, 124927, 2047, 2047, 526335, 1837055, 2047, 8388607, 16777215, 33554431]) XH2 XH2 XH2 ?_
    refine Oo u67 .calm rfl (rfl) ?_
    refine Oo u67 .calm rfl (ZE rfl rfl rfl) ?_
    refine ZS [] XH2 (trivial) ?_
    refine P_end XH2 ?_
    refine Zc ?_
    refine ZM rfl rfl ?_
    refine Ze (Za ?_)
    refine Lo u67 (Ym (VVal.bool false) rfl rfl rfl rfl rfl rfl rfl XH20 XH4 (by exact ea_set (by assumption) rfl)) ?_
    refine Zf (Zc (Zj (ZB ?_)))
    refine ⟨⟨(A2, _), hA3⟩, rfl, .inr ⟨Code.ret, rfl, ⟨rfl, ?_⟩⟩⟩
    exact hk2
  ·skip
   refine P_env (env' := u67) rfl ?_
   refine P_seg [10, 11, 12, 13, 15, 16, 18, 19, 20, 21, 22, 14, 17] (bef := #[0, 0, 0, 4, 14, 0, 0, 64, 224, 511, 1023, 2047, 2047, 2047, 10239, 2047, 34815, 124927, 2047, 2047, 526335, 1837055, 2047, 8388607, 16777215, 33554431]) XH2 XH2 XH2 ?_
   refine Oo u67 .calm rfl (Zb (.inl rfl) rfl) ?_
   refine Of u67 rfl ?_
   refine Of u67 rfl ?_
   refine Of u67 rfl ?_
   refine Of u67 rfl ?_
   refine Of u67 rfl ?_
   refine Of u67 rfl ?_
   refine Of u67 rfl ?_
   refine Of u67 rfl ?_
   refine Of u67 rfl ?_
   refine Of u67 rfl ?_
   refine Of u67 rfl ?_
   refine Of u67 rfl ?_
   refine ZS [] XH2 (trivial) ?_
   refine P_seg [23, 24, 25] (bef := #[0, 0, 0, 4, 14, 0, 0, 64, 224, 511, 1023, 2047, 2047, 2047, 10239, 2047, 34815, 124927, 2047, 2047, 526335, 1837055, 2047, 8388607, 16777215, 33554431]) XH2 XH2 XH2 ?_
   refine Of u67 rfl ?_
   refine Of u67 rfl ?_
   refine Oo u67 .calm rfl (Zu (VVal.bool false) rfl rfl rfl) ?_
   refine ZS [] XH2 (trivial) ?_
   refine P_end XH2 ?_
   refine Zc ?_
   refine Z4 rfl rfl ?_
   refine Zl (Zy ?_)
   refine ⟨⟨(A0.set y (gaB (g1 + (⟨0, 1, 0⟩ + fuG (rows.drop (us.length + 1)) (taken ||| 1#64 <<< c)))), J0), by rw [List.length_set]; exact hA0⟩, rfl, .inl ⟨rfl, ?_⟩⟩
   exact ⟨post, by rw [hx, List.append_assoc]; rfl, ⟨_, List.getElem?_set_self (ZO hg1)⟩, by rw [if_neg (nof (show Yh _ (taken ||| 1#64 <<< c) = false from hf))] at hI; exact IterP.addF hg1 hI⟩
 ·intro s k hk hI
  obtain ⟨⟨A0, J0⟩, hA0⟩ := s
  try dsimp only at hI ⊢
  have hA0 : A0.length = A.length := hA0
  obtain ⟨z, hz, ⟨g1, hg1⟩, hI⟩ := hI
  obtain rfl : z = [] := by simpa using hz
  have hI := hI g1 hg1
  rw [show usF _ _ _ [] = ([], 0) from rfl, set_add0 hg1] at hI
  refine Zy (Zc (Ze (Za ?_)))
  refine Lo u67 (Ym (VVal.bool true) rfl rfl rfl rfl rfl rfl rfl XH20 XH4 (by exact ea_set (by assumption) rfl)) ?_
  refine Zf (Zc (Zj ?_))
  refine E_keep (.inr rfl) (vres_cell rfl rfl rfl rfl XH20 (by rfl)) ?_
  exact W4s
 ·rintro j pre c post s k hk hx (⟨rfl, hX⟩)
  obtain ⟨⟨A0, J0⟩, hA0⟩ := s
  try dsimp only
  have hA0 : A0.length = A.length := hA0
  refine J_ret ?_
  refine ZB (Zn ?_)
  refine E_keep (.inr rfl) (vres_cell rfl rfl rfl rfl XH20 (by rfl)) ?_
  exact W4s
theorem each_spec {x : SW} {u : Int} {ws rs : VVal} (y l : Nat) (rows : List (BitVec 64)) (hr : rows.length ≤ 1000000) : ∀ (n : Nat) (A L : Zd) (us : List Nat) (taken : BitVec 64) (g : Gz) (K : Bool → Zd → Prop) (hs : A[y]? = some (gaB g)) (hI : IterP (psys x) l y (tv (usT (rows.drop us.length) us taken)) (usT (rows.drop us.length) us taken).2 A K), us.length + n = rows.length → F (psys x) 121 [huP u ws rs y, fzW rows, fzN us, iW taken, .yield l] (A ++ L) (EaP y K A L)
  | 0, A, L, us, taken, g, K, hs, hI, hl => each_0 y l rows hr A L us taken g K hs hI hl
  | n + 1, A, L, us, taken, g, K, hs, hI, hl => each_s y l rows hr n (fun A L us taken g K a b c => each_spec y l rows hr n A L us taken g K a b c) A L us taken g K hs hI hl
end Go.Proofs.YtenkjadobkjaeaaDoor.VT
