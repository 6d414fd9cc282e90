/- Proved: Rows.TallyBoundsCardSaid, the statement TallyBounds with its card, of the given program at the commit; no conditions beyond those in the statement. -/
import Derived.Test.YtenkjadobkjaeaaDoorC10x13
set_option autoImplicit false
set_option linter.unusedVariables false
set_option linter.unusedSimpArgs false
set_option maxHeartbeats 4000000
set_option maxRecDepth 100000
namespace Go.Proofs.YtenkjadobkjaeaaDoor.VT
open Go Go.V Go.RowKit
abbrev u27 {a0 a1 a2 a3 a4 a5 a6 a7 a8 a9 a10 a11 a12 a13 a14 a15 a16 a17 a18 a19 a20 a21 a22 a23 a24 a25 a26 : VVal} : VEnv := a0 :: a1 :: a2 :: a3 :: a4 :: a5 :: a6 :: a7 :: a8 :: a9 :: a10 :: a11 :: a12 :: a13 :: a14 :: a15 :: a16 :: a17 :: a18 :: a19 :: a20 :: a21 :: a22 :: a23 :: a24 :: a25 :: a26 :: []
theorem W56 {T : TypeId → Option VTy} {H : Ze} {op : Op} {ρ : Operand → VVal} {t : TypeId} {a : Operand} {y : VTy} {p v : VVal} (ho : op = .load t a) (ha : ρ a = p) (hy : T t = some y) (hd : Zm y.desc = false) (h : LdOk H p v := by first | exact .inl ⟨_, _, rfl, by exact mx0 hp h0⟩ | exact .inr ⟨_, _, _, _, rfl, XH47, by exact mx0 hp h0⟩) : vop T ρ H op = some (v, H) := v_ld ho ha hy hd h
theorem szP_max {a : List Nat} (hp : Pat a) {k : Nat} (h : k < a.length) : szP a (k + 1) = max (szP a k) (a.getD k 0 + 1) := by
  have := hp k h
  rw [szP]; split <;> omega
theorem mx0 {a : List Nat} (hp : Pat a) (h0 : 0 < a.length) : (a.map fun n : Nat => iI (n : Int))[(0 : Int).toNat * 1]? = some (iI ((szP a 1 : Nat) - 1 : Int)) := by
  have h := fget (f := fun n : Nat => iI (n : Int)) (l := a) (n := 0) 0 (by omega)
  have h1 := szP_max hp h0
  have h2 := hp 0 h0
  rw [h]
  congr 2
  show ((a.getD 0 0 : Nat) : Int) = _
  rw [h1]
  have : szP a 0 = 0 := rfl
  omega
theorem pLegal_spec {x : SW} (H : Ze) (a : List Nat) (hp : Pat a) (hl : a.length ≤ 25) : F (psys x) 110 [fzN a] H fun v G => v = .bool true ∧ G = H := by
 refine Zr Tryd.func110 rfl u27 rfl ?_
 refine Zd (Za ?_)
 refine Lo u27 (Zg (VVal.bool false) (.inr rfl) rfl) ?_
 refine Zf (Zc (Zd (Zd (Za ?_))))
 refine Lo u27 (Zb (.inl rfl) rfl) ?_
 refine Lo u27 (rfl) ?_
 refine Lo u27 (Yy false rfl (by simp; omega)) ?_
 refine Zf (Zc ?_)
 refine ZV rfl rfl ?_
 refine Zk (Zc (Zd (Za ?_)))
 refine Lo u27 (Zg (VVal.int .i64 0) (.inr rfl) rfl) ?_
 refine Zf (Zc (Zd (Zd (Za ?_))))
 refine Lo u27 (Zb (.inl rfl) rfl) ?_
 refine Lo u27 (rfl) ?_
 refine Lo u27 (Zg (VVal.int .i64 0) (.inl rfl) rfl) ?_
 refine Zf (Zc (Zj ?_))
 refine ZC (mk 27 134214135) (env' := u27) rfl ?_
 refine ZJ (fun (k : Nat) => a.length - k) (fun (k : Nat) => [(3, iI (szP a k : Nat)), (11, iI (k : Nat))]) (fun (k : Nat) G => (k ≤ a.length) ∧ G = H ++ []) 0 rfl ?_ ?_
 ·refine ⟨?_, rfl⟩
  exact Nat.zero_le _
 rintro k _ ⟨hk, rfl⟩
 refine ZU (env' := u27) rfl ?_
 refine Zd (Za ?_)
 refine Lo u27 (rfl) ?_
 refine Zf (Zc (Zd ?_))
 refine Zo _ rfl (fun hc1 => ?_) (fun hc1 => ?_)
 ·try simp only [qB, qN] at hc1
  refine Zk (Zc (Zd (Zj (Zd (Za ?_)))))
  refine Lo u27 (W18 rfl rfl rfl rfl rfl rfl rfl) ?_
  refine Lo u27 (W4c rfl rfl rfl rfl) ?_
  refine Lo u27 (Zb (.inr rfl) rfl) ?_
  refine Zf (Zc (Zd (Zd ?_)))
  have hpk := hp k (by omega)
  have hsz := @Y4 a k
  have hE := szP_max hp (k := k) (by omega)
  refine Za ?_
  refine Lo u27 (Zb (.inl rfl) rfl) ?_
  refine Lo u27 (Yy false rfl (by simp)) ?_
  refine Lo u27 (Zb (.inl rfl) rfl) ?_
  refine Lo u27 (Zb (.inl rfl) rfl) ?_
  refine Lo u27 (Zb (.inl rfl) rfl) ?_
  refine Lo u27 (Yy false rfl (decide_eq_false (by omega))) ?_
  refine Lo u27 (ZQ rfl rfl rfl) ?_
  refine Zf (Zc ?_)
  refine ZV rfl rfl ?_
  refine Zk (Zc (Za ?_))
  refine Lo u27 (Zb (.inl rfl) rfl) ?_
  refine Lo u27 (Zb (.inl rfl) rfl) ?_
  refine Lo u27 (W14 rfl rfl rfl) ?_
  refine Lo u27 (v_val (u := iI (szP a (k + 1) : Nat)) rfl (congrArg iI (show (if (((a.getD k 0 : Nat) : Int) + 1) > ((szP a k : Nat) : Int) then (((a.getD k 0 : Nat) : Int) + 1) else ((szP a k : Nat) : Int)) = ((szP a (k + 1) : Nat) : Int) by split <;> omega))) ?_
  refine Lo u27 (Zb (.inr rfl) rfl) ?_
  refine Zf (Zu (Zc (Za ?_)))
  refine Lo u27 (W14 rfl rfl rfl) ?_
  refine Lo u27 (Zb (.inl rfl) rfl) ?_
  refine Zf ?_
  refine ZD (mk 27 134214135) (env' := u27) rfl ⟨k + 1, ?_, rfl, ?_⟩
  ·first | omega | (simp only []; omega)
  ·exact ⟨by omega, rfl⟩
 ·try simp only [qB, qN] at hc1
  refine ZP (ZR (ZH (ZO (Zc (Zd (Za ?_))))))
  refine Lo u27 (Zg (VVal.bool true) (.inr rfl) rfl) ?_
  refine Zf (Zc (Zl ?_))
  refine W10 (.inr rfl) (Zi rfl rfl) ?_
  exact ⟨rfl, rfl⟩
theorem sMax_spec {x : SW} (H : Ze) (a : List Nat) (hp : Pat a) (h0 : 0 < a.length) (hl : a.length ≤ 25) : F (psys x) 111 [fzN a] H fun v G => v = iI ((szP a a.length : Nat) - 1 : Int) ∧ G = H := by
 refine Zr Tryd.func111 rfl u25 rfl ?_
 refine Zd (Za ?_)
 refine Lo u25 (Zg (VVal.int .i64 0) (.inr rfl) rfl) ?_
 refine Zf (Zc (Zd (Zd (Za ?_))))
 refine Lo u25 (Zb (.inl rfl) rfl) ?_
 refine Lo u25 (rfl) ?_
 refine Lo u25 (Yy false rfl (decide_eq_false (by omega))) ?_
 refine Zf (Zc ?_)
 refine ZV rfl rfl ?_
 refine Zk (Zc (Zd (Za ?_)))
 refine Lo u25 (Zb (.inl rfl) rfl) ?_
 refine Lo u25 (W18 rfl rfl rfl rfl rfl rfl rfl) ?_
 refine Lo u25 (W56 rfl rfl rfl rfl) ?_
 refine Lo u25 (Zb (.inr rfl) rfl) ?_
 refine Zf (Zc (Zd (Zd (Za ?_))))
 refine Lo u25 (Zg (VVal.int .i64 1) (.inr rfl) rfl) ?_
 refine Zf (Zc (Zj ?_))
 refine ZC (mk 25 33554406) (env' := u25) rfl ?_
 refine ZJ (fun (i : Nat) => a.length - i) (fun (i : Nat) => [(3, iI ((szP a i : Nat) - 1 : Int)), (4, iI (i : Nat))]) (fun (i : Nat) G => (1 ≤ i ∧ i ≤ a.length) ∧ G = H ++ []) 1 rfl ?_ ?_
 ·refine ⟨?_, rfl⟩
  exact ⟨Nat.le_refl _, h0⟩
 rintro i _ ⟨⟨hi1, hi⟩, rfl⟩
 refine ZU (env' := u25) rfl ?_
 refine Zd (Zd (Za ?_))
 refine Lo u25 (Zb (.inl rfl) rfl) ?_
 refine Lo u25 (Zb (.inl rfl) rfl) ?_
 refine Lo u25 (rfl) ?_
 refine Lo u25 (rfl) ?_
 refine Zf (Zc ?_)
 refine Zo _ rfl (fun hc1 => ?_) (fun hc1 => ?_)
 ·try simp only [qB, qN] at hc1
  refine Zk (Zc (Zd (Zj ?_)))
  have hpk := hp i (by omega)
  have hsz := @Y4 a i
  have hE := szP_max hp (k := i) (by omega)
  refine Za ?_
  refine Lo u25 (Zb (.inl rfl) rfl) ?_
  refine Lo u25 (Zb (.inl rfl) rfl) ?_
  refine Lo u25 (Zb (.inl rfl) rfl) ?_
  refine Lo u25 (W18 rfl rfl rfl rfl rfl rfl rfl) ?_
  refine Lo u25 (W4c rfl rfl rfl rfl) ?_
  refine Lo u25 (v_val (u := iI ((szP a (i + 1) : Nat) - 1 : Int)) rfl (congrArg iI (show (if ((a.getD i 0 : Nat) : Int) > ((szP a i : Nat) : Int) - 1 then ((a.getD i 0 : Nat) : Int) else ((szP a i : Nat) : Int) - 1) = ((szP a (i + 1) : Nat) : Int) - 1 by split <;> omega))) ?_
  refine Lo u25 (Zb (.inr rfl) rfl) ?_
  refine Zf (Zu (Zc (Za ?_)))
  refine Lo u25 (Zb (.inl rfl) rfl) ?_
  refine Lo u25 (W14 rfl rfl rfl) ?_
  refine Lo u25 (Zb (.inr rfl) rfl) ?_
  refine Zf ?_
  refine ZD (mk 25 33554406) (env' := u25) rfl ⟨i + 1, ?_, rfl, ?_⟩
  ·first | omega | (simp only []; omega)
  ·exact ⟨⟨by omega, by omega⟩, rfl⟩
 ·try simp only [qB, qN] at hc1
  refine ZP (ZR (ZH (ZO (Zc (Zd (Za ?_))))))
  refine Lo u25 (Zb (.inl rfl) rfl) ?_
  refine Lo u25 (Zb (.inr rfl) rfl) ?_
  refine Zf (Zc (Zl ?_))
  refine W10 (.inr rfl) (Zi rfl rfl) ?_
  obtain rfl : i = a.length := by omega
  exact ⟨rfl, rfl⟩
theorem pSize_spec {x : SW} (H : Ze) (a : List Nat) (hp : Pat a) (hl : a.length ≤ 25) : F (psys x) 70 [fzN a] H fun v G => v = iI (szP a a.length : Nat) ∧ G = H := by
 have hsz := @Y4 a a.length
 refine Zr Tryd.func70 rfl u14 rfl ?_
 refine Zd (Za ?_)
 refine Lo u14 (Zg (VVal.int .i64 0) (.inr rfl) rfl) ?_
 refine Zf (Zc (Zd (Zd (Za ?_))))
 refine Lo u14 (Zb (.inl rfl) rfl) ?_
 refine Zn rfl rfl rfl (by exact pLegal_spec _ _ (by assumption) (by omega)) ?_
 rintro _ _ ⟨rfl, rfl⟩
 refine Le u14 ?_
 refine Lo u14 (Yy false rfl rfl) ?_
 refine Lo u14 (Zb (.inl rfl) rfl) ?_
 refine Lo u14 (Zb (.inl rfl) rfl) ?_
 refine Lo u14 (rfl) ?_
 refine Lo u14 (rfl) ?_
 refine Lo u14 (ZQ rfl rfl rfl) ?_
 refine Zf (Zc ?_)
 refine Zo _ rfl (fun hc1 => ?_) (fun hc1 => ?_)
 ·try simp only [qB, qN] at hc1
  refine Zd (Za ?_)
  refine Lo u14 (Zg (VVal.int .i64 0) (.inr rfl) rfl) ?_
  refine Zf (Zc (Zl (Zt ?_)))
  refine W10 (.inr rfl) (Zi rfl rfl) ?_
  exact ⟨congrArg iI (by omega), rfl⟩
 ·try simp only [qB, qN] at hc1
  refine Zk (Zc (Zd (Za ?_)))
  refine Lo u14 (Zb (.inl rfl) rfl) ?_
  refine Zn rfl rfl rfl (by exact sMax_spec _ _ (by assumption) (by omega) (by omega)) ?_
  rintro _ _ ⟨rfl, rfl⟩
  refine Le u14 ?_
  refine Lo u14 (W14 rfl rfl rfl) ?_
  refine Lo u14 (Zb (.inr rfl) rfl) ?_
  refine Zf (Zc (Zl ?_))
  refine W10 (.inr rfl) (Zi rfl rfl) ?_
  exact ⟨congrArg iI (by omega), rfl⟩
abbrev SzS : Type := Nat × Nat × Bool
def szN1 (s : SzS) (n : Nat) : SzS := (min (if s.2.2 = true then s.1 else n) n, max s.2.1 n, true)
def szA (l : List (List Nat)) : SzS := l.foldl (fun s a => szN1 s (szP a a.length)) (0, 0, false)
theorem szA_snoc {l : List (List Nat)} {a : List Nat} : szA (l ++ [a]) = szN1 (szA l) (szP a a.length) := by unfold szA; rw [List.foldl_append]; rfl
theorem tSizes_spec {x : SW} (H : Ze) (p : Pb) (hp : PbL p) : F (psys x) 39 [.agg (pbB p)] H fun v G => v = .tuple [iI ((szA (ptP p)).1 : Nat), iI ((szA (ptP p)).2.1 : Nat), .bool (szA (ptP p)).2.2] ∧ G = H := by
 refine Zr Tryd.func39 rfl u25 rfl ?_
 refine Zd (Za ?_)
 refine Lo u25 (Zy rfl rfl rfl) ?_
 refine Lo u25 (ZA rfl rfl) ?_
 refine Lo u25 (ZA rfl rfl) ?_
 refine Lo u25 (ZA rfl rfl) ?_
 refine Zf (Zc (Zd (Zd ?_)))
 refine Yp (Gh.freezePtrL (cs := pbB p) 1 0 rfl rfl rfl) ?_
 refine Za ?_
 refine Lo u25 (W11 rfl rfl rfl rfl rfl) ?_
 refine Zn rfl rfl rfl (by exact tpat_spec _ p) ?_
 rintro _ _ ⟨rfl, rfl⟩
 refine Le u25 ?_
 refine Zf (Zc (Zj ?_))
 refine ZC (mk 25 33554147) (env' := u25) rfl ?_
 refine B_rangeJ (fvP p) 2 (fun _ => rfl) (ptP p) (fun l0 h => by cases h) rfl (fun l9 G9 K9 hI9 => tpat1_spec l9 p hp G9 K9 hI9) (σ := SzS) (fun k s => H ++ [.dead, .cells [iI (s.1 : Nat)] true, .cells [iI (s.2.1 : Nat)] true, .cells [.bool s.2.2] true, k]) (0, 0, false) (fun k => by rw [List.append_assoc]; rfl) (fun k s => by simp) (fun k s => by rw [show (H ++ _ : Ze).length = H.length + 4 by simp]; exact ZB rfl rfl) (fun k k1 s => by rw [show (H ++ _ : Ze).length = H.length + 4 by simp]; exact ZF rfl) (fun pre s => s = szA pre) ?_ (fun j pre c s => False) rfl ?_ ?_ ?_
 ·rfl
 ·intro pre c post s hx hI Lp kr kb hkr hkb
  try dsimp only at hI ⊢
  have hc9 : c ∈ ptP p := by rw [hx]; simp
  obtain ⟨h0, hpc, hcl, _, _⟩ := Yt hc9
  have g1 := (pck_good.1 h0).n12
  refine ZU (env' := u25) rfl ?_
  refine Za ?_
  refine Lo u25 (Zb (.inr rfl) rfl) ?_
  refine Zf ?_
  refine ⟨rfl, s, rfl, ?_⟩
  try dsimp only
  refine Zj (Zd (Za ?_))
  refine Lo u25 (Zb (.inl rfl) rfl) ?_
  refine Zn rfl rfl rfl (by exact pSize_spec _ c hpc (by omega)) ?_
  rintro _ _ ⟨rfl, rfl⟩
  refine Le u25 ?_
  refine Lo u25 (Zb (.inr rfl) rfl) ?_
  refine Zf (Zc (Zd (Zd (Za ?_))))
  refine Lo u25 (W12 rfl rfl rfl rfl) ?_
  refine Lo u25 (rfl) ?_
  refine Zf (Zc ?_)
  refine Zo _ rfl (fun hc1 => ?_) (fun hc1 => ?_)
  ·try simp only [qB, qN] at hc1
   refine Za ?_
   refine Lo u25 (Zb (.inl rfl) rfl) ?_
   refine Lo u25 (W13 rfl rfl rfl rfl rfl rfl rfl) ?_
   refine Zf (Zc ?_)
   refine ZW [0, 1, 2, 3, 4, 5, 6, 7, 8] #[0, 0, 3, 0, 0, 24, 7, 127, 255] XH6 XH6 XH6 ?_
   refine Oo u25 .look rfl (W12 rfl rfl rfl rfl) ?_
   refine Oo u25 .calm rfl (Zb (.inl rfl) rfl) ?_
   refine Oo u25 .calm rfl (rfl) ?_
   refine Yh (env' := u25) (x := .look _ _) rfl rfl rfl (W12 rfl rfl rfl rfl) rfl rfl rfl ?_
   refine Oo u25 .calm rfl (Zb (.inl rfl) rfl) ?_
   refine Oo u25 .calm rfl (rfl) ?_
   refine Yh (env' := u25) (x := .turn _ _) rfl rfl rfl (W13 rfl rfl rfl rfl rfl rfl rfl) rfl rfl rfl ?_
   refine Oo u25 .turn rfl (W13 rfl rfl rfl rfl rfl rfl rfl) ?_
   refine Oo u25 .turn rfl (Z6 (VVal.bool true) rfl rfl rfl rfl rfl rfl rfl XH0 XH3 XH1) ?_
   refine O_nilP [(3, 6)] XH6 (And.intro ⟨_, _, _, _, ⟨(gA (gA (gA (gA (gA (gL XH6)))))), (gA (gA (gL XH6))), And.intro (W12 rfl rfl rfl rfl) (W12 rfl rfl rfl rfl)⟩⟩ (trivial)) ?_
   refine Zu ?_
   refine ⟨(szN1 s (szP c c.length)), [], (by simp [szN1, hc1, Zv]; (try constructor) <;> split <;> omega), .inl ⟨rfl, ?_⟩⟩
   rw [szA_snoc, ← hI]
  ·try simp only [qB, qN] at hc1
   refine Zk (Zc ?_)
   refine ZW [0, 1, 2, 3, 4, 5, 6, 7, 8] #[0, 0, 3, 0, 0, 24, 7, 127, 255] XH6 XH6 XH6 ?_
   refine Oo u25 .look rfl (W12 rfl rfl rfl rfl) ?_
   refine Oo u25 .calm rfl (Zb (.inl rfl) rfl) ?_
   refine Oo u25 .calm rfl (rfl) ?_
   refine Yh (env' := u25) (x := .look _ _) rfl rfl rfl (W12 rfl rfl rfl rfl) rfl rfl rfl ?_
   refine Oo u25 .calm rfl (Zb (.inl rfl) rfl) ?_
   refine Oo u25 .calm rfl (rfl) ?_
   refine Yh (env' := u25) (x := .turn _ _) rfl rfl rfl (W13 rfl rfl rfl rfl rfl rfl rfl) rfl rfl rfl ?_
   refine Oo u25 .turn rfl (W13 rfl rfl rfl rfl rfl rfl rfl) ?_
   refine Oo u25 .turn rfl (Z6 (VVal.bool true) rfl rfl rfl rfl rfl rfl rfl XH0 XH3 XH1) ?_
   refine O_nilP [(3, 6)] XH6 (And.intro ⟨_, _, _, _, ⟨(gA (gA (gA (gA (gA (gL XH6)))))), (gA (gA (gL XH6))), And.intro (W12 rfl rfl rfl rfl) (W12 rfl rfl rfl rfl)⟩⟩ (trivial)) ?_
   refine Zu ?_
   refine ⟨(szN1 s (szP c c.length)), [], (by simp [szN1, hc1, Zv]; (try constructor) <;> split <;> omega), .inl ⟨rfl, ?_⟩⟩
   rw [szA_snoc, ← hI]
 ·intro s k hk hI J9
  try dsimp only at hI ⊢
  refine Zu (Zc (Zd ?_))
  refine ZW [0, 1, 2, 3, 4, 5] #[0, 0, 0, 1, 11, 31] XH6 XH6 XH6 ?_
  refine Oo u25 .look rfl (W12 rfl rfl rfl rfl) ?_
  refine Yh (env' := u25) (x := .look _ _) rfl rfl rfl (W12 rfl rfl rfl rfl) rfl rfl rfl ?_
  refine Yh (env' := u25) (x := .look _ _) rfl rfl rfl (W12 rfl rfl rfl rfl) rfl rfl rfl ?_
  refine Yh (env' := u25) (x := .turn _ _) rfl rfl rfl (W13 rfl rfl rfl rfl rfl rfl rfl) rfl rfl rfl ?_
  refine Yh (env' := u25) (x := .turn _ _) rfl rfl rfl (W13 rfl rfl rfl rfl rfl rfl rfl) rfl rfl rfl ?_
  refine Oo u25 .turn rfl (W13 rfl rfl rfl rfl rfl rfl rfl) ?_
  refine O_nilP [(1, 3), (2, 3), (2, 4)] XH6 (And.intro ⟨_, _, _, _, ⟨(gA (gA (gA (gA (gL XH6))))), (gA (gA (gL XH6))), And.intro (W12 rfl rfl rfl rfl) (W12 rfl rfl rfl rfl)⟩⟩ (And.intro ⟨_, _, _, _, ⟨(gA (gA (gA (gL XH6)))), (gA (gA (gL XH6))), And.intro (W12 rfl rfl rfl rfl) (W12 rfl rfl rfl rfl)⟩⟩ (And.intro ⟨_, _, _, _, ⟨(gA (gA (gA (gL XH6)))), (gA (gL XH6)), And.intro (W12 rfl rfl rfl rfl) (W12 rfl rfl rfl rfl)⟩⟩ (trivial)))) ?_
  refine Zc ?_
  refine Yi (show _ = H ++ ([VBlk.dead, .cells [iI (s.1 : Nat)] true, .cells [iI (s.2.1 : Nat)] true, .cells [.bool s.2.2] true, k] ++ J9) from List.append_assoc _ _ _) ?_
  refine Zl ?_
  refine W10 (.inr rfl) (vres_cells3 rfl rfl rfl rfl rfl rfl rfl rfl rfl rfl XH0 XH4 XH0 XH4 XH0 XH4) ?_
  exact ⟨by rw [hI], rfl⟩
 ·rintro j pre c post s k hk hx ⟨⟩ J9
abbrev u31 {a0 a1 a2 a3 a4 a5 a6 a7 a8 a9 a10 a11 a12 a13 a14 a15 a16 a17 a18 a19 a20 a21 a22 a23 a24 a25 a26 a27 a28 a29 a30 : VVal} : VEnv := a0 :: a1 :: a2 :: a3 :: a4 :: a5 :: a6 :: a7 :: a8 :: a9 :: a10 :: a11 :: a12 :: a13 :: a14 :: a15 :: a16 :: a17 :: a18 :: a19 :: a20 :: a21 :: a22 :: a23 :: a24 :: a25 :: a26 :: a27 :: a28 :: a29 :: a30 :: []
theorem W5f {T : TypeId → Option VTy} {H : Ze} {op : Op} {ρ : VEnv} {H' : Ze} {t : TypeId} {a : Operand} {i : Nat} {v : VVal} {y : VTy} {b off : Nat} {cs new : List VVal} (ho : op = .store t a (.tmp i)) (hv : ρ[i]? = some v) (ha : ρ.eval a = .ptr (some (b, off))) (hy : T t = some y) (hx : v.cells = some new) (hn : new.length = y.size) (h1 : new.all VVal.one = true) (hb : H[b]? = some (.cells cs true) := by exact getB rfl rfl) (hl : off + new.length ≤ cs.length := by show 0 + _ * 1 + 1 ≤ vs.length; rw [hlen]; exact Nat.succ_le_of_lt (by show 0 + a.getD k 0 * 1 < _; omega)) (hH : H.set b (.cells (Zv cs off new) true) = H' := by exact (setB rfl (show 0 < 1 from by decide)).trans (by show H ++ List.set _ 0 (VBlk.cells (Zv vs (0 + (a.getD k 0) * 1) [_]) true) ++ _ = _; rw [spl_v (by rw [hlen]; exact hi)])) : vop T ρ.eval H op = some (.skip, H') := ZT ho hv ha hy hx hn h1 hb hl hH
theorem W5h {S : V.Sys} {H : Ze} {fn : Func} {ex : Exit} {env : VEnv} {B L : Ze} {v : VVal} {R : VVal → Ze → Prop} (hx : ex = .normal ∨ ex = .ret) (hv : ZZ S.C.T env (B ++ L) fn.results = some v) (h : R v B) (hB : BaseOk H B := by exact XH54) (hu : v.under H.length = true := by first | rfl | exact bk_under) : fnK S fn H R ex env (B ++ L) := YE hx hv hB hu h
abbrev f1 : Nat → List VVal := fun n => [iI (n : Int)]
def bkA (a : List Nat) : Nat → List (List Nat)
  | 0 => List.replicate (szP a a.length) []
  | k + 1 => (bkA a k).set (a.getD k 0) ((bkA a k).getD (a.getD k 0) [] ++ [k])
theorem bkA_len {a : List Nat} : ∀ {k : Nat}, (bkA a k).length = szP a a.length
  | 0 => List.length_replicate
  | k + 1 => by rw [bkA, List.length_set]; exact bkA_len
theorem bkA_row {a : List Nat} (hp : Pat a) : ∀ {k : Nat}, k ≤ a.length → ∀ b, b < szP a a.length → ((bkA a k).getD b []).length = (a.take k).count b
  | 0, _, b, hb => by rw [bkA, getD_rep hb]; rfl
  | k + 1, hk, b, hb => by
    have ih := bkA_row hp (k := k) (by omega) b hb
    have hx : a.getD k 0 < szP a a.length := hp.lt (Nat.le_refl _) (by omega)
    rw [bkA, getD_setS (by rw [bkA_len]; exact hx), Yx (d := 0) (by omega), List.count_append, List.count_singleton]
    by_cases e : b = a.getD k 0
    · subst e
      rw [if_pos rfl, List.length_append, ih]; simp
    · rw [if_neg e, ih, beq_eq_false_iff_ne.2 (Ne.symm e)]; rfl
def fzBk (rows : List (List Nat)) : VVal := .fsl (rows.map fun l => .fsl (l.flatMap f1) l.length 1 false) rows.length 1 false
theorem bk_under {n : Nat} : ∀ {rows : List (List Nat)}, VVal.underL n (rows.map fun l => VVal.fsl (l.flatMap f1) l.length 1 false) = true
  | [] => rfl
  | r :: rs => by
    show ((VVal.fsl (r.flatMap f1) r.length 1 false).under n && VVal.underL n _) = true
    rw [bk_under, Bool.and_true]; exact fm_under (f := f1) (fun a => rfl) r
theorem pBlocks_spec {x : SW} (H : Ze) (a : List Nat) (hp : Pat a) (h0 : 0 < a.length) (hl : a.length ≤ 25) : F (psys x) 73 [fzN a] H fun v G => v = fzBk (bkA a a.length) ∧ G = H := by
 have hsz := @Y4 a a.length
 have hs0 : a.getD 0 0 < szP a a.length := hp.lt (Nat.le_refl _) h0
 refine Zr Tryd.func73 rfl u31 rfl ?_
 refine Zd (Za ?_)
 refine Lo u31 (Zg (VVal.slice none 0 0 true 0) (.inr rfl) rfl) ?_
 refine Zf (Zc (Zd (Za ?_)))
 refine Lo u31 (Zb (.inl rfl) rfl) ?_
 refine Zn rfl rfl rfl (by exact pSize_spec _ _ (by assumption) (by omega)) ?_
 rintro _ _ ⟨rfl, rfl⟩
 refine Le u31 ?_
 refine Lo u31 (YW rfl rfl rfl rfl rfl (by decide) ⟨by omega, Int.le_refl _, by show ((szP a a.length : Nat) : Int) * (24 : Nat) ≤ _; omega, by omega⟩) ?_
 refine Lo u31 (Zb (.inr rfl) rfl) ?_
 refine Zf (Zc (Zd (Zd (Za ?_))))
 refine Lo u31 (Zb (.inl rfl) rfl) ?_
 refine Lo u31 (rfl) ?_
 refine Lo u31 (Yy false rfl (by simp; omega)) ?_
 refine Zf (Zc ?_)
 refine ZV rfl rfl ?_
 refine Zk (Zc (Zd (Zd (Za ?_))))
 refine Lo u31 (Zb (.inl rfl) rfl) ?_
 refine Lo u31 (rfl) ?_
 refine Lo u31 (Zg (VVal.int .i64 0) (.inl rfl) rfl) ?_
 refine Zf (Zc (Zj ?_))
 refine ZC (mk 31 2147454967) (env' := u31) rfl ?_
 refine ZJ (fun (k : Nat) => a.length - k) (fun (k : Nat) => [(14, iI (k : Nat))]) (fun (k : Nat) G => (k ≤ a.length) ∧ ∃ Z vs, G = (H ++ [VBlk.cells vs true]) ++ Z ∧ RW f1 1 (H.length + 1) Z vs (bkA a k)) 0 rfl ?_ ?_
 ·refine ⟨?_, ⟨[], _, by rw [List.append_nil, ← rep1]; rfl, RW.init⟩⟩
  exact Nat.zero_le _
 rintro k _ ⟨hk, ⟨Z, vs, rfl, hr⟩⟩
 refine ZU (env' := u31) rfl ?_
 refine Zd (Za ?_)
 refine Lo u31 (rfl) ?_
 refine Zf (Zc (Zd ?_))
 refine Zo _ rfl (fun hc1 => ?_) (fun hc1 => ?_)
 ·try simp only [qB, qN] at hc1
  refine Zk (Zc (Zd (Zj (Zd (Za ?_)))))
  refine Lo u31 (Zb (.inl rfl) rfl) ?_
  refine Lo u31 (W18 rfl rfl rfl rfl rfl rfl rfl) ?_
  refine Lo u31 (W4c rfl rfl rfl rfl) ?_
  refine Lo u31 (Zb (.inr rfl) rfl) ?_
  refine Lo u31 (Zb (.inr rfl) rfl) ?_
  refine Zf (Zc ?_)
  have hx := hp.lt (Nat.le_refl a.length) (show k < a.length by omega)
  have hlen := hr.len
  have hi : a.getD k 0 < (bkA a k).length := by rw [bkA_len]; exact hx
  have hv9 := hr.lv _ hi
  have hrow := bkA_row hp (k := k) (by omega) _ hx
  have hcnt : (a.take k).count (a.getD k 0) ≤ (a.take k).length := List.count_le_length
  rw [List.length_take] at hcnt
  refine Za ?_
  refine Lo u31 (Zb (.inl rfl) rfl) ?_
  refine Lo u31 (Zb (.inl rfl) rfl) ?_
  refine Lo u31 (Zb (.inl rfl) rfl) ?_
  refine Lo u31 (Zb (.inl rfl) rfl) ?_
  refine Lo u31 (W1g rfl rfl rfl rfl rfl rfl rfl) ?_
  refine Lo u31 (W3w rfl rfl rfl rfl) ?_
  refine Lo u31 (Zb (.inl rfl) rfl) ?_
  refine Lo u31 (Zx rfl rfl (by decide) rfl) ?_
  refine L_opX rfl rfl (YI rfl rfl rfl rfl rfl rfl rfl (by simp) hv9 rfl rfl (by decide) (by show (_ + 1) * 8 ≤ _ ∧ _ + 1 ≤ _; omega) (by decide)) ?_
  rintro _ _ ⟨Y1, rfl, rfl, hY1, hY2, hY3⟩
  refine Le u31 ?_
  refine Lo u31 (W1g rfl rfl rfl rfl rfl rfl rfl) ?_
  refine Lo u31 (W5f rfl rfl rfl rfl rfl rfl rfl) ?_
  refine Zf (Zu (Zc (Za ?_)))
  refine Lo u31 (W14 rfl rfl rfl) ?_
  refine Lo u31 (Zb (.inl rfl) rfl) ?_
  refine Zf ?_
  refine ZD (mk 31 2147454967) (env' := u31) rfl ⟨k + 1, ?_, rfl, ?_⟩
  ·first | omega | (simp only []; omega)
  ·exact ⟨by omega, _, _, rfl, RW.step hr hi hY2 hY3⟩
 ·try simp only [qB, qN] at hc1
  refine ZP (ZR (ZH (ZO (Zc (Zd ?_)))))
  obtain rfl : k = a.length := by omega
  refine B_ghRW 0 hr rfl (by simp) fun Z9 => ?_
  refine Yp (Gh.freezeL (l := (bkA a a.length).map fun l => VVal.fsl (l.flatMap f1) l.length 1 false) 3 0 rfl rfl (YC (by rw [List.length_map]; exact bkA_len.symm)) (Nat.le_refl _) rfl) ?_
  refine Za ?_
  refine Lo u31 (Zb (.inl rfl) rfl) ?_
  refine Lo u31 (Zb (.inr rfl) rfl) ?_
  refine Zf (Zc (Zl ?_))
  refine W5h (.inr rfl) (Zi rfl rfl) ?_
  exact ⟨by unfold fzBk; rw [bkA_len]; rfl, rfl⟩
theorem W5j {T : TypeId → Option VTy} {H : Ze} {op : Op} {ρ : Operand → VVal} {t : TypeId} {a : Operand} {y : VTy} {p : VVal} {n : Nat} {vs : List VVal} (ho : op = .load t a) (ha : ρ a = p) (hy : T t = some y) (hd : Zm y.desc = true) (hn : y.size = n) (h : LdOkA H p n vs := by exact XH56) : vop T ρ H op = some (.agg vs, H) := v_ldA ho ha hy hd hn h
theorem W5l {T : TypeId → Option VTy} {H : Ze} {op : Op} {ρ : Operand → VVal} {t : TypeId} {a : Operand} {y : VTy} {p v : VVal} (ho : op = .load t a) (ha : ρ a = p) (hy : T t = some y) (hd : Zm y.desc = false) (h : LdOk H p v := by exact XH56) : vop T ρ H op = some (v, H) := v_ld ho ha hy hd h
def mxK (rows : List (List Nat)) (j : Nat) : Nat := (rows.take j).foldl (fun m r => max m r.length) 0
def mxB (a : List Nat) : Nat := mxK (bkA a a.length) (bkA a a.length).length
theorem mxK_s {rows : List (List Nat)} {j : Nat} (h : j < rows.length) : mxK rows (j + 1) = max (mxK rows j) (rows.getD j []).length := by
  unfold mxK; rw [Yx (d := []) h, List.foldl_append]; rfl
def ldS (s : Nat × Bool) (m : Nat) : Nat × Bool := if s.2 = false ∨ m < s.1 then (m, true) else s
def ldA (l : List (List Nat)) : Nat × Bool := l.foldl (fun s a => ldS s (mxB a)) (0, false)
theorem ldA_snoc {l : List (List Nat)} {a : List Nat} : ldA (l ++ [a]) = ldS (ldA l) (mxB a) := by unfold ldA; rw [List.foldl_append]; rfl
theorem ldS_y {s : Nat × Bool} {m : Nat} (h : s.2 = false ∨ m < s.1) : ldS s m = (m, true) := if_pos h
theorem ldS_n {s : Nat × Bool} {m : Nat} (h : ¬ (s.2 = false ∨ m < s.1)) : ldS s m = s := if_neg h
theorem pBlocks_nil {x : SW} (H : Ze) : F (psys x) 73 [fzN []] H fun v G => v = .slice none 0 0 true 0 ∧ G = H := by
 refine Zr Tryd.func73 rfl u31 rfl ?_
 refine Zd (Za ?_)
 refine Lo u31 (Zg (VVal.slice none 0 0 true 0) (.inr rfl) rfl) ?_
 refine Zf (Zc (Zd (Za ?_)))
 refine Lo u31 (Zb (.inl rfl) rfl) ?_
 refine Zn rfl rfl rfl (by exact pSize_spec _ [] Pat_nil (by decide)) ?_
 rintro _ _ ⟨rfl, rfl⟩
 refine Le u31 ?_
 refine Lo u31 (YW rfl rfl rfl rfl rfl (by decide) (by decide)) ?_
 refine Lo u31 (Zb (.inr rfl) rfl) ?_
 refine Zf (Zc (Zd (Zd (Za ?_))))
 refine Lo u31 (Zb (.inl rfl) rfl) ?_
 refine Lo u31 (rfl) ?_
 refine Lo u31 (Yy true rfl rfl) ?_
 refine Zf (Zc ?_)
 refine Z0 rfl rfl ?_
 refine Zd (Za ?_)
 refine Lo u31 (Zg (VVal.slice none 0 0 true 0) (.inr rfl) rfl) ?_
 refine Zf (Zc (Zl (Zt ?_)))
 refine W10 (.inr rfl) (Zi rfl rfl) ?_
 exact ⟨rfl, rfl⟩
theorem tLoad_spec1 {x : SW} (H : Ze) (p : Pb) (hp : PbL p) (hn : 0 < p.who.length) : F (psys x) 41 [.agg (pbB p)] H fun v G => v = .tuple [iI ((ldA (ptP p)).1 : Nat), .bool (ldA (ptP p)).2] ∧ G = H := by
 refine Zr Tryd.func41 rfl u36 rfl ?_
 refine Zd (Za ?_)
 refine Lo u36 (Zy rfl rfl rfl) ?_
 refine Lo u36 (Zg (VVal.int .i64 0) (.inr rfl) rfl) ?_
 refine Lo u36 (Zg (VVal.bool false) (.inr rfl) rfl) ?_
 refine Zf (Zc (Zd (Za ?_)))
 refine Lo u36 (ZA rfl rfl) ?_
 refine Lo u36 (ZA rfl rfl) ?_
 refine Lo u36 (Z6 (VVal.int .i64 0) rfl rfl rfl rfl rfl rfl rfl XH0 XH3 XH1) ?_
 refine Lo u36 (Z6 (VVal.bool false) rfl rfl rfl rfl rfl rfl rfl XH0 XH3 XH1) ?_
 refine Zf (Zc (Zd (Zd ?_)))
 refine Yp (Gh.freezePtrL (cs := pbB p) 1 0 rfl rfl rfl) ?_
 refine Za ?_
 refine Lo u36 (W5j rfl rfl rfl rfl rfl) ?_
 refine Zn rfl rfl rfl (by exact tpat_spec _ p) ?_
 rintro _ _ ⟨rfl, rfl⟩
 refine Le u36 ?_
 refine Zf (Zc (Zj ?_))
 refine ZC (mk 36 68719474639) (env' := u36) rfl ?_
 refine B_rangeJ (fvP p) 2 (fun _ => rfl) (ptP p) (fun l0 h => by cases h) rfl (fun l9 G9 K9 hI9 => tpat1_spec l9 p hp G9 K9 hI9) (σ := Nat × Bool) (fun k s => H ++ [.dead, .cells [iI (s.1 : Nat)] true, .cells [.bool s.2] true, k]) (0, false) (fun k => by rw [List.append_assoc]; rfl) (fun k s => by simp) (fun k s => by rw [show (H ++ _ : Ze).length = H.length + 3 by simp]; exact ZB rfl rfl) (fun k k1 s => by rw [show (H ++ _ : Ze).length = H.length + 3 by simp]; exact ZF rfl) (fun pre s => s = ldA pre) ?_ (fun j pre c s => False) rfl ?_ ?_ ?_
 ·rfl
 ·intro pre c post s hx hI Lp kr kb hkr hkb
  try dsimp only at hI ⊢
  have hc9 : c ∈ ptP p := by rw [hx]; simp
  obtain ⟨h0, hpc, hcl, _, _⟩ := Yt hc9
  have g1 := (pck_good.1 h0).n12
  have hbl := @bkA_len c c.length
  have hz9 := @Y4 c c.length
  refine ZU (env' := u36) rfl ?_
  refine Za ?_
  refine Lo u36 (Zb (.inr rfl) rfl) ?_
  refine Zf ?_
  refine ⟨rfl, s, rfl, ?_⟩
  try dsimp only
  refine Zj (Zd (Za ?_))
  refine Lo u36 (Zg (VVal.int .i64 0) (.inr rfl) rfl) ?_
  refine Zf (Zc (Zd (Zd (Za ?_))))
  refine Lo u36 (Zb (.inl rfl) rfl) ?_
  refine Zn rfl rfl rfl (by exact pBlocks_spec _ c hpc (by omega) (by omega)) ?_
  rintro _ _ ⟨rfl, rfl⟩
  refine Le u36 ?_
  refine Lo u36 (rfl) ?_
  refine Lo u36 (Zg (VVal.int .i64 0) (.inl rfl) rfl) ?_
  refine Zf (Zc (Zj ?_))
  refine ZC (mk 36 68719247183) (env' := u36) rfl ?_
  refine ZJ (fun (j : Nat) => (bkA c c.length).length - j) (fun (j : Nat) => [(7, iI (mxK (bkA c c.length) j : Nat)), (17, iI (j : Nat))]) (fun (j : Nat) G => (j ≤ (bkA c c.length).length) ∧ G = (H ++ [.dead, .cells [iI (s.1 : Nat)] true, .cells [.bool s.2] true, kb]) ++ Lp) 0 rfl ?_ ?_
  ·refine ⟨?_, rfl⟩
   exact Nat.zero_le _
  rintro j _ ⟨hj, rfl⟩
  refine ZU (env' := u36) rfl ?_
  refine Zd (Za ?_)
  refine Lo u36 (rfl) ?_
  refine Zf (Zc (Zd ?_))
  refine Zo _ rfl (fun hc1 => ?_) (fun hc1 => ?_)
  ·try simp only [qB, qN] at hc1
   refine Zk (Zc (Zd (Zj (Zd ?_))))
   have hj9 : j < (bkA c c.length).length := by omega
   have hE := mxK_s hj9
   refine Za ?_
   refine Lo u36 (W18 rfl rfl rfl rfl rfl rfl rfl) ?_
   refine Lo u36 (W5l rfl rfl rfl rfl) ?_
   refine Lo u36 (Zb (.inr rfl) rfl) ?_
   refine Zf (Zc (Za ?_))
   refine Lo u36 (Zb (.inl rfl) rfl) ?_
   refine Lo u36 (Zb (.inl rfl) rfl) ?_
   refine Lo u36 (rfl) ?_
   refine Lo u36 (v_val (u := iI (mxK (bkA c c.length) (j + 1) : Nat)) rfl (congrArg iI (show (if (((bkA c c.length).getD j []).length : Int) > ((mxK (bkA c c.length) j : Nat) : Int) then (((bkA c c.length).getD j []).length : Int) else ((mxK (bkA c c.length) j : Nat) : Int)) = ((mxK (bkA c c.length) (j + 1) : Nat) : Int) by split <;> omega))) ?_
   refine Lo u36 (Zb (.inr rfl) rfl) ?_
   refine Zf (Zu (Zc (Za ?_)))
   refine Lo u36 (W14 rfl rfl rfl) ?_
   refine Lo u36 (Zb (.inl rfl) rfl) ?_
   refine Zf ?_
   refine ZD (mk 36 68719247183) (env' := u36) rfl ⟨j + 1, ?_, rfl, ?_⟩
   ·first | omega | (simp only []; omega)
   ·exact ⟨by omega, rfl⟩
  ·try simp only [qB, qN] at hc1
   refine ZP (ZR (ZH (ZO (Zc (Zd ?_)))))
   obtain rfl : j = (bkA c c.length).length := by omega
   rw [show mxK (bkA c c.length) (bkA c c.length).length = mxB c from rfl]
   refine Za ?_
   refine Lo u36 (W5l rfl rfl rfl rfl) ?_
   refine Lo u36 (rfl) ?_
   refine Lo u36 (Zb (.inl rfl) rfl) ?_
   refine ZL 28 (env1 := u36) (env2 := u36) rfl rfl rfl (fun hg2 => ?_) (fun hg2 => ?_)
   ·try simp only [qB, qN] at hg2
    refine Lf u36 ?_
    refine Lf u36 ?_
    refine Lf u36 ?_
    refine Lo u36 (ZY (VVal.bool true) rfl rfl rfl) ?_
    refine Zf (Zc ?_)
    refine Z0 rfl rfl ?_
    refine Za ?_
    refine Lo u36 (Zb (.inl rfl) rfl) ?_
    refine Lo u36 (W13 rfl rfl rfl rfl rfl rfl rfl) ?_
    refine Lo u36 (Z6 (VVal.bool true) rfl rfl rfl rfl rfl rfl rfl XH0 XH3 XH1) ?_
    refine Zf (Zu ?_)
    refine ⟨(ldS s (mxB c)), [], XH17, .inl ⟨rfl, ?_⟩⟩
    rw [ldA_snoc, ← hI]
   ·try simp only [qB, qN] at hg2
    refine Lo u36 (Zb (.inl rfl) rfl) ?_
    refine Lo u36 (W5l rfl rfl rfl rfl) ?_
    refine Lo u36 (rfl) ?_
    refine Lo u36 (ZQ rfl rfl rfl) ?_
    refine Zf (Zc ?_)
    refine Zo _ rfl (fun hc3 => ?_) (fun hc3 => ?_)
    ·try simp only [qB, qN] at hc3
     refine Za ?_
     refine Lo u36 (Zb (.inl rfl) rfl) ?_
     refine Lo u36 (W13 rfl rfl rfl rfl rfl rfl rfl) ?_
     refine Lo u36 (Z6 (VVal.bool true) rfl rfl rfl rfl rfl rfl rfl XH0 XH3 XH1) ?_
     refine Zf (Zu ?_)
     refine ⟨(ldS s (mxB c)), [], XH17, .inl ⟨rfl, ?_⟩⟩
     rw [ldA_snoc, ← hI]
    ·try simp only [qB, qN] at hc3
     refine Zk (Zu ?_)
     refine ⟨(ldS s (mxB c)), [], XH17, .inl ⟨rfl, ?_⟩⟩
     rw [ldA_snoc, ← hI]
 ·intro s k hk hI J9
  try dsimp only at hI ⊢
  refine Zu (Zc (Zd ?_))
  refine ZW [0, 1, 2, 3] #[0, 0, 1, 7] XH6 XH6 XH6 ?_
  refine Oo u36 .look rfl (W5l rfl rfl rfl rfl) ?_
  refine Oo u36 .look rfl (W5l rfl rfl rfl rfl) ?_
  refine Oo u36 .calm rfl (Zb (.inr rfl) rfl) ?_
  refine Oo u36 .calm rfl (Zb (.inr rfl) rfl) ?_
  refine Z3 [] XH6 (trivial) ?_
  refine Zc ?_
  refine Yi (show _ = H ++ ([VBlk.dead, .cells [iI (s.1 : Nat)] true, .cells [.bool s.2] true, k] ++ J9) from List.append_assoc _ _ _) ?_
  refine Zl ?_
  refine W10 (.inr rfl) (vres_tmp2 rfl rfl rfl) ?_
  exact ⟨by rw [hI], rfl⟩
 ·rintro j pre c post s k hk hx ⟨⟩ J9
theorem tLoad_spec0 {x : SW} (H : Ze) (p : Pb) (hp : PbL p) (hn : p.who.length = 0) : F (psys x) 41 [.agg (pbB p)] H fun v G => v = .tuple [iI ((ldA (ptP p)).1 : Nat), .bool (ldA (ptP p)).2] ∧ G = H := by
 refine Zr Tryd.func41 rfl u36 rfl ?_
 refine Zd (Za ?_)
 refine Lo u36 (Zy rfl rfl rfl) ?_
 refine Lo u36 (Zg (VVal.int .i64 0) (.inr rfl) rfl) ?_
 refine Lo u36 (Zg (VVal.bool false) (.inr rfl) rfl) ?_
 refine Zf (Zc (Zd (Za ?_)))
 refine Lo u36 (ZA rfl rfl) ?_
 refine Lo u36 (ZA rfl rfl) ?_
 refine Lo u36 (Z6 (VVal.int .i64 0) rfl rfl rfl rfl rfl rfl rfl XH0 XH3 XH1) ?_
 refine Lo u36 (Z6 (VVal.bool false) rfl rfl rfl rfl rfl rfl rfl XH0 XH3 XH1) ?_
 refine Zf (Zc (Zd (Zd ?_)))
 refine Yp (Gh.freezePtrL (cs := pbB p) 1 0 rfl rfl rfl) ?_
 refine Za ?_
 refine Lo u36 (W5j rfl rfl rfl rfl rfl) ?_
 refine Zn rfl rfl rfl (by exact tpat_spec _ p) ?_
 rintro _ _ ⟨rfl, rfl⟩
 refine Le u36 ?_
 refine Zf (Zc (Zj ?_))
 refine ZC (mk 36 68719474639) (env' := u36) rfl ?_
 refine B_rangeJ (fvP p) 2 (fun _ => rfl) (ptP p) (fun l0 h => by cases h) rfl (fun l9 G9 K9 hI9 => tpat1_spec l9 p hp G9 K9 hI9) (σ := Nat × Bool) (fun k s => H ++ [.dead, .cells [iI (s.1 : Nat)] true, .cells [.bool s.2] true, k]) (0, false) (fun k => by rw [List.append_assoc]; rfl) (fun k s => by simp) (fun k s => by rw [show (H ++ _ : Ze).length = H.length + 3 by simp]; exact ZB rfl rfl) (fun k k1 s => by rw [show (H ++ _ : Ze).length = H.length + 3 by simp]; exact ZF rfl) (fun pre s => s = ldA pre) ?_ (fun j pre c s => False) rfl ?_ ?_ ?_
 ·rfl
 ·intro pre c post s hx hI Lp kr kb hkr hkb
  try dsimp only at hI ⊢
  have hc9 : c ∈ ptP p := by rw [hx]; simp
  obtain ⟨h0, hpc, hcl, _, _⟩ := Yt hc9
  have g1 := (pck_good.1 h0).n12
  have hbl := @bkA_len c c.length
  have hz9 := @Y4 c c.length
  obtain rfl : c = [] := List.eq_nil_of_length_eq_zero (by omega)
  refine ZU (env' := u36) rfl ?_
  refine Za ?_
  refine Lo u36 (Zb (.inr rfl) rfl) ?_
  refine Zf ?_
  refine ⟨rfl, s, rfl, ?_⟩
  try dsimp only
  refine Zj (Zd (Za ?_))
  refine Lo u36 (Zg (VVal.int .i64 0) (.inr rfl) rfl) ?_
  refine Zf (Zc (Zd (Zd (Za ?_))))
  refine Lo u36 (Zb (.inl rfl) rfl) ?_
  refine Zn rfl rfl rfl (by exact pBlocks_nil _) ?_
  rintro _ _ ⟨rfl, rfl⟩
  refine Le u36 ?_
  refine Lo u36 (rfl) ?_
  refine Lo u36 (Zg (VVal.int .i64 0) (.inl rfl) rfl) ?_
  refine Zf (Zc (Zj ?_))
  refine ZC (mk 36 68719247183) (env' := u36) rfl ?_
  refine ZJ (fun (j : Nat) => 0 - j) (fun (j : Nat) => [(7, iI (0 : Nat)), (17, iI (j : Nat))]) (fun (j : Nat) G => (j ≤ 0) ∧ G = (H ++ [.dead, .cells [iI (s.1 : Nat)] true, .cells [.bool s.2] true, kb]) ++ Lp) 0 rfl ?_ ?_
  ·refine ⟨?_, rfl⟩
   exact Nat.zero_le _
  rintro j _ ⟨hj, rfl⟩
  refine ZU (env' := u36) rfl ?_
  refine Zd (Za ?_)
  refine Lo u36 (rfl) ?_
  refine Zf (Zc (Zd ?_))
  refine Zo _ rfl (fun hc1 => ?_) (fun hc1 => ?_)
  ·try simp only [qB, qN] at hc1
   exact absurd hc1 (by omega)
  ·try simp only [qB, qN] at hc1
   refine ZP (ZR (ZH (ZO (Zc (Zd ?_)))))
   obtain rfl : j = 0 := by omega
   rw [show (0 : Nat) = mxB [] from rfl]
   refine Za ?_
   refine Lo u36 (W5l rfl rfl rfl rfl) ?_
   refine Lo u36 (rfl) ?_
   refine Lo u36 (Zb (.inl rfl) rfl) ?_
   refine ZL 28 (env1 := u36) (env2 := u36) rfl rfl rfl (fun hg2 => ?_) (fun hg2 => ?_)
   ·try simp only [qB, qN] at hg2
    refine Lf u36 ?_
    refine Lf u36 ?_
    refine Lf u36 ?_
    refine Lo u36 (ZY (VVal.bool true) rfl rfl rfl) ?_
    refine Zf (Zc ?_)
    refine Z0 rfl rfl ?_
    refine Za ?_
    refine Lo u36 (Zb (.inl rfl) rfl) ?_
    refine Lo u36 (W13 rfl rfl rfl rfl rfl rfl rfl) ?_
    refine Lo u36 (Z6 (VVal.bool true) rfl rfl rfl rfl rfl rfl rfl XH0 XH3 XH1) ?_
    refine Zf (Zu ?_)
    refine ⟨(ldS s (mxB [])), [], XH16, .inl ⟨rfl, ?_⟩⟩
    rw [ldA_snoc, ← hI]
   ·try simp only [qB, qN] at hg2
    refine Lo u36 (Zb (.inl rfl) rfl) ?_
    refine Lo u36 (W5l rfl rfl rfl rfl) ?_
    refine Lo u36 (rfl) ?_
    refine Lo u36 (ZQ rfl rfl rfl) ?_
    refine Zf (Zc ?_)
    refine Zo _ rfl (fun hc3 => ?_) (fun hc3 => ?_)
    ·try simp only [qB, qN] at hc3
     refine Za ?_
     refine Lo u36 (Zb (.inl rfl) rfl) ?_
     refine Lo u36 (W13 rfl rfl rfl rfl rfl rfl rfl) ?_
     refine Lo u36 (Z6 (VVal.bool true) rfl rfl rfl rfl rfl rfl rfl XH0 XH3 XH1) ?_
     refine Zf (Zu ?_)
     refine ⟨(ldS s (mxB [])), [], XH16, .inl ⟨rfl, ?_⟩⟩
     rw [ldA_snoc, ← hI]
    ·try simp only [qB, qN] at hc3
     refine Zk (Zu ?_)
     refine ⟨(ldS s (mxB [])), [], XH16, .inl ⟨rfl, ?_⟩⟩
     rw [ldA_snoc, ← hI]
 ·intro s k hk hI J9
  try dsimp only at hI ⊢
  refine Zu (Zc (Zd ?_))
  refine ZW [0, 1, 2, 3] #[0, 0, 1, 7] XH6 XH6 XH6 ?_
  refine Oo u36 .look rfl (W5l rfl rfl rfl rfl) ?_
  refine Oo u36 .look rfl (W5l rfl rfl rfl rfl) ?_
  refine Oo u36 .calm rfl (Zb (.inr rfl) rfl) ?_
  refine Oo u36 .calm rfl (Zb (.inr rfl) rfl) ?_
  refine Z3 [] XH6 (trivial) ?_
  refine Zc ?_
  refine Yi (show _ = H ++ ([VBlk.dead, .cells [iI (s.1 : Nat)] true, .cells [.bool s.2] true, k] ++ J9) from List.append_assoc _ _ _) ?_
  refine Zl ?_
  refine W10 (.inr rfl) (vres_tmp2 rfl rfl rfl) ?_
  exact ⟨by rw [hI], rfl⟩
 ·rintro j pre c post s k hk hx ⟨⟩ J9
def wtR (q : Pb) (r : Rul) : Pb := (q.users, q.who, q.fixed, q.rules ++ [r], ())
theorem wtR_good {q : Pb} {r : Rul} (g : Go.V.Good q) (h : q.rules.length < 32) (hr : rck q.who.length r = true) : Go.V.Good (wtR q r) :=
  ⟨g.n12, g.u64, by show (q.rules ++ [r]).length ≤ 32; rw [List.length_append]; show q.rules.length + 1 ≤ 32; omega, g.u0, g.fx, g.ok, fun x hx => by
    rcases List.mem_append.1 hx with hx | hx
    · exact g.ru x hx
    · rw [List.mem_singleton] at hx; subst hx; exact hr⟩
theorem ptP_is {q : Pb} (h0 : pck q = 0) : ptP q = (pats q.who.length [] 0).filter fun a => keptN (kpB (wsP q) (Yg q)) 0 a := by
  unfold ptP
  rw [if_pos h0, ptT_snd, Ys]; rfl
theorem pt_kept {q : Pb} (g : Go.V.Good q) {a : List Nat} (ha : a ∈ pats q.who.length [] 0) : keptN (kpB (wsP q) (Yg q)) 0 a = true ↔ Mat (Ya (wsP q) a a.length) ∧ ∀ r, r ∈ q.rules → erl r q.who.length (zI a) = true := by
  obtain ⟨z, hz, hl⟩ := pats_len ha
  rw [List.nil_append] at hz; subst hz
  have hp := pats_pat Pat_nil ha
  have := kept_iff (ws := wsP q) (rs := q.rules) hp (by rw [Ys]; exact hl) (fun r hr => by rw [Ys]; exact g.ru r hr)
  rw [Ys] at this
  exact this
theorem pt_wt {q : Pb} {r : Rul} (g : Go.V.Good q) (h : q.rules.length < 32) (hr : rck q.who.length r = true) : ptP (wtR q r) = (ptP q).filter fun a => erl r q.who.length (zI a) := by
  have gw := wtR_good g h hr
  rw [ptP_is (pck_good.2 gw), ptP_is (pck_good.2 g), List.filter_filter]
  refine List.filter_congr fun a ha => ?_
  have h1 := pt_kept g ha
  have h2 := pt_kept gw (a := a) ha
  rw [Bool.eq_iff_iff, h2, Bool.and_eq_true, h1]
  constructor
  · rintro ⟨k1, k2⟩; exact ⟨k2 r (List.mem_append_right _ (by simp)), k1, fun x hx => k2 x (List.mem_append_left _ hx)⟩
  · rintro ⟨k0, k1, k2⟩
    refine ⟨k1, fun x hx => ?_⟩
    rcases List.mem_append.1 hx with hx | hx
    · exact k2 x hx
    · rw [List.mem_singleton] at hx; subst hx; exact k0
theorem leA_pt {q : Pb} (h0 : pck q = 0) : (leA q).isSome = true ↔ ∃ a, a ∈ ptP q := by
  rw [ptP_is h0]
  unfold leA fdA
  rw [if_pos h0, Option.isSome_map, frm_find, List.find?_isSome, Ys]
  constructor
  · rintro ⟨a, h1, h2⟩; exact ⟨a, List.mem_filter.2 ⟨h1, h2⟩⟩
  · rintro ⟨a, h⟩; exact ⟨a, List.mem_filter.1 h⟩
theorem can_wt {q : Pb} {r : Rul} (g : Go.V.Good q) (h : q.rules.length < 32) (hr : rck q.who.length r = true) : (leA (wtR q r)).isSome = true ↔ ∃ a, a ∈ ptP q ∧ erl r q.who.length (zI a) = true := by
  rw [leA_pt (pck_good.2 (wtR_good g h hr)), pt_wt g h hr]
  constructor
  · rintro ⟨a, h⟩; exact ⟨a, List.mem_filter.1 h⟩
  · rintro ⟨a, h⟩; exact ⟨a, List.mem_filter.2 h⟩
theorem szA_is {l : List (List Nat)} : (szA l).2.2 = decide (l ≠ []) ∧ (l ≠ [] → ((∃ a, a ∈ l ∧ szP a a.length = (szA l).1) ∧ ∀ a, a ∈ l → (szA l).1 ≤ szP a a.length) ∧ ((∃ a, a ∈ l ∧ szP a a.length = (szA l).2.1) ∧ ∀ a, a ∈ l → szP a a.length ≤ (szA l).2.1)) := by
  refine rev_ind (P := fun l => (szA l).2.2 = decide (l ≠ []) ∧ (l ≠ [] → ((∃ a, a ∈ l ∧ szP a a.length = (szA l).1) ∧ ∀ a, a ∈ l → (szA l).1 ≤ szP a a.length) ∧ ((∃ a, a ∈ l ∧ szP a a.length = (szA l).2.1) ∧ ∀ a, a ∈ l → szP a a.length ≤ (szA l).2.1))) ⟨rfl, fun h => absurd rfl h⟩ (fun l x ih => ?_) l
  obtain ⟨i1, i2⟩ := ih
  rw [szA_snoc]
  have e1 : (szN1 (szA l) (szP x x.length)).1 = min (if (szA l).2.2 = true then (szA l).1 else szP x x.length) (szP x x.length) := rfl
  have e2 : (szN1 (szA l) (szP x x.length)).2.1 = max (szA l).2.1 (szP x x.length) := rfl
  have e3 : (szN1 (szA l) (szP x x.length)).2.2 = true := rfl
  refine ⟨by rw [e3]; simp, fun _ => ?_⟩
  rw [e1, e2]
  by_cases hl : l = []
  · subst hl
    have z1 : (szA []).2.2 = false := rfl
    have z2 : (szA []).2.1 = 0 := rfl
    rw [z1, z2]
    refine ⟨⟨⟨x, by simp, by simp⟩, fun a ha => ?_⟩, ⟨x, by simp, by omega⟩, fun a ha => ?_⟩
    · have : a = x := by simpa using ha
      subst this; simp
    · have : a = x := by simpa using ha
      subst this; omega
  · obtain ⟨⟨⟨a, ha, ea⟩, ma⟩, ⟨b, hb, eb⟩, mb⟩ := i2 hl
    rw [i1, decide_eq_true hl, if_pos rfl]
    refine ⟨⟨?_, fun c hc => ?_⟩, ?_, fun c hc => ?_⟩
    · by_cases h : (szA l).1 ≤ szP x x.length
      · exact ⟨a, List.mem_append_left _ ha, by omega⟩
      · exact ⟨x, by simp, by omega⟩
    · rcases List.mem_append.1 hc with hc | hc
      · have := ma c hc; omega
      · have : c = x := by simpa using hc
        subst this; omega
    · by_cases h : szP x x.length ≤ (szA l).2.1
      · exact ⟨b, List.mem_append_left _ hb, by omega⟩
      · exact ⟨x, by simp, by omega⟩
    · rcases List.mem_append.1 hc with hc | hc
      · have := mb c hc; omega
      · have : c = x := by simpa using hc
        subst this; omega
theorem ldA_is {l : List (List Nat)} : (ldA l).2 = decide (l ≠ []) ∧ (l ≠ [] → (∃ a, a ∈ l ∧ mxB a = (ldA l).1) ∧ ∀ a, a ∈ l → (ldA l).1 ≤ mxB a) := by
  refine rev_ind (P := fun l => (ldA l).2 = decide (l ≠ []) ∧ (l ≠ [] → (∃ a, a ∈ l ∧ mxB a = (ldA l).1) ∧ ∀ a, a ∈ l → (ldA l).1 ≤ mxB a)) ⟨rfl, fun h => absurd rfl h⟩ (fun l x ih => ?_) l
  obtain ⟨i1, i2⟩ := ih
  rw [ldA_snoc]
  by_cases hl : l = []
  · subst hl
    rw [ldS_y (.inl rfl)]
    refine ⟨by simp, fun _ => ⟨⟨x, by simp, rfl⟩, fun a ha => ?_⟩⟩
    have : a = x := by simpa using ha
    subst this; exact Nat.le_refl _
  · obtain ⟨⟨a, ha, ea⟩, ma⟩ := i2 hl
    rw [decide_eq_true hl] at i1
    by_cases h : mxB x < (ldA l).1
    · rw [ldS_y (.inr h)]
      refine ⟨by simp, fun _ => ⟨⟨x, by simp, rfl⟩, fun c hc => ?_⟩⟩
      rcases List.mem_append.1 hc with hc | hc
      · have := ma c hc; show mxB x ≤ _; omega
      · have : c = x := by simpa using hc
        subst this; exact Nat.le_refl _
    · rw [ldS_n (by rw [i1]; rintro (k | k); cases k; exact h k)]
      refine ⟨by rw [i1]; simp, fun _ => ⟨⟨a, List.mem_append_left _ ha, ea⟩, fun c hc => ?_⟩⟩
      rcases List.mem_append.1 hc with hc | hc
      · exact ma c hc
      · have : c = x := by simpa using hc
        subst this; omega
theorem mxK_iff {rows : List (List Nat)} {m : Nat} : ∀ {j : Nat}, j ≤ rows.length → (mxK rows j ≤ m ↔ ∀ b, b < j → (rows.getD b []).length ≤ m)
  | 0, _ => ⟨fun _ b h => absurd h (Nat.not_lt_zero _), fun _ => Nat.zero_le _⟩
  | j + 1, hj => by
    have ih := mxK_iff (rows := rows) (m := m) (j := j) (by omega)
    rw [mxK_s (by omega)]
    constructor
    · intro h b hb
      by_cases e : b = j
      · subst e; omega
      · exact ih.1 (by omega) b (by omega)
    · intro h
      have h1 := ih.2 fun b hb => h b (by omega)
      have h2 := h j (by omega)
      omega
theorem cnt_zI {a : List Nat} {b : Nat} : (zI a).count (b : Int) = a.count b := by
  induction a with
  | nil => rfl
  | cons x a ih =>
    show ((x : Int) :: zI a).count (b : Int) = _
    rw [List.count_cons, List.count_cons, ih]
    by_cases e : x = b
    · subst e; simp
    · rw [beq_eq_false_iff_ne.2 e, beq_eq_false_iff_ne.2 (fun k : (x : Int) = b => e (by omega))]
theorem mxB_is {a : List Nat} (hp : Pat a) : mxB a = oft (zI a) := by
  have key : ∀ m, mxB a ≤ m ↔ oft (zI a) ≤ m := fun m => by
    unfold mxB
    rw [mxK_iff (Nat.le_refl _), oft_le]
    constructor
    · intro h y hy
      unfold zI at hy
      obtain ⟨b, hb, rfl⟩ := List.mem_map.1 hy
      have hb2 := ((uq_pat hp).2 b).2 hb
      have h1 := h b (by rw [bkA_len]; exact hb2)
      rw [bkA_row hp (Nat.le_refl _) b hb2, List.take_length] at h1
      show (zI a).count (b : Int) ≤ m
      rw [cnt_zI]; exact h1
    · intro h b hb
      rw [bkA_len] at hb
      have hb2 := ((uq_pat hp).2 b).1 hb
      rw [bkA_row hp (Nat.le_refl _) b hb, List.take_length, ← cnt_zI]
      exact h _ (zI_mem.2 hb2)
  exact Nat.le_antisymm ((key _).2 (Nat.le_refl _)) ((key _).1 (Nat.le_refl _))
structure Pm (t : List Int) : Prop where
  rg : ∀ i, i < t.length → 0 ≤ t.getD i 0 ∧ t.getD i 0 < t.length
  ij : ∀ i j, i < t.length → j < t.length → t.getD i 0 = t.getD j 0 → i = j
section
variable {t : List Int} {q : Pb}
end
def wdP (q : Pb) (W : List (BitVec 64)) : Pb := (q.users, W, q.fixed, q.rules, ())
theorem getBX {B X : Ze} {j : Nat} {c : VBlk} (h : X[j]? = some c) : (B ++ X)[B.length + j]? = some c := ZB rfl h
theorem setBX {B X : Ze} {j : Nat} {c : VBlk} : (B ++ X).set (B.length + j) c = B ++ X.set j c := ZF rfl
theorem set_get {X : Ze} {j : Nat} {a b : VBlk} (h : X[j]? = some a) : (X.set j b)[j]? = some b := List.getElem?_set_self (ZI h)
theorem set_far {X : Ze} {j k : Nat} {a b : VBlk} (h : X[k]? = some a) (d : j ≠ k) : (X.set j b)[k]? = some a := by rw [List.getElem?_set_ne d]; exact h
theorem fget0N {l : List Int} {k : Nat} (h : k < l.length) : (l.map iI)[0 + ((k : Nat) : Int).toNat * 1]? = some (iI (l.getD k 0)) := by rw [Nat.zero_add]; exact Y5 (0 : Int) h
theorem fl3 {rs : List Rul} : (rs.flatMap rlB).length = rs.length * 3 := fm_len (f := rlB) (m := 3) (fun _ => rfl) rs
theorem ls_gh {S : Go.V.Sys} {B Z : Ze} {u w f : VVal} {b m n len : Nat} {cs : List VVal} {rs : List Rul} (hb : Z[b]? = some (.cells cs true)) (hm : Z[m]? = some (.cells [u, w, f, .slice (some (B.length + b, 0)) len n false 3] true)) (hl : Zs cs 0 (len * 3) = some (rs.flatMap rlB)) (he : rs.length = len) (hn : len ≤ n) (d : b ≠ m) :
    ∃ Z2, (∀ (H0 : Ze) (vs : List VVal), Gh S H0 vs (B ++ Z) vs (B ++ Z2)) ∧ Z2[m]? = some (.cells [u, w, f, fzR rs] true) := by
  subst he
  exact ⟨_, fun H0 vs => Gh.cellL (S := S) (H := B) (H0 := H0) (vs := vs) m 3 b hm rfl (fun e => d e.symm) hb hl hn, set_get (set_far hm d)⟩
theorem W5t {S : V.Sys} {H : Ze} {fn : Func} {ex : Exit} {env : VEnv} {B L : Ze} {v : VVal} {R : VVal → Ze → Prop} (hx : ex = .normal ∨ ex = .ret) (hv : ZZ S.C.T env (B ++ L) fn.results = some v) (h : R v B) (hB : BaseOk H B := by exact BaseOk.refl _) (hu : v.under H.length = true := by exact (show ((VVal.agg (pbB (q.users, q.who.take m, q.fixed.take m, [], ()))).under H.length) = true from pb_under)) : fnK S fn H R ex env (B ++ L) := YE hx hv hB hu h
theorem LV_nilE {h es : Nat} {X : Ze} {v : VVal} {cs : List VVal} {n : Nat} (l : LV h es X v cs n) (e : n = 0) : v = .slice none 0 0 true 0 := by
  rcases l.2 with ⟨_, h2⟩ | ⟨h1, _⟩
  · exact h2
  · omega
theorem Few_R0 {x : SW} (H : Ze) (p : Pb) (m : Nat) (hu : -9223372036854775808 ≤ p.users ∧ p.users < 9223372036854775808) (q : Pb) (hq : cutP p = q) (hnr : (fewQ q m).rules = []) : F (psys x) 15 [.agg (pbB p), iI (m : Nat)] H fun v G => v = .agg [iI (fewQ q m).users, fzW (fewQ q m).who, fzI (fewQ q m).fixed, .slice none 0 0 true 0] ∧ G = H := by
 have hL := cutP_L hu
 rw [hq] at hL
 have h1 := hL.w; have h2 := hL.f; have h3 := hL.r; have h4 := hL.s
 have h40 : q.rules.length ≤ 40 := by rw [← hq]; show ((List.take 40 _).map cutR).length ≤ _; rw [List.length_map, List.length_take]; omega
 refine Zr Tryd.func15 rfl u76 rfl ?_
 refine Zd (Za ?_)
 refine Lo u76 (Zy rfl rfl rfl) ?_
 refine Lo u76 (ZA rfl rfl) ?_
 refine Zf (Zc (Zd ?_))
 refine Yp (Gh.freezePtrL (cs := pbB p) 2 0 rfl rfl rfl) ?_
 refine Za ?_
 refine Lo u76 (W24 rfl rfl rfl rfl rfl) ?_
 refine Zn rfl rfl rfl (by exact hq ▸ Cut_spec _ p) ?_
 rintro _ _ ⟨rfl, rfl⟩
 refine Le u76 ?_
 refine Lo u76 (ZA rfl rfl) ?_
 refine Lo u76 (W13 rfl rfl rfl rfl rfl rfl rfl) ?_
 refine Zf (Zc ?_)
 refine B_seqJ (mk 76 75557863725914323419085) (fun (u0 : Unit) => []) (fun (u0 : Unit) G => (True) ∧ G = H ++ [.dead, pqB 0 ZK ZK ZK, .cells [iI q.users, fzW (q.who.take m), fzI q.fixed, fzR q.rules] true]) ?_ ?_
 ·skip
  refine Zd (Za ?_)
  refine Lo u76 (rfl) ?_
  refine Lo u76 (W26 rfl rfl rfl rfl) ?_
  refine Lo u76 (rfl) ?_
  refine Lo u76 (Zb (.inl rfl) rfl) ?_
  refine Lo u76 (rfl) ?_
  refine Zf (Zc ?_)
  refine Zo _ rfl (fun hc1 => ?_) (fun hc1 => ?_)
  ·try simp only [qB, qN] at hc1
   refine Za ?_
   refine Lo u76 (rfl) ?_
   refine Lo u76 (W26 rfl rfl rfl rfl) ?_
   refine Lo u76 (Zb (.inl rfl) rfl) ?_
   refine Lo u76 (v_wHi (k := m) rfl rfl rfl rfl rfl rfl rfl (by omega)) ?_
   refine Lo u76 (rfl) ?_
   refine Lo u76 (W13 rfl rfl rfl rfl rfl rfl rfl) ?_
   refine Zf ?_
   refine ZD (mk 76 75557863725914323419085) (env' := u76) rfl ⟨(), rfl, ?_⟩
   first
     | exact ⟨trivial, rfl⟩
     | exact ⟨trivial, by rw [List.take_of_length_le (l := q.who) (by omega)]; rfl⟩
  ·try simp only [qB, qN] at hc1
   refine Zk ?_
   refine ZD (mk 76 75557863725914323419085) (env' := u76) rfl ⟨(), rfl, ?_⟩
   first
     | exact ⟨trivial, rfl⟩
     | exact ⟨trivial, by rw [List.take_of_length_le (l := q.who) (by omega)]; rfl⟩
 ·rintro u0 _ ⟨_, rfl⟩
  refine ZU (env' := u76) rfl ?_
  refine B_seqJ (mk 76 75557863725914323419085) (fun (u0 : Unit) => []) (fun (u0 : Unit) G => (True) ∧ G = H ++ [.dead, pqB 0 ZK ZK ZK, .cells [iI q.users, fzW (q.who.take m), fzI (q.fixed.take m), fzR q.rules] true]) ?_ ?_
  ·skip
   refine Zd (Za ?_)
   refine Lo u76 (rfl) ?_
   refine Lo u76 (W26 rfl rfl rfl rfl) ?_
   refine Lo u76 (rfl) ?_
   refine Lo u76 (Zb (.inl rfl) rfl) ?_
   refine Lo u76 (rfl) ?_
   refine Zf (Zc ?_)
   refine Zo _ rfl (fun hc2 => ?_) (fun hc2 => ?_)
   ·try simp only [qB, qN] at hc2
    refine Za ?_
    refine Lo u76 (rfl) ?_
    refine Lo u76 (W26 rfl rfl rfl rfl) ?_
    refine Lo u76 (Zb (.inl rfl) rfl) ?_
    refine Lo u76 (v_iHi (k := m) rfl rfl rfl rfl rfl rfl rfl (by omega)) ?_
    refine Lo u76 (rfl) ?_
    refine Lo u76 (W13 rfl rfl rfl rfl rfl rfl rfl) ?_
    refine Zf ?_
    refine ZD (mk 76 75557863725914323419085) (env' := u76) rfl ⟨(), rfl, ?_⟩
    first
      | exact ⟨trivial, rfl⟩
      | exact ⟨trivial, by rw [List.take_of_length_le (l := q.fixed) (by omega)]⟩
   ·try simp only [qB, qN] at hc2
    refine Zk ?_
    refine ZD (mk 76 75557863725914323419085) (env' := u76) rfl ⟨(), rfl, ?_⟩
    first
      | exact ⟨trivial, rfl⟩
      | exact ⟨trivial, by rw [List.take_of_length_le (l := q.fixed) (by omega)]⟩
  ·rintro u0 _ ⟨_, rfl⟩
   refine ZU (env' := u76) rfl ?_
   refine Zd (Za ?_)
   refine Lo u76 (Zg (VVal.slice none 0 0 true 0) (.inr rfl) rfl) ?_
   refine Zf (Zc (Zd (Zd (Za ?_))))
   refine Lo u76 (Zg (VVal.int .i64 0) (.inr rfl) rfl) ?_
   refine Zf (Zc (Zj ?_))
   refine ZC (mk 76 75557863725914323418893) (env' := u76) rfl ?_
   refine ZJ (fun (⟨k, lv⟩ : Nat × VVal) => q.rules.length - k) (fun (⟨k, lv⟩ : Nat × VVal) => [(6, lv), (7, iI (k : Nat))]) (fun (⟨k, lv⟩ : Nat × VVal) G => (k ≤ q.rules.length) ∧ ∃ X, G = (H ++ [.dead, pqB 0 ZK ZK ZK, .cells [iI q.users, fzW (q.who.take m), fzI (q.fixed.take m), fzR q.rules] true]) ++ X ∧ LV (H.length + 3) 3 X lv (((q.rules.take k).filter (fewR m)).flatMap rlB) ((q.rules.take k).filter (fewR m)).length) ⟨0, _⟩ rfl ?_ ?_
   ·refine ⟨?_, ⟨[], (List.append_nil _).symm, LV.nil _ _ _⟩⟩
    exact Nat.zero_le _
   rintro ⟨k, lv⟩ _ ⟨hk, ⟨X, rfl, hl⟩⟩
   refine ZU (env' := u76) rfl ?_
   refine Zd (Zd (Za ?_))
   refine Lo u76 (Zb (.inl rfl) rfl) ?_
   refine Lo u76 (rfl) ?_
   refine Lo u76 (W26 rfl rfl rfl rfl) ?_
   refine Lo u76 (rfl) ?_
   refine Lo u76 (rfl) ?_
   refine Zf (Zc ?_)
   refine Zo _ rfl (fun hc3 => ?_) (fun hc3 => ?_)
   ·try simp only [qB, qN] at hc3
    refine Zk (Zc (Zd (Zj (Zd (Za ?_)))))
    refine Lo u76 (Zg (VVal.bool true) (.inr rfl) rfl) ?_
    refine Zf (Zc (Zd (Zd (Za ?_))))
    refine Lo u76 (Zg (VVal.int .i64 0) (.inr rfl) rfl) ?_
    refine Zf (Zc (Zj ?_))
    refine ZC (mk 76 75557863725914323418125) (env' := u76) rfl ?_
    refine ZJ (fun (⟨s, b⟩ : Nat × Bool) => (q.rules.getD k r0).steps.length - s) (fun (⟨s, b⟩ : Nat × Bool) => [(8, .bool b), (9, iI (s : Nat))]) (fun (⟨s, b⟩ : Nat × Bool) G => (s ≤ (q.rules.getD k r0).steps.length ∧ b = ((q.rules.getD k r0).steps.take s).all fun x => decide (x < (m : Int))) ∧ G = (H ++ [.dead, pqB 0 ZK ZK ZK, .cells [iI q.users, fzW (q.who.take m), fzI (q.fixed.take m), fzR q.rules] true]) ++ X) ⟨0, true⟩ rfl ?_ ?_
    ·refine ⟨?_, rfl⟩
     exact ⟨Nat.zero_le _, rfl⟩
    rintro ⟨s, b⟩ _ ⟨⟨hs, hb⟩, rfl⟩
    refine ZU (env' := u76) rfl ?_
    refine Zd (Zd ?_)
    have hst := h4 _ (rul_mem (l := q.rules) (k := k) (by omega))
    refine Za ?_
    refine Lo u76 (Zb (.inl rfl) rfl) ?_
    refine Lo u76 (rfl) ?_
    refine Lo u76 (W26 rfl rfl rfl rfl) ?_
    refine Lo u76 (Zb (.inl rfl) rfl) ?_
    refine Lo u76 (W18 rfl rfl rfl rfl rfl rfl rfl) ?_
    refine Lo u76 (rfl) ?_
    refine Lo u76 (W26 rfl rfl rfl rfl) ?_
    refine Lo u76 (rfl) ?_
    refine Lo u76 (rfl) ?_
    refine Zf (Zc ?_)
    refine Zo _ rfl (fun hc4 => ?_) (fun hc4 => ?_)
    ·try simp only [qB, qN] at hc4
     refine Zk (Zc (Zd (Zj (Za ?_))))
     refine Lo u76 (Zb (.inl rfl) rfl) ?_
     refine Lo u76 (Zb (.inl rfl) rfl) ?_
     refine ZL 51 (env1 := u76) (env2 := u76) rfl rfl rfl (fun hg5 => ?_) (fun hg5 => ?_)
     ·try simp only [qB, qN] at hg5
      refine Lo u76 (rfl) ?_
      refine Lo u76 (W26 rfl rfl rfl rfl) ?_
      refine Lo u76 (Zb (.inl rfl) rfl) ?_
      refine Lo u76 (W18 rfl rfl rfl rfl rfl rfl rfl) ?_
      refine Lo u76 (rfl) ?_
      refine Lo u76 (W26 rfl rfl rfl rfl) ?_
      refine Lo u76 (Zb (.inl rfl) rfl) ?_
      refine Lo u76 (W18 rfl rfl rfl rfl rfl rfl rfl) ?_
      refine Lo u76 (W26 rfl rfl rfl rfl) ?_
      refine Lo u76 (Zb (.inl rfl) rfl) ?_
      refine Lo u76 (rfl) ?_
      refine Lo u76 (Zz rfl rfl rfl) ?_
      refine Lo u76 (Zb (.inr rfl) rfl) ?_
      refine Zf (Zu (Zc (Za ?_)))
      refine Lo u76 (Zb (.inl rfl) rfl) ?_
      refine Lo u76 (W14 rfl rfl rfl) ?_
      refine Lo u76 (Zb (.inr rfl) rfl) ?_
      refine Zf ?_
      refine ZD (mk 76 75557863725914323418125) (env' := u76) rfl ⟨⟨s + 1, _⟩, ?_, rfl, ?_⟩
      ·first | omega | (simp only []; omega)
      ·first | exact ⟨⟨by omega, by rw [YB (by omega), ← hb, (show b = true by assumption), Bool.true_and]⟩, rfl⟩ | exact ⟨⟨by omega, by rw [YB (by omega), ← hb, (show b = false by simp_all), Bool.false_and]⟩, rfl⟩
     ·try simp only [qB, qN] at hg5
      refine Lf u76 ?_
      refine Lf u76 ?_
      refine Lf u76 ?_
      refine Lf u76 ?_
      refine Lf u76 ?_
      refine Lf u76 ?_
      refine Lf u76 ?_
      refine Lf u76 ?_
      refine Lf u76 ?_
      refine Lf u76 ?_
      refine Lf u76 ?_
      refine Lo u76 (ZN (VVal.bool false) rfl rfl rfl) ?_
      refine Lo u76 (Zb (.inr rfl) rfl) ?_
      refine Zf (Zu (Zc (Za ?_)))
      refine Lo u76 (Zb (.inl rfl) rfl) ?_
      refine Lo u76 (W14 rfl rfl rfl) ?_
      refine Lo u76 (Zb (.inr rfl) rfl) ?_
      refine Zf ?_
      refine ZD (mk 76 75557863725914323418125) (env' := u76) rfl ⟨⟨s + 1, _⟩, ?_, rfl, ?_⟩
      ·first | omega | (simp only []; omega)
      ·first | exact ⟨⟨by omega, by rw [YB (by omega), ← hb, (show b = true by assumption), Bool.true_and]⟩, rfl⟩ | exact ⟨⟨by omega, by rw [YB (by omega), ← hb, (show b = false by simp_all), Bool.false_and]⟩, rfl⟩
    ·try simp only [qB, qN] at hc4
     refine ZP (ZR (ZH (ZO (Zc (Zd (Za ?_))))))
     refine Lo u76 (Zb (.inl rfl) rfl) ?_
     refine Zf (Zc ?_)
     refine Zo _ rfl (fun hc6 => ?_) (fun hc6 => ?_)
     ·try simp only [qB, qN] at hc6
      refine Za ?_
      refine Lo u76 (Zb (.inl rfl) rfl) ?_
      refine Lo u76 (rfl) ?_
      refine Lo u76 (W26 rfl rfl rfl rfl) ?_
      refine Lo u76 (Zb (.inl rfl) rfl) ?_
      refine Lo u76 (W18 rfl rfl rfl rfl rfl rfl rfl) ?_
      refine Lo u76 (W24 rfl rfl rfl rfl rfl) ?_
      refine Lo u76 (Zx rfl rfl (by decide) rfl) ?_
      refine L_opX rfl rfl (YI rfl rfl rfl rfl rfl rfl rfl (by simp) hl rfl rfl (by decide) XH28 (by decide)) ?_
      rintro _ _ ⟨Y1, rfl, rfl, hY1, hY2, hY3⟩
      refine Le u76 ?_
      refine Lo u76 (Zb (.inr rfl) rfl) ?_
      refine Zf (Zu (Zc (Za ?_)))
      refine Lo u76 (Zb (.inl rfl) rfl) ?_
      refine Lo u76 (W14 rfl rfl rfl) ?_
      refine Lo u76 (Zb (.inr rfl) rfl) ?_
      refine Zf ?_
      obtain rfl : s = (q.rules.getD k r0).steps.length := by omega
      rw [List.take_length] at hb
      refine ZD (mk 76 75557863725914323418893) (env' := u76) rfl ⟨⟨k + 1, _⟩, ?_, rfl, ?_⟩
      ·first | omega | (simp only []; omega)
      ·first | exact ⟨by omega, _, rfl, by rw [YA (by omega), if_pos (show fewR m (q.rules.getD k r0) = true from hb.symm.trans (by assumption))]; exact LV.pushF hY3⟩ | exact ⟨by omega, _, rfl, by rw [YA (by omega), if_neg (fun e => by rw [show fewR m (q.rules.getD k r0) = b from hb.symm] at e; rw [(by assumption : b = false)] at e; cases e), List.append_nil]; exact hl⟩
     ·try simp only [qB, qN] at hc6
      refine Zk (Zu (Zc (Za ?_)))
      refine Lo u76 (Zb (.inl rfl) rfl) ?_
      refine Lo u76 (W14 rfl rfl rfl) ?_
      refine Lo u76 (Zb (.inr rfl) rfl) ?_
      refine Zf ?_
      obtain rfl : s = (q.rules.getD k r0).steps.length := by omega
      rw [List.take_length] at hb
      refine ZD (mk 76 75557863725914323418893) (env' := u76) rfl ⟨⟨k + 1, _⟩, ?_, rfl, ?_⟩
      ·first | omega | (simp only []; omega)
      ·first | exact ⟨by omega, _, rfl, by rw [YA (by omega), if_pos (show fewR m (q.rules.getD k r0) = true from hb.symm.trans (by assumption))]; exact LV.pushF hY3⟩ | exact ⟨by omega, _, rfl, by rw [YA (by omega), if_neg (fun e => by rw [show fewR m (q.rules.getD k r0) = b from hb.symm] at e; rw [(by assumption : b = false)] at e; cases e), List.append_nil]; exact hl⟩
   ·try simp only [qB, qN] at hc3
    refine ZP (ZR (ZH (ZO (Zc (Zd ?_)))))
    obtain rfl : k = q.rules.length := by omega
    rw [List.take_length] at hl
    obtain rfl : lv = .slice none 0 0 true 0 := LV_nilE hl (by rw [show q.rules.filter (fewR m) = [] from hnr]; rfl)
    refine Yi (List.append_assoc _ _ _) ?_
    refine Za ?_
    refine Lo u76 (Zb (.inl rfl) rfl) ?_
    refine Lo u76 (rfl) ?_
    refine Lo u76 (W13 rfl rfl rfl rfl rfl rfl rfl) ?_
    refine Zf (Zc (Zd (Za ?_)))
    refine Lo u76 (W24 rfl rfl rfl rfl rfl) ?_
    refine Lo u76 (W13 rfl rfl rfl rfl rfl rfl rfl) ?_
    refine Zf (Zc (Zl ?_))
    refine W5t (.inr rfl) (Yz rfl rfl rfl rfl XH0 XH11) ?_
    exact ⟨rfl, rfl⟩
theorem Few_R1 {x : SW} (H : Ze) (p : Pb) (m : Nat) (hu : -9223372036854775808 ≤ p.users ∧ p.users < 9223372036854775808) (q : Pb) (hq : cutP p = q) (hnr : (fewQ q m).rules ≠ []) : F (psys x) 15 [.agg (pbB p), iI (m : Nat)] H fun v G => ∃ Y j, v = .agg [iI (fewQ q m).users, fzW (fewQ q m).who, fzI (fewQ q m).fixed, .slice (some (H.length + j, 0)) (fewQ q m).rules.length (fewQ q m).rules.length false 3] ∧ G = H ++ Y ∧ Y[j]? = some (.cells ((fewQ q m).rules.flatMap rlB) true) := by
 have hL := cutP_L hu
 rw [hq] at hL
 have h1 := hL.w; have h2 := hL.f; have h3 := hL.r; have h4 := hL.s
 have h40 : q.rules.length ≤ 40 := by rw [← hq]; show ((List.take 40 _).map cutR).length ≤ _; rw [List.length_map, List.length_take]; omega
 refine Zr Tryd.func15 rfl u76 rfl ?_
 refine Zd (Za ?_)
 refine Lo u76 (Zy rfl rfl rfl) ?_
 refine Lo u76 (ZA rfl rfl) ?_
 refine Zf (Zc (Zd ?_))
 refine Yp (Gh.freezePtrL (cs := pbB p) 2 0 rfl rfl rfl) ?_
 refine Za ?_
 refine Lo u76 (W24 rfl rfl rfl rfl rfl) ?_
 refine Zn rfl rfl rfl (by exact hq ▸ Cut_spec _ p) ?_
 rintro _ _ ⟨rfl, rfl⟩
 refine Le u76 ?_
 refine Lo u76 (ZA rfl rfl) ?_
 refine Lo u76 (W13 rfl rfl rfl rfl rfl rfl rfl) ?_
 refine Zf (Zc ?_)
 refine B_seqJ (mk 76 75557863725914323419085) (fun (u0 : Unit) => []) (fun (u0 : Unit) G => (True) ∧ G = H ++ [.dead, pqB 0 ZK ZK ZK, .cells [iI q.users, fzW (q.who.take m), fzI q.fixed, fzR q.rules] true]) ?_ ?_
 ·skip
  refine Zd (Za ?_)
  refine Lo u76 (rfl) ?_
  refine Lo u76 (W26 rfl rfl rfl rfl) ?_
  refine Lo u76 (rfl) ?_
  refine Lo u76 (Zb (.inl rfl) rfl) ?_
  refine Lo u76 (rfl) ?_
  refine Zf (Zc ?_)
  refine Zo _ rfl (fun hc1 => ?_) (fun hc1 => ?_)
  ·try simp only [qB, qN] at hc1
   refine Za ?_
   refine Lo u76 (rfl) ?_
   refine Lo u76 (W26 rfl rfl rfl rfl) ?_
   refine Lo u76 (Zb (.inl rfl) rfl) ?_
   refine Lo u76 (v_wHi (k := m) rfl rfl rfl rfl rfl rfl rfl (by omega)) ?_
   refine Lo u76 (rfl) ?_
   refine Lo u76 (W13 rfl rfl rfl rfl rfl rfl rfl) ?_
   refine Zf ?_
   refine ZD (mk 76 75557863725914323419085) (env' := u76) rfl ⟨(), rfl, ?_⟩
   first
     | exact ⟨trivial, rfl⟩
     | exact ⟨trivial, by rw [List.take_of_length_le (l := q.who) (by omega)]; rfl⟩
  ·try simp only [qB, qN] at hc1
   refine Zk ?_
   refine ZD (mk 76 75557863725914323419085) (env' := u76) rfl ⟨(), rfl, ?_⟩
   first
     | exact ⟨trivial, rfl⟩
     | exact ⟨trivial, by rw [List.take_of_length_le (l := q.who) (by omega)]; rfl⟩
 ·rintro u0 _ ⟨_, rfl⟩
  refine ZU (env' := u76) rfl ?_
  refine B_seqJ (mk 76 75557863725914323419085) (fun (u0 : Unit) => []) (fun (u0 : Unit) G => (True) ∧ G = H ++ [.dead, pqB 0 ZK ZK ZK, .cells [iI q.users, fzW (q.who.take m), fzI (q.fixed.take m), fzR q.rules] true]) ?_ ?_
  ·skip
   refine Zd (Za ?_)
   refine Lo u76 (rfl) ?_
   refine Lo u76 (W26 rfl rfl rfl rfl) ?_
   refine Lo u76 (rfl) ?_
   refine Lo u76 (Zb (.inl rfl) rfl) ?_
   refine Lo u76 (rfl) ?_
   refine Zf (Zc ?_)
   refine Zo _ rfl (fun hc2 => ?_) (fun hc2 => ?_)
   ·try simp only [qB, qN] at hc2
    refine Za ?_
    refine Lo u76 (rfl) ?_
    refine Lo u76 (W26 rfl rfl rfl rfl) ?_
    refine Lo u76 (Zb (.inl rfl) rfl) ?_
    refine Lo u76 (v_iHi (k := m) rfl rfl rfl rfl rfl rfl rfl (by omega)) ?_
    refine Lo u76 (rfl) ?_
    refine Lo u76 (W13 rfl rfl rfl rfl rfl rfl rfl) ?_
    refine Zf ?_
    refine ZD (mk 76 75557863725914323419085) (env' := u76) rfl ⟨(), rfl, ?_⟩
    first
      | exact ⟨trivial, rfl⟩
      | exact ⟨trivial, by rw [List.take_of_length_le (l := q.fixed) (by omega)]⟩
   ·try simp only [qB, qN] at hc2
    refine Zk ?_
    refine ZD (mk 76 75557863725914323419085) (env' := u76) rfl ⟨(), rfl, ?_⟩
    first
      | exact ⟨trivial, rfl⟩
      | exact ⟨trivial, by rw [List.take_of_length_le (l := q.fixed) (by omega)]⟩
  ·rintro u0 _ ⟨_, rfl⟩
   refine ZU (env' := u76) rfl ?_
   refine Zd (Za ?_)
   refine Lo u76 (Zg (VVal.slice none 0 0 true 0) (.inr rfl) rfl) ?_
   refine Zf (Zc (Zd (Zd (Za ?_))))
   refine Lo u76 (Zg (VVal.int .i64 0) (.inr rfl) rfl) ?_
   refine Zf (Zc (Zj ?_))
   refine ZC (mk 76 75557863725914323418893) (env' := u76) rfl ?_
   refine ZJ (fun (⟨k, lv⟩ : Nat × VVal) => q.rules.length - k) (fun (⟨k, lv⟩ : Nat × VVal) => [(6, lv), (7, iI (k : Nat))]) (fun (⟨k, lv⟩ : Nat × VVal) G => (k ≤ q.rules.length) ∧ ∃ X, G = (H ++ [.dead, pqB 0 ZK ZK ZK, .cells [iI q.users, fzW (q.who.take m), fzI (q.fixed.take m), fzR q.rules] true]) ++ X ∧ LV (H.length + 3) 3 X lv (((q.rules.take k).filter (fewR m)).flatMap rlB) ((q.rules.take k).filter (fewR m)).length) ⟨0, _⟩ rfl ?_ ?_
   ·refine ⟨?_, ⟨[], (List.append_nil _).symm, LV.nil _ _ _⟩⟩
    exact Nat.zero_le _
   rintro ⟨k, lv⟩ _ ⟨hk, ⟨X, rfl, hl⟩⟩
   refine ZU (env' := u76) rfl ?_
   refine Zd (Zd (Za ?_))
   refine Lo u76 (Zb (.inl rfl) rfl) ?_
   refine Lo u76 (rfl) ?_
   refine Lo u76 (W26 rfl rfl rfl rfl) ?_
   refine Lo u76 (rfl) ?_
   refine Lo u76 (rfl) ?_
   refine Zf (Zc ?_)
   refine Zo _ rfl (fun hc3 => ?_) (fun hc3 => ?_)
   ·try simp only [qB, qN] at hc3
    refine Zk (Zc (Zd (Zj (Zd (Za ?_)))))
    refine Lo u76 (Zg (VVal.bool true) (.inr rfl) rfl) ?_
    refine Zf (Zc (Zd (Zd (Za ?_))))
    refine Lo u76 (Zg (VVal.int .i64 0) (.inr rfl) rfl) ?_
    refine Zf (Zc (Zj ?_))
    refine ZC (mk 76 75557863725914323418125) (env' := u76) rfl ?_
    refine ZJ (fun (⟨s, b⟩ : Nat × Bool) => (q.rules.getD k r0).steps.length - s) (fun (⟨s, b⟩ : Nat × Bool) => [(8, .bool b), (9, iI (s : Nat))]) (fun (⟨s, b⟩ : Nat × Bool) G => (s ≤ (q.rules.getD k r0).steps.length ∧ b = ((q.rules.getD k r0).steps.take s).all fun x => decide (x < (m : Int))) ∧ G = (H ++ [.dead, pqB 0 ZK ZK ZK, .cells [iI q.users, fzW (q.who.take m), fzI (q.fixed.take m), fzR q.rules] true]) ++ X) ⟨0, true⟩ rfl ?_ ?_
    ·refine ⟨?_, rfl⟩
     exact ⟨Nat.zero_le _, rfl⟩
    rintro ⟨s, b⟩ _ ⟨⟨hs, hb⟩, rfl⟩
    refine ZU (env' := u76) rfl ?_
    refine Zd (Zd ?_)
    have hst := h4 _ (rul_mem (l := q.rules) (k := k) (by omega))
    refine Za ?_
    refine Lo u76 (Zb (.inl rfl) rfl) ?_
    refine Lo u76 (rfl) ?_
    refine Lo u76 (W26 rfl rfl rfl rfl) ?_
    refine Lo u76 (Zb (.inl rfl) rfl) ?_
    refine Lo u76 (W18 rfl rfl rfl rfl rfl rfl rfl) ?_
    refine Lo u76 (rfl) ?_
    refine Lo u76 (W26 rfl rfl rfl rfl) ?_
    refine Lo u76 (rfl) ?_
    refine Lo u76 (rfl) ?_
    refine Zf (Zc ?_)
    refine Zo _ rfl (fun hc4 => ?_) (fun hc4 => ?_)
    ·try simp only [qB, qN] at hc4
     refine Zk (Zc (Zd (Zj (Za ?_))))
     refine Lo u76 (Zb (.inl rfl) rfl) ?_
     refine Lo u76 (Zb (.inl rfl) rfl) ?_
     refine ZL 51 (env1 := u76) (env2 := u76) rfl rfl rfl (fun hg5 => ?_) (fun hg5 => ?_)
     ·try simp only [qB, qN] at hg5
      refine Lo u76 (rfl) ?_
      refine Lo u76 (W26 rfl rfl rfl rfl) ?_
      refine Lo u76 (Zb (.inl rfl) rfl) ?_
      refine Lo u76 (W18 rfl rfl rfl rfl rfl rfl rfl) ?_
      refine Lo u76 (rfl) ?_
      refine Lo u76 (W26 rfl rfl rfl rfl) ?_
      refine Lo u76 (Zb (.inl rfl) rfl) ?_
      refine Lo u76 (W18 rfl rfl rfl rfl rfl rfl rfl) ?_
      refine Lo u76 (W26 rfl rfl rfl rfl) ?_
      refine Lo u76 (Zb (.inl rfl) rfl) ?_
      refine Lo u76 (rfl) ?_
      refine Lo u76 (Zz rfl rfl rfl) ?_
      refine Lo u76 (Zb (.inr rfl) rfl) ?_
      refine Zf (Zu (Zc (Za ?_)))
      refine Lo u76 (Zb (.inl rfl) rfl) ?_
      refine Lo u76 (W14 rfl rfl rfl) ?_
      refine Lo u76 (Zb (.inr rfl) rfl) ?_
      refine Zf ?_
      refine ZD (mk 76 75557863725914323418125) (env' := u76) rfl ⟨⟨s + 1, _⟩, ?_, rfl, ?_⟩
      ·first | omega | (simp only []; omega)
      ·first | exact ⟨⟨by omega, by rw [YB (by omega), ← hb, (show b = true by assumption), Bool.true_and]⟩, rfl⟩ | exact ⟨⟨by omega, by rw [YB (by omega), ← hb, (show b = false by simp_all), Bool.false_and]⟩, rfl⟩
     ·try simp only [qB, qN] at hg5
      refine Lf u76 ?_
      refine Lf u76 ?_
      refine Lf u76 ?_
      refine Lf u76 ?_
      refine Lf u76 ?_
      refine Lf u76 ?_
      refine Lf u76 ?_
      refine Lf u76 ?_
      refine Lf u76 ?_
      refine Lf u76 ?_
      refine Lf u76 ?_
      refine Lo u76 (ZN (VVal.bool false) rfl rfl rfl) ?_
      refine Lo u76 (Zb (.inr rfl) rfl) ?_
      refine Zf (Zu (Zc (Za ?_)))
      refine Lo u76 (Zb (.inl rfl) rfl) ?_
      refine Lo u76 (W14 rfl rfl rfl) ?_
      refine Lo u76 (Zb (.inr rfl) rfl) ?_
      refine Zf ?_
      refine ZD (mk 76 75557863725914323418125) (env' := u76) rfl ⟨⟨s + 1, _⟩, ?_, rfl, ?_⟩
      ·first | omega | (simp only []; omega)
      ·first | exact ⟨⟨by omega, by rw [YB (by omega), ← hb, (show b = true by assumption), Bool.true_and]⟩, rfl⟩ | exact ⟨⟨by omega, by rw [YB (by omega), ← hb, (show b = false by simp_all), Bool.false_and]⟩, rfl⟩
    ·try simp only [qB, qN] at hc4
     refine ZP (ZR (ZH (ZO (Zc (Zd (Za ?_))))))
     refine Lo u76 (Zb (.inl rfl) rfl) ?_
     refine Zf (Zc ?_)
     refine Zo _ rfl (fun hc6 => ?_) (fun hc6 => ?_)
     ·try simp only [qB, qN] at hc6
      refine Za ?_
      refine Lo u76 (Zb (.inl rfl) rfl) ?_
      refine Lo u76 (rfl) ?_
      refine Lo u76 (W26 rfl rfl rfl rfl) ?_
      refine Lo u76 (Zb (.inl rfl) rfl) ?_
      refine Lo u76 (W18 rfl rfl rfl rfl rfl rfl rfl) ?_
      refine Lo u76 (W24 rfl rfl rfl rfl rfl) ?_
      refine Lo u76 (Zx rfl rfl (by decide) rfl) ?_
      refine L_opX rfl rfl (YI rfl rfl rfl rfl rfl rfl rfl (by simp) hl rfl rfl (by decide) XH28 (by decide)) ?_
      rintro _ _ ⟨Y1, rfl, rfl, hY1, hY2, hY3⟩
      refine Le u76 ?_
      refine Lo u76 (Zb (.inr rfl) rfl) ?_
      refine Zf (Zu (Zc (Za ?_)))
      refine Lo u76 (Zb (.inl rfl) rfl) ?_
      refine Lo u76 (W14 rfl rfl rfl) ?_
      refine Lo u76 (Zb (.inr rfl) rfl) ?_
      refine Zf ?_
      obtain rfl : s = (q.rules.getD k r0).steps.length := by omega
      rw [List.take_length] at hb
      refine ZD (mk 76 75557863725914323418893) (env' := u76) rfl ⟨⟨k + 1, _⟩, ?_, rfl, ?_⟩
      ·first | omega | (simp only []; omega)
      ·first | exact ⟨by omega, _, rfl, by rw [YA (by omega), if_pos (show fewR m (q.rules.getD k r0) = true from hb.symm.trans (by assumption))]; exact LV.pushF hY3⟩ | exact ⟨by omega, _, rfl, by rw [YA (by omega), if_neg (fun e => by rw [show fewR m (q.rules.getD k r0) = b from hb.symm] at e; rw [(by assumption : b = false)] at e; cases e), List.append_nil]; exact hl⟩
     ·try simp only [qB, qN] at hc6
      refine Zk (Zu (Zc (Za ?_)))
      refine Lo u76 (Zb (.inl rfl) rfl) ?_
      refine Lo u76 (W14 rfl rfl rfl) ?_
      refine Lo u76 (Zb (.inr rfl) rfl) ?_
      refine Zf ?_
      obtain rfl : s = (q.rules.getD k r0).steps.length := by omega
      rw [List.take_length] at hb
      refine ZD (mk 76 75557863725914323418893) (env' := u76) rfl ⟨⟨k + 1, _⟩, ?_, rfl, ?_⟩
      ·first | omega | (simp only []; omega)
      ·first | exact ⟨by omega, _, rfl, by rw [YA (by omega), if_pos (show fewR m (q.rules.getD k r0) = true from hb.symm.trans (by assumption))]; exact LV.pushF hY3⟩ | exact ⟨by omega, _, rfl, by rw [YA (by omega), if_neg (fun e => by rw [show fewR m (q.rules.getD k r0) = b from hb.symm] at e; rw [(by assumption : b = false)] at e; cases e), List.append_nil]; exact hl⟩
   ·try simp only [qB, qN] at hc3
    refine ZP (ZR (ZH (ZO (Zc (Zd ?_)))))
    obtain rfl : k = q.rules.length := by omega
    rw [List.take_length] at hl
    obtain ⟨b, hb1, hb2⟩ := hl.pos (List.length_pos_iff.2 hnr)
    subst hb1
    refine Yi (List.append_assoc _ _ _) ?_
    refine Za ?_
    refine Lo u76 (Zb (.inl rfl) rfl) ?_
    refine Lo u76 (rfl) ?_
    refine Lo u76 (W13 rfl rfl rfl rfl rfl rfl rfl) ?_
    refine Zf (Zc (Zd (Za ?_)))
    refine Lo u76 (W24 rfl rfl rfl rfl rfl) ?_
    refine Lo u76 (W13 rfl rfl rfl rfl rfl rfl rfl) ?_
    refine Zf (Zc (Zl ?_))
    refine YG (.inr rfl) (Yz rfl rfl rfl rfl XH0 XH11) ?_
    refine ⟨_, 3 + b, ?_, rfl, ?_⟩
    ·show VVal.agg [_, _, _, .slice (some (H.length + 3 + b, 0)) _ _ false 3] = _; rw [Nat.add_assoc]; rfl
    ·rw [show 3 + b = b + 3 by omega]; exact hb2
abbrev u33 {a0 a1 a2 a3 a4 a5 a6 a7 a8 a9 a10 a11 a12 a13 a14 a15 a16 a17 a18 a19 a20 a21 a22 a23 a24 a25 a26 a27 a28 a29 a30 a31 a32 : VVal} : VEnv := a0 :: a1 :: a2 :: a3 :: a4 :: a5 :: a6 :: a7 :: a8 :: a9 :: a10 :: a11 :: a12 :: a13 :: a14 :: a15 :: a16 :: a17 :: a18 :: a19 :: a20 :: a21 :: a22 :: a23 :: a24 :: a25 :: a26 :: a27 :: a28 :: a29 :: a30 :: a31 :: a32 :: []
theorem W5y {T : TypeId → Option VTy} {H : Ze} {op : Op} {ρ : Operand → VVal} {t : TypeId} {a : Operand} {y : VTy} {p v : VVal} (ho : op = .load t a) (ha : ρ a = p) (hy : T t = some y) (hd : Zm y.desc = false) (h : LdOk H p v := by first | exact .inl ⟨_, _, rfl, XH50⟩ | exact .inr ⟨_, _, _, _, rfl, by exact getBX hm5, XH50⟩) : vop T ρ H op = some (v, H) := v_ld ho ha hy hd h
theorem W5z {T : TypeId → Option VTy} {H : Ze} {op : Op} {ρ : VEnv} {H' : Ze} {t : TypeId} {a : Operand} {i : Nat} {v : VVal} {y : VTy} {b off : Nat} {cs new : List VVal} (ho : op = .store t a (.tmp i)) (hv : ρ[i]? = some v) (ha : ρ.eval a = .ptr (some (b, off))) (hy : T t = some y) (hx : v.cells = some new) (hn : new.length = y.size) (h1 : new.all VVal.one = true) (hb : H[b]? = some (.cells cs true) := by exact getBX (Zp hm6)) (hl : off + new.length ≤ cs.length := by exact XH49) (hH : H.set b (.cells (Zv cs off new) true) = H' := by exact setBX) : vop T ρ.eval H op = some (.skip, H') := ZT ho hv ha hy hx hn h1 hb hl hH
theorem W60 {T : TypeId → Option VTy} {H : Ze} {op : Op} {ρ : VEnv} {H' : Ze} {t : TypeId} {a : Operand} {i : Nat} {v : VVal} {y : VTy} {b off : Nat} {cs new : List VVal} (ho : op = .store t a (.tmp i)) (hv : ρ[i]? = some v) (ha : ρ.eval a = .ptr (some (b, off))) (hy : T t = some y) (hx : v.cells = some new) (hn : new.length = y.size) (h1 : new.all VVal.one = true) (hb : H[b]? = some (.cells cs true) := by exact getB rfl rfl) (hl : off + new.length ≤ cs.length := by exact XH49) (hH : H.set b (.cells (Zv cs off new) true) = H' := by exact setB rfl (show 1 < 2 by decide)) : vop T ρ.eval H op = some (.skip, H') := ZT ho hv ha hy hx hn h1 hb hl hH
theorem W61 {S : V.Sys} {H : Ze} {fn : Func} {ex : Exit} {env : VEnv} {B L : Ze} {v : VVal} {R : VVal → Ze → Prop} (hx : ex = .normal ∨ ex = .ret) (hv : ZZ S.C.T env (B ++ L) fn.results = some v) (h : R v B) (hB : BaseOk H B := by exact XH54) (hu : v.under H.length = true := by first | rfl | exact pb_under (p := wtP p kd k)) : fnK S fn H R ex env (B ++ L) := YE hx hv hB hu h
def wtP (p : Pb) (kd k : Int) : Pb := ((ZG p 8).users, (ZG p 8).who, (ZG p 8).fixed, (ZG p 8).rules ++ [(kd, k, Yv p.who.length, ())], ())
theorem wt_cells {q : List Rul} {r : Rul} : Zs (q.flatMap rlB ++ rlB r) 0 ((q.length + 1) * 3) = some ((q ++ [r]).flatMap rlB) := by
  have e : (q ++ [r]).flatMap rlB = q.flatMap rlB ++ rlB r := by rw [List.flatMap_append, List.flatMap_singleton]
  have hl : (q.flatMap rlB ++ rlB r).length = (q.length + 1) * 3 := by rw [← e, fl3, List.length_append]; rfl
  unfold Zs
  rw [if_pos (by omega), List.drop_zero, List.take_of_length_le (by omega), e]
theorem with_R0 {x : SW} (H : Ze) (p : Pb) (kd k : Int) (hu : -9223372036854775808 ≤ p.users ∧ p.users < 9223372036854775808) (hn : p.who.length ≤ 1000) (hr : (ZG p 8).rules.length ≤ 1000) (hnr : (ZG p 8).rules = []) : F (psys x) 44 [.agg (pbB p), iI kd, iI k] H fun v G => v = .agg (pbB (wtP p kd k)) ∧ G = H := by
 refine Zr Tryd.func44 rfl u33 rfl ?_
 refine Zd (Za ?_)
 refine Lo u33 (Zy rfl rfl rfl) ?_
 refine Lo u33 (ZA rfl rfl) ?_
 refine Zf (Zc (Zd ?_))
 refine Yp (Gh.freezePtrL (cs := pbB p) 3 0 rfl rfl rfl) ?_
 refine Za ?_
 refine Lo u33 (W24 rfl rfl rfl rfl rfl) ?_
 refine Zn rfl rfl rfl (by exact Few_R0 _ p 8 hu _ rfl hnr) ?_
 rintro v G ⟨hv, hG⟩; obtain ⟨Y, hGY⟩ : ∃ Y : Ze, G = (H ++ [VBlk.dead, pqB 0 ZK ZK ZK]) ++ Y := ⟨[], by rw [hG, List.append_nil]; rfl⟩; subst hv; subst hGY; clear hG
 refine Le u33 ?_
 refine Lo u33 (ZA rfl rfl) ?_
 refine Lo u33 (W13 rfl rfl rfl rfl rfl rfl rfl) ?_
 refine Zf (Zc (Zd (Za ?_)))
 refine Lo u33 (Zg (VVal.slice none 0 0 true 0) (.inr rfl) rfl) ?_
 refine Zf (Zc (Zd (Zd (Za ?_))))
 refine Lo u33 (Zg (VVal.int .i64 0) (.inr rfl) rfl) ?_
 refine Zf (Zc (Zj ?_))
 refine ZC (mk 33 8589933617) (env' := u33) rfl ?_
 refine ZJ (fun (⟨i, av⟩ : Nat × VVal) => p.who.length - i) (fun (⟨i, av⟩ : Nat × VVal) => [(8, av), (9, iI (i : Nat))]) (fun (⟨i, av⟩ : Nat × VVal) G => (i ≤ p.who.length) ∧ ∃ X, G = ((H ++ [VBlk.dead, pqB 0 ZK ZK ZK]) ++ (Y ++ [VBlk.cells [iI (ZG p 8).users, fzW (ZG p 8).who, fzI (ZG p 8).fixed, (.slice none 0 0 true 0)] true])) ++ X ∧ LV ((H ++ [VBlk.dead, pqB 0 ZK ZK ZK]) ++ (Y ++ [VBlk.cells [iI (ZG p 8).users, fzW (ZG p 8).who, fzI (ZG p 8).fixed, (.slice none 0 0 true 0)] true])).length 1 X av ((Yv i).map iI) (Yv i).length) ⟨0, _⟩ rfl ?_ ?_
 ·refine ⟨?_, ⟨[], by rw [List.append_nil]; rfl, LV.nil _ _ _⟩⟩
  exact Nat.zero_le _
 rintro ⟨i, av⟩ _ ⟨hi, ⟨X, rfl, hl⟩⟩
 refine ZU (env' := u33) rfl ?_
 refine Zd (Zd (Za ?_))
 refine Lo u33 (Zb (.inl rfl) rfl) ?_
 refine Lo u33 (rfl) ?_
 refine Lo u33 (W26 rfl rfl rfl rfl) ?_
 refine Lo u33 (rfl) ?_
 refine Lo u33 (rfl) ?_
 refine Zf (Zc ?_)
 refine Zo _ rfl (fun hc1 => ?_) (fun hc1 => ?_)
 ·try simp only [qB, qN] at hc1
  refine Zk (Zc (Zd (Zj ?_)))
  have hal := @allS_len i
  refine Za ?_
  refine Lo u33 (Zb (.inl rfl) rfl) ?_
  refine Lo u33 (Zb (.inl rfl) rfl) ?_
  refine Lo u33 (Zx rfl rfl (by decide) rfl) ?_
  refine L_opX rfl rfl (YI rfl rfl rfl rfl rfl rfl rfl rfl hl rfl rfl (by decide) (by show (_ + 1) * 8 ≤ _ ∧ _ + 1 ≤ _; omega) (by decide)) ?_
  rintro _ _ ⟨Y1, rfl, rfl, hY1, hY2, hY3⟩
  refine Le u33 ?_
  refine Lo u33 (Zb (.inr rfl) rfl) ?_
  refine Zf (Zu (Zc (Za ?_)))
  refine Lo u33 (Zb (.inl rfl) rfl) ?_
  refine Lo u33 (W14 rfl rfl rfl) ?_
  refine Lo u33 (Zb (.inr rfl) rfl) ?_
  refine Zf ?_
  refine ZD (mk 33 8589933617) (env' := u33) rfl ⟨⟨i + 1, _⟩, ?_, rfl, ?_⟩
  ·first | omega | (simp only []; omega)
  ·exact ⟨by omega, _, rfl, by rw [allS_succ]; exact LV.pushI hY3⟩
 ·try simp only [qB, qN] at hc1
  refine ZP (ZR (ZH (ZO (Zc (Zd ?_)))))
  obtain rfl : i = p.who.length := by omega
  refine B_ghLVh (env' := u33) 8 hl rfl rfl rfl fun X4 _ _ => ?_
  obtain ⟨X5, hX5, hz5, hm5, hY5⟩ : ∃ X5, (Y ++ [VBlk.cells [iI (ZG p 8).users, fzW (ZG p 8).who, fzI (ZG p 8).fixed, (.slice none 0 0 true 0)] true]) ++ X4 = X5 ∧ True ∧ X5[Y.length]? = some (VBlk.cells [iI (ZG p 8).users, fzW (ZG p 8).who, fzI (ZG p 8).fixed, (.slice none 0 0 true 0)] true) ∧ Y.length < X5.length := ⟨_, rfl, trivial, Zp get_end, by simp⟩
  refine Yi (H' := (H ++ [VBlk.dead, pqB 0 ZK ZK ZK]) ++ X5) (by rw [← hX5]; exact List.append_assoc _ _ _) ?_
  have hlr : LV (H ++ [VBlk.dead, pqB 0 ZK ZK ZK]).length 3 X5 (.slice none 0 0 true 0) ((ZG p 8).rules.flatMap rlB) (ZG p 8).rules.length := by rw [hnr]; exact LV.nil _ _ _
  refine Za ?_
  refine Lo u33 (rfl) ?_
  refine Lo u33 (W5y rfl rfl rfl rfl) ?_
  refine Lo u33 (Zb (.inl rfl) rfl) ?_
  refine Lo u33 (Zb (.inl rfl) rfl) ?_
  refine Lo u33 (Zb (.inl rfl) rfl) ?_
  refine Lo u33 (rfl) ?_
  refine Lo u33 (Zx rfl rfl (by decide) rfl) ?_
  refine L_opX rfl rfl (YI rfl rfl rfl rfl rfl rfl rfl rfl hlr rfl rfl (by decide) (by show (_ + 1) * 40 ≤ _ ∧ _ + 1 ≤ _; omega) (by decide)) ?_
  rintro _ _ ⟨Y1, rfl, rfl, hY1, hY2, hY3⟩; have hm6 : Y1[Y.length]? = some (VBlk.cells [iI (ZG p 8).users, fzW (ZG p 8).who, fzI (ZG p 8).fixed, (.slice none 0 0 true 0)] true) := (hY2 Y.length (fun e => by cases e)).trans hm5
  refine Le u33 ?_
  refine Lo u33 (rfl) ?_
  refine Lo u33 (W5z rfl rfl rfl rfl rfl rfl rfl) ?_
  refine Zf (Zc (Zd ?_))
  obtain ⟨b9, hb8, hb9⟩ := hY3.pos (Nat.succ_pos _)
  obtain rfl : b9 = X5.length + 1 := by simp only [VVal.slice.injEq, Option.some.injEq, Prod.mk.injEq] at hb8; omega
  obtain ⟨Z2, hg4, hz2⟩ := ls_gh (S := psys x) (B := (H ++ [VBlk.dead, pqB 0 ZK ZK ZK])) (rs := (ZG p 8).rules ++ [((kd, k, Yv p.who.length, ()) : Rul)]) (len := (ZG p 8).rules.length + 1) (n := (ZG p 8).rules.length + 1) (set_far hb9 (by omega)) (set_get (Zp hm6)) (wt_cells (q := (ZG p 8).rules) (r := ((kd, k, Yv p.who.length, ()) : Rul))) (by rw [List.length_append]; rfl) (Nat.le_refl _) (by omega)
  refine Yp (hg4 _ _) ?_
  refine Yp (Gh.freezePtrL (H := (H ++ [VBlk.dead, pqB 0 ZK ZK ZK])) (L := Z2) (cs := pbB (wtP p kd k)) 7 (Y.length) rfl hz2 rfl) ?_
  refine Za ?_
  refine Lo u33 (W24 rfl rfl rfl rfl rfl) ?_
  refine Lo u33 (W60 rfl rfl rfl rfl rfl rfl rfl) ?_
  refine Zf (Zc ?_)
  refine Yi (List.append_assoc _ _ _) ?_
  refine Zl ?_
  refine W61 (.inr rfl) (Yz rfl rfl rfl rfl XH0 XH11) ?_
  exact ⟨rfl, rfl⟩
theorem with_R1 {x : SW} (H : Ze) (p : Pb) (kd k : Int) (hu : -9223372036854775808 ≤ p.users ∧ p.users < 9223372036854775808) (hn : p.who.length ≤ 1000) (hr : (ZG p 8).rules.length ≤ 1000) (hnr : (ZG p 8).rules ≠ []) : F (psys x) 44 [.agg (pbB p), iI kd, iI k] H fun v G => v = .agg (pbB (wtP p kd k)) ∧ G = H := by
 refine Zr Tryd.func44 rfl u33 rfl ?_
 refine Zd (Za ?_)
 refine Lo u33 (Zy rfl rfl rfl) ?_
 refine Lo u33 (ZA rfl rfl) ?_
 refine Zf (Zc (Zd ?_))
 refine Yp (Gh.freezePtrL (cs := pbB p) 3 0 rfl rfl rfl) ?_
 refine Za ?_
 refine Lo u33 (W24 rfl rfl rfl rfl rfl) ?_
 refine Zn rfl rfl rfl (by exact Few_R1 _ p 8 hu _ rfl hnr) ?_
 rintro v G ⟨Y, j, rfl, rfl, hb⟩; have hjl := ZI hb
 refine Le u33 ?_
 refine Lo u33 (ZA rfl rfl) ?_
 refine Lo u33 (W13 rfl rfl rfl rfl rfl rfl rfl) ?_
 refine Zf (Zc (Zd (Za ?_)))
 refine Lo u33 (Zg (VVal.slice none 0 0 true 0) (.inr rfl) rfl) ?_
 refine Zf (Zc (Zd (Zd (Za ?_))))
 refine Lo u33 (Zg (VVal.int .i64 0) (.inr rfl) rfl) ?_
 refine Zf (Zc (Zj ?_))
 refine ZC (mk 33 8589933617) (env' := u33) rfl ?_
 refine ZJ (fun (⟨i, av⟩ : Nat × VVal) => p.who.length - i) (fun (⟨i, av⟩ : Nat × VVal) => [(8, av), (9, iI (i : Nat))]) (fun (⟨i, av⟩ : Nat × VVal) G => (i ≤ p.who.length) ∧ ∃ X, G = ((H ++ [VBlk.dead, pqB 0 ZK ZK ZK]) ++ (Y ++ [VBlk.cells [iI (ZG p 8).users, fzW (ZG p 8).who, fzI (ZG p 8).fixed, (.slice (some ((H ++ [VBlk.dead, pqB 0 ZK ZK ZK]).length + j, 0)) (ZG p 8).rules.length (ZG p 8).rules.length false 3)] true])) ++ X ∧ LV ((H ++ [VBlk.dead, pqB 0 ZK ZK ZK]) ++ (Y ++ [VBlk.cells [iI (ZG p 8).users, fzW (ZG p 8).who, fzI (ZG p 8).fixed, (.slice (some ((H ++ [VBlk.dead, pqB 0 ZK ZK ZK]).length + j, 0)) (ZG p 8).rules.length (ZG p 8).rules.length false 3)] true])).length 1 X av ((Yv i).map iI) (Yv i).length) ⟨0, _⟩ rfl ?_ ?_
 ·refine ⟨?_, ⟨[], by rw [List.append_nil]; rfl, LV.nil _ _ _⟩⟩
  exact Nat.zero_le _
 rintro ⟨i, av⟩ _ ⟨hi, ⟨X, rfl, hl⟩⟩
 refine ZU (env' := u33) rfl ?_
 refine Zd (Zd (Za ?_))
 refine Lo u33 (Zb (.inl rfl) rfl) ?_
 refine Lo u33 (rfl) ?_
 refine Lo u33 (W26 rfl rfl rfl rfl) ?_
 refine Lo u33 (rfl) ?_
 refine Lo u33 (rfl) ?_
 refine Zf (Zc ?_)
 refine Zo _ rfl (fun hc1 => ?_) (fun hc1 => ?_)
 ·try simp only [qB, qN] at hc1
  refine Zk (Zc (Zd (Zj ?_)))
  have hal := @allS_len i
  refine Za ?_
  refine Lo u33 (Zb (.inl rfl) rfl) ?_
  refine Lo u33 (Zb (.inl rfl) rfl) ?_
  refine Lo u33 (Zx rfl rfl (by decide) rfl) ?_
  refine L_opX rfl rfl (YI rfl rfl rfl rfl rfl rfl rfl rfl hl rfl rfl (by decide) (by show (_ + 1) * 8 ≤ _ ∧ _ + 1 ≤ _; omega) (by decide)) ?_
  rintro _ _ ⟨Y1, rfl, rfl, hY1, hY2, hY3⟩
  refine Le u33 ?_
  refine Lo u33 (Zb (.inr rfl) rfl) ?_
  refine Zf (Zu (Zc (Za ?_)))
  refine Lo u33 (Zb (.inl rfl) rfl) ?_
  refine Lo u33 (W14 rfl rfl rfl) ?_
  refine Lo u33 (Zb (.inr rfl) rfl) ?_
  refine Zf ?_
  refine ZD (mk 33 8589933617) (env' := u33) rfl ⟨⟨i + 1, _⟩, ?_, rfl, ?_⟩
  ·first | omega | (simp only []; omega)
  ·exact ⟨by omega, _, rfl, by rw [allS_succ]; exact LV.pushI hY3⟩
 ·try simp only [qB, qN] at hc1
  refine ZP (ZR (ZH (ZO (Zc (Zd ?_)))))
  obtain rfl : i = p.who.length := by omega
  refine B_ghLVh (env' := u33) 8 hl rfl rfl rfl fun X4 _ _ => ?_
  obtain ⟨X5, hX5, hz5, hm5, hY5⟩ : ∃ X5, (Y ++ [VBlk.cells [iI (ZG p 8).users, fzW (ZG p 8).who, fzI (ZG p 8).fixed, (.slice (some ((H ++ [VBlk.dead, pqB 0 ZK ZK ZK]).length + j, 0)) (ZG p 8).rules.length (ZG p 8).rules.length false 3)] true]) ++ X4 = X5 ∧ X5[j]? = some (.cells ((ZG p 8).rules.flatMap rlB) true) ∧ X5[Y.length]? = some (VBlk.cells [iI (ZG p 8).users, fzW (ZG p 8).who, fzI (ZG p 8).fixed, (.slice (some ((H ++ [VBlk.dead, pqB 0 ZK ZK ZK]).length + j, 0)) (ZG p 8).rules.length (ZG p 8).rules.length false 3)] true) ∧ Y.length < X5.length := ⟨_, rfl, Zp (Zp hb), Zp get_end, by simp⟩
  refine Yi (H' := (H ++ [VBlk.dead, pqB 0 ZK ZK ZK]) ++ X5) (by rw [← hX5]; exact List.append_assoc _ _ _) ?_
  have hlr : LV (H ++ [VBlk.dead, pqB 0 ZK ZK ZK]).length 3 X5 (.slice (some ((H ++ [VBlk.dead, pqB 0 ZK ZK ZK]).length + j, 0)) (ZG p 8).rules.length (ZG p 8).rules.length false 3) ((ZG p 8).rules.flatMap rlB) (ZG p 8).rules.length := ⟨fl3, .inr ⟨List.length_pos_iff.2 hnr, j, rfl, hz5⟩⟩
  refine Za ?_
  refine Lo u33 (rfl) ?_
  refine Lo u33 (W5y rfl rfl rfl rfl) ?_
  refine Lo u33 (Zb (.inl rfl) rfl) ?_
  refine Lo u33 (Zb (.inl rfl) rfl) ?_
  refine Lo u33 (Zb (.inl rfl) rfl) ?_
  refine Lo u33 (rfl) ?_
  refine Lo u33 (Zx rfl rfl (by decide) rfl) ?_
  refine L_opX rfl rfl (YI rfl rfl rfl rfl rfl rfl rfl rfl hlr rfl rfl (by decide) (by show (_ + 1) * 40 ≤ _ ∧ _ + 1 ≤ _; omega) (by decide)) ?_
  rintro _ _ ⟨Y1, rfl, rfl, hY1, hY2, hY3⟩; have hm6 : Y1[Y.length]? = some (VBlk.cells [iI (ZG p 8).users, fzW (ZG p 8).who, fzI (ZG p 8).fixed, (.slice (some ((H ++ [VBlk.dead, pqB 0 ZK ZK ZK]).length + j, 0)) (ZG p 8).rules.length (ZG p 8).rules.length false 3)] true) := (hY2 Y.length (fun e => by have e2 : (H ++ [VBlk.dead, pqB 0 ZK ZK ZK]).length + j = (H ++ [VBlk.dead, pqB 0 ZK ZK ZK]).length + Y.length := Option.some.inj e; omega)).trans hm5
  refine Le u33 ?_
  refine Lo u33 (rfl) ?_
  refine Lo u33 (W5z rfl rfl rfl rfl rfl rfl rfl) ?_
  refine Zf (Zc (Zd ?_))
  obtain ⟨b9, hb8, hb9⟩ := hY3.pos (Nat.succ_pos _)
  obtain rfl : b9 = X5.length + 1 := by simp only [VVal.slice.injEq, Option.some.injEq, Prod.mk.injEq] at hb8; omega
  obtain ⟨Z2, hg4, hz2⟩ := ls_gh (S := psys x) (B := (H ++ [VBlk.dead, pqB 0 ZK ZK ZK])) (rs := (ZG p 8).rules ++ [((kd, k, Yv p.who.length, ()) : Rul)]) (len := (ZG p 8).rules.length + 1) (n := (ZG p 8).rules.length + 1) (set_far hb9 (by omega)) (set_get (Zp hm6)) (wt_cells (q := (ZG p 8).rules) (r := ((kd, k, Yv p.who.length, ()) : Rul))) (by rw [List.length_append]; rfl) (Nat.le_refl _) (by omega)
  refine Yp (hg4 _ _) ?_
  refine Yp (Gh.freezePtrL (H := (H ++ [VBlk.dead, pqB 0 ZK ZK ZK])) (L := Z2) (cs := pbB (wtP p kd k)) 7 (Y.length) rfl hz2 rfl) ?_
  refine Za ?_
  refine Lo u33 (W24 rfl rfl rfl rfl rfl) ?_
  refine Lo u33 (W60 rfl rfl rfl rfl rfl rfl rfl) ?_
  refine Zf (Zc ?_)
  refine Yi (List.append_assoc _ _ _) ?_
  refine Zl ?_
  refine W61 (.inr rfl) (Yz rfl rfl rfl rfl XH0 XH11) ?_
  exact ⟨rfl, rfl⟩
abbrev u62 {a0 a1 a2 a3 a4 a5 a6 a7 a8 a9 a10 a11 a12 a13 a14 a15 a16 a17 a18 a19 a20 a21 a22 a23 a24 a25 a26 a27 a28 a29 a30 a31 a32 a33 a34 a35 a36 a37 a38 a39 a40 a41 a42 a43 a44 a45 a46 a47 a48 a49 a50 a51 a52 a53 a54 a55 a56 a57 a58 a59 a60 a61 : VVal} : VEnv := a0 :: a1 :: a2 :: a3 :: a4 :: a5 :: a6 :: a7 :: a8 :: a9 :: a10 :: a11 :: a12 :: a13 :: a14 :: a15 :: a16 :: a17 :: a18 :: a19 :: a20 :: a21 :: a22 :: a23 :: a24 :: a25 :: a26 :: a27 :: a28 :: a29 :: a30 :: a31 :: a32 :: a33 :: a34 :: a35 :: a36 :: a37 :: a38 :: a39 :: a40 :: a41 :: a42 :: a43 :: a44 :: a45 :: a46 :: a47 :: a48 :: a49 :: a50 :: a51 :: a52 :: a53 :: a54 :: a55 :: a56 :: a57 :: a58 :: a59 :: a60 :: a61 :: []
namespace MM
theorem Yr (n : Nat) (l : List (BitVec 64)) : (fzW l).under n = true := VVal.underL_map fun _ => rfl
theorem YX (n : Nat) (l : List (BitVec 64)) : VVal.underL n (l.map iW) = true := VVal.underL_map fun _ => rfl
theorem mapI_under (n : Nat) (l : List Int) : VVal.underL n (l.map iI) = true := VVal.underL_map fun _ => rfl
theorem mapW_one (l : List (BitVec 64)) : (l.map iW).all VVal.one = true := by rw [List.all_map]; exact List.all_eq_true.2 fun _ _ => rfl
theorem mapW_all {l : List (BitVec 64)} : Zs (l.map iW) 0 (l.length * 1) = some (l.map iW) := by
  unfold Zs; rw [if_pos XH20, List.drop_zero, List.take_of_length_le XH20]
theorem YL {L : Ze} {p : Nat} {k : VBlk} (h : L[p]? = some k) : L = L.set p k := by
  apply List.ext_getElem?
  intro i
  rw [List.getElem?_set]
  by_cases e : p = i
  · subst e; rw [h]; rw [if_pos rfl, if_pos (List.getElem?_eq_some_iff.1 h).1]
  · rw [if_neg e]
section
variable {T : TypeId → Option VTy} {ρ : Operand → VVal} {H : Ze} {op : Op}
theorem v_eqNilF {t : TypeId} {x y : Operand} {ty : TypeId} {cs : List VVal} {len es : Nat} {ex : Bool} {i : VTy} {e : TypeId} (ho : op = .binOp .eql t x y ty) (hx : ρ x = .fsl cs len es ex) (hy : ρ y = .slice none 0 0 true 0) (hT : T t = some i) (hd : i.desc = .slice e) (hl : len ≠ 0) : vop T ρ H op = some (.bool false, H) := by
  rw [ho]; simp [vop, vbin, hx, hy, veq, hT, hd, hl]
theorem v_wHi {t e : TypeId} {x hi : Operand} {y z : VTy} {l : List (BitVec 64)} {k : Nat} {kd : IntKind} (ho : op = .slice t x none (some hi) none) (hy : T t = some y) (hd : y.desc = .slice e) (hz : T e = some z) (hs : z.size = 1) (hx : ρ x = fzW l) (hh : ρ hi = .int kd (k : Nat)) (hk : k ≤ l.length) : vop T ρ H op = some (fzW (l.take k), H) := by
  rw [v_sliceHi ho hy hd hz hs hx hh hk XH20]
  simp [fzW, Nat.min_eq_left hk, List.map_take]
theorem v_wLo {t e : TypeId} {x lo : Operand} {y z : VTy} {l : List (BitVec 64)} {k : Nat} {kd : IntKind} (ho : op = .slice t x (some lo) none none) (hy : T t = some y) (hd : y.desc = .slice e) (hz : T e = some z) (hs : z.size = 1) (hx : ρ x = fzW l) (hh : ρ lo = .int kd (k : Nat)) (hk : k ≤ l.length) : vop T ρ H op = some (fzW (l.drop k), H) := by
  rw [v_sliceLo ho hy hd hz hs hx hh hk XH20]
  simp [fzW, List.map_drop]
end
abbrev mtB (rows : List (BitVec 64)) (O : List Int) : VBlk := .cells (fzW rows :: O.map iI) true
abbrev seB (w : BitVec 64) : VBlk := .cells [iW w] true
def mtH (H : Ze) (p q : Nat) (rows : List (BitVec 64)) (s : GSt) : Ze := (H.set p (mtB rows s.1)).set q (seB s.2)
section
variable {H L : Ze} {p q : Nat} {rows : List (BitVec 64)} {s : GSt}
theorem mtH_len {n : Nat} (h : H.length = n) : (mtH H p q rows s).length = n := by unfold mtH; rw [List.length_set, List.length_set]; exact h
theorem mtH_id {O : List Int} {w : BitVec 64} (hp : H[p]? = some (mtB rows O)) (hq : H[q]? = some (seB w)) : mtH H p q rows (O, w) = H := by
  unfold mtH; rw [← YL hp, ← YL hq]
theorem mt_q (hq : q < H.length) : (mtH H p q rows s ++ L)[q]? = some (seB s.2) := by
  unfold mtH; exact Zp (List.getElem?_set_self (by rw [List.length_set]; exact hq))
theorem mt_p (hp : p < H.length) (hpq : p ≠ q) : (mtH H p q rows s ++ L)[p]? = some (mtB rows s.1) := by
  unfold mtH; exact Zp (by rw [List.getElem?_set_ne (Ne.symm hpq)]; exact List.getElem?_set_self hp)
theorem mt_setq {w : BitVec 64} (hq : q < H.length) : (mtH H p q rows s ++ L).set q (seB w) = mtH H p q rows (s.1, w) ++ L := by
  rw [Yl (by rw [mtH_len rfl]; exact hq)]; unfold mtH; rw [List.set_set]
theorem mt_setp0 {k : VBlk} (hp : p < H.length) (hpq : p ≠ q) : (mtH H p q rows s ++ L).set p k = (H.set p k).set q (seB s.2) ++ L := by
  rw [Yl (by rw [mtH_len rfl]; exact hp)]; unfold mtH
  rw [List.set_comm _ _ (Ne.symm hpq), List.set_set]
theorem mt_setp {u : Int} {r : Int} (hp : p < H.length) (hpq : p ≠ q) (hu : u.toNat < s.1.length) : (mtH H p q rows s ++ L).set p (.cells (Zv (fzW rows :: s.1.map iI) (0 + 1 + u.toNat * 1) [iI r]) true) = mtH H p q rows (s.1.set u.toNat r, s.2) ++ L := by
  have : Zv (fzW rows :: s.1.map iI) (0 + 1 + u.toNat * 1) [iI r] = fzW rows :: (s.1.set u.toNat r).map iI := by
    rw [show 0 + 1 + u.toNat * 1 = u.toNat + 1 by omega]
    unfold Zv
    rw [List.map_set, List.set_eq_take_append_cons_drop, if_pos (by rw [List.length_map]; exact hu)]; simp
  rw [this, mt_setp0 hp hpq]; rfl
theorem mt_mt {t : GSt} (hp : p < H.length) (hq : q < H.length) (hpq : p ≠ q) : mtH (mtH H p q rows s ++ L) p q rows t = mtH H p q rows t ++ L := by
  have : mtH (mtH H p q rows s ++ L) p q rows t = ((mtH H p q rows s ++ L).set p (mtB rows t.1)).set q (seB t.2) := rfl
  rw [this, mt_setp0 hp hpq, Yl (by simp; exact hq), List.set_set]; rfl
theorem mt_len6 {u : Int} {v : VVal} (h : u.toNat < s.1.length) : 0 + 1 + u.toNat * 1 + [v].length ≤ (fzW rows :: s.1.map iI).length := by
  show 0 + 1 + u.toNat * 1 + 1 ≤ (s.1.map iI).length + 1
  rw [List.length_map]; omega
theorem not_of_f {b : Bool} (h : b = false) : ¬ b = true := by rw [h]; decide
theorem mt_base (hl : True) : BaseOk H (mtH H p q rows s) := BaseOk.set (BaseOk.set (BaseOk.refl _) _ (by show VVal.underL _ (fzW rows :: s.1.map iI) = true; simp [VVal.underL, Yr, mapI_under])) _ rfl
theorem own_cell {u : Int} (h : 0 ≤ u ∧ u < s.1.length) : (fzW rows :: s.1.map iI)[0 + 1 + u.toNat * 1]? = some (iI (s.1.getD u.toNat 0)) := by
  rw [show 0 + 1 + u.toNat * 1 = u.toNat + 1 by omega, List.getElem?_cons_succ]
  have : u.toNat < s.1.length := by omega
  simp [List.getElem?_eq_getElem this]
end
theorem mset_spec {x : SW} (H : Ze) (w : BitVec 64) : F (psys x) 100 [iW w] H fun v G => v = .agg [iW w] ∧ G = H := by
  refine Zr Tryd.func100 rfl u6 rfl ?_
  refine Zd (Za ?_)
  refine Zq (env' := u6) rfl rfl (ZA rfl rfl) rfl ?_
  refine Zf (Zc (Zd (Za ?_)))
  refine Zq (env' := u6) rfl rfl (rfl) rfl ?_
  refine Zq (env' := u6) rfl rfl (Zb (.inl rfl) rfl) rfl ?_
  refine Zn rfl rfl rfl (by exact Of_spec _ 0#64 _) ?_
  rintro _ _ ⟨rfl, rfl⟩
  refine L_env (env' := u6) rfl ?_
  refine Zq (env' := u6) rfl rfl (ZT rfl rfl rfl rfl rfl rfl rfl XH8 XH3 XH21) rfl ?_
  refine Zf (Zc (Zl ?_))
  refine YE (.inr rfl) (Yz rfl rfl rfl rfl XH8 XH4) XH12 XH15 ?_
  exact ⟨rfl, rfl⟩
theorem fits_spec {x : SW} (H : Ze) (l : List (BitVec 64)) : F (psys x) 93 [fzW l] H fun v G => v = .bool (decide ((l.length : Int) ≤ 12)) ∧ G = H := by
  refine Zr Tryd.func93 rfl u6 rfl ?_
  refine Zd (Za ?_)
  refine Zq (env' := u6) rfl rfl (Zg (VVal.bool false) (.inr rfl) rfl) rfl ?_
  refine Zf (Zc (Zd (Za ?_)))
  refine Zq (env' := u6) rfl rfl (Zb (.inl rfl) rfl) rfl ?_
  refine Zq (env' := u6) rfl rfl (rfl) rfl ?_
  refine Zq (env' := u6) rfl rfl (rfl) rfl ?_
  refine Zq (env' := u6) rfl rfl (Zb (.inr rfl) rfl) rfl ?_
  refine Zf (Zc (Zl ?_))
  refine YE (.inr rfl) (Zi rfl rfl) XH12 XH15 ?_
  exact ⟨rfl, rfl⟩
theorem grow_in {x : SW} {p q n : Nat} {rows : List (BitVec 64)} (hpq : p ≠ q) (ih : ∀ (H : Ze) (row : Int) (O : List Int) (S : BitVec 64), H[p]? = some (mtB rows O) → H[q]? = some (seB S) → 0 ≤ row → row < rows.length → Gok rows O → 64 - YK 64 S < n → F (psys x) 150 [.ptr (some (p, 0)), iI row, .ptr (some (q, 0))] H fun v G => v = .bool (grw rows n row (O, S)).1 ∧ G = mtH H p q rows (grw rows n row (O, S)).2) (H L : Ze) (s : GSt) (hp : p < H.length) (hq : q < H.length) (row : Int) (h0 : 0 ≤ row) (h1 : row < rows.length) (hk : Gok rows s.1) (hm : 64 - YK 64 s.2 < n) :
    F (psys x) 150 [.ptr (some (p, 0)), iI row, .ptr (some (q, 0))] (mtH H p q rows s ++ L) fun v G => v = .bool (grw rows n row s).1 ∧ G = mtH H p q rows (grw rows n row s).2 ++ L := by
  have := ih (mtH H p q rows s ++ L) row s.1 s.2 (mt_p hp hpq) (mt_q hq) h0 h1 hk hm
  rw [mt_mt hp hq hpq] at this
  exact this
theorem grow_s {x : SW} (p q n : Nat) (rows : List (BitVec 64)) (hpq : p ≠ q) (ih : ∀ (H : Ze) (row : Int) (O : List Int) (S : BitVec 64), H[p]? = some (mtB rows O) → H[q]? = some (seB S) → 0 ≤ row → row < rows.length → Gok rows O → 64 - YK 64 S < n → F (psys x) 150 [.ptr (some (p, 0)), iI row, .ptr (some (q, 0))] H fun v G => v = .bool (grw rows n row (O, S)).1 ∧ G = mtH H p q rows (grw rows n row (O, S)).2) (H : Ze) (row : Int) (O : List Int) (S : BitVec 64) (hp : H[p]? = some (mtB rows O)) (hq : H[q]? = some (seB S)) (h0 : 0 ≤ row) (h1 : row < rows.length) (hO : Gok rows O) (hm : 64 - YK 64 S < n + 1) (h62 : rows.length < 4611686018427387904) : F (psys x) 150 [.ptr (some (p, 0)), iI row, .ptr (some (q, 0))] H fun v G => v = .bool (grw rows (n + 1) row (O, S)).1 ∧ G = mtH H p q rows (grw rows (n + 1) row (O, S)).2 := by
  have hpH := ZI hp
  have hqH := ZI hq
  refine Zr Tryd.func150 rfl u62 rfl ?_
  refine Zd (Za ?_)
  refine Zq (env' := u62) rfl rfl (Zy rfl rfl rfl) rfl ?_
  refine Zq (env' := u62) rfl rfl (Zy rfl rfl rfl) rfl ?_
  refine Zq (env' := u62) rfl rfl (Zy rfl rfl rfl) rfl ?_
  refine Zq (env' := u62) rfl rfl (ZA rfl rfl) rfl ?_
  refine Zf (Zc (Zd (Zd ?_)))
  refine ZW [0, 1, 2, 3, 4, 5, 6, 7, 8, 9, 10, 11, 12] #[0, 1, 3, 7, 0, 31, 63, 0, 128, 384, 1023, 2047, 4095] XH6 XH6 XH6 ?_
  refine Yb (env' := u62) (c := .look) rfl rfl rfl XH7 rfl rfl rfl ?_
  refine Yb (env' := u62) (c := .calm) rfl rfl rfl (rfl) rfl rfl rfl ?_
  refine Yb (env' := u62) (c := .calm) rfl rfl rfl (rfl) rfl rfl rfl ?_
  refine Yb (env' := u62) (c := .look) rfl rfl rfl XH7 rfl rfl rfl ?_
  refine Yb (env' := u62) (c := .look) rfl rfl rfl XH7 rfl rfl rfl ?_
  refine Yb (env' := u62) (c := .calm) rfl rfl rfl XH45 rfl rfl rfl ?_
  refine Yb (env' := u62) (c := .look) rfl rfl rfl XH7 rfl rfl rfl ?_
  refine Yb (env' := u62) (c := .look) rfl rfl rfl XH7 rfl rfl rfl ?_
  refine Yb (env' := u62) (c := .calm) rfl rfl rfl (rfl) rfl rfl rfl ?_
  refine Yb (env' := u62) (c := .look) rfl rfl rfl XH7 rfl rfl rfl ?_
  refine Yb (env' := u62) (c := .calm) rfl rfl rfl (v_andNotW rfl rfl rfl) rfl rfl rfl ?_
  refine Yf (env' := u62) rfl rfl rfl rfl rfl (by exact mset_spec _ _) XH26 rfl rfl ?_
  refine Yf (env' := u62) rfl rfl rfl rfl rfl (by exact All_spec _ _) XH26 rfl rfl ?_
  refine Z3 [] XH6 (trivial) ?_
  refine Zc (Zj ?_)
  refine ZC (true :: true :: true :: false :: false :: false :: false :: true :: true :: true :: true :: true :: true :: true :: true :: true :: true :: true :: true :: true :: false :: true :: true :: true :: true :: true :: true :: true :: true :: true :: true :: true :: true :: true :: true :: true :: true :: true :: true :: true :: true :: true :: true :: true :: true :: true :: true :: true :: true :: true :: true :: true :: true :: true :: true :: true :: true :: true :: true :: true :: true :: true :: []) (env' := u62) rfl ?_
  refine B_rangeM cI (pl (rows.getD row.toNat 0 &&& ~~~S) 0) (fun l0 h => by cases h) rfl (fun l G R h => All1_spec _ _ _ _ h) (σ := GSt × Bool) (fun k s => mtH H p q rows s.1 ++ [.cells [.ptr (some (p, 0))] true, .cells [iI row] true, .cells [.ptr (some (q, 0))] true, .cells [.bool s.2] true, k]) ((O, S), false) (fun k => by show _ = mtH H p q rows (O, S) ++ _; rw [mtH_id hp hq, List.append_assoc]; rfl) (fun k s => by rw [List.length_append]; exact ZB (mtH_len rfl) rfl) (fun k k1 s => by rw [List.length_append]; exact ZF (mtH_len rfl)) (fun pre s => ∃ z, (pl (rows.getD row.toNat 0 &&& ~~~S) 0) = pre ++ z ∧ grL (grw rows n) row (pl (rows.getD row.toNat 0 &&& ~~~S) 0) (O, S) = grL (grw rows n) row z s.1 ∧ s.1.1 = O ∧ 64 - YK 64 s.1.2 ≤ n ∧ s.2 = false) ?_ (fun j pre c s => (j = Code.ret ∧ (grL (grw rows n) row (pl (rows.getD row.toNat 0 &&& ~~~S) 0) (O, S) = (true, s.1) ∧ s.2 = true))) rfl ?_ ?_ ?_
  · exact ⟨_, rfl, rfl, rfl, by show 64 - YK 64 S ≤ n; omega, rfl⟩
  · intro pre c post s hx hI kr kb hkr hkb
    obtain ⟨s1, res⟩ := s
    try dsimp only at hI ⊢
    obtain ⟨z, hz, hg, hO1, hcm, hres⟩ := hI
    have hres : res = false := hres
    subst hres
    obtain rfl : z = c :: post := List.append_cancel_left (hz.symm.trans hx)
    have hO1 : s1.1 = O := hO1
    have hcm : 64 - YK 64 s1.2 ≤ n := hcm
    have hg : grL (grw rows n) row (pl (rows.getD row.toNat 0 &&& ~~~S) 0) (O, S) = grL (grw rows n) row (c :: post) s1 := hg
    have hcx : c ∈ (pl (rows.getD row.toNat 0 &&& ~~~S) 0) := by rw [hx]; simp
    obtain ⟨_, hc64, _⟩ := mem_pl.1 hcx
    have hk1 : Gok rows s1.1 := by rw [hO1]; exact hO
    have hl1 : s1.1.length = 64 := hk1.len
    have hnn1 := hk1.nn c hc64
    refine ZU (env' := u62) rfl ?_
    refine Za ?_
    refine Zq (env' := u62) rfl rfl (Zb (.inr rfl) rfl) rfl ?_
    refine Zf ?_
    refine ⟨rfl, (s1, false), rfl, ?_⟩
    try dsimp only
    refine Zj (Zd (Zd (Za ?_)))
    refine Zq (env' := u62) rfl rfl XH7 rfl ?_
    refine Zq (env' := u62) rfl rfl (rfl) rfl ?_
    refine Zq (env' := u62) rfl rfl XH7 rfl ?_
    refine Zq (env' := u62) rfl rfl (Zb (.inl rfl) rfl) rfl ?_
    refine Zq (env' := u62) rfl rfl (v_shrW rfl rfl rfl XH2) rfl ?_
    refine Zq (env' := u62) rfl rfl (v_andW (b := 1#64) rfl rfl rfl) rfl ?_
    refine Zq (env' := u62) rfl rfl (rfl) rfl ?_
    refine Zf (Zc ?_)
    refine Zo _ rfl (fun hc1 => ?_) (fun hc1 => ?_)
    · try simp only [decide_eq_true_eq, decide_eq_false_iff_not, Bool.not_eq_true', Bool.not_eq_false', bne_iff_ne, beq_iff_eq, Bool.and_eq_true, Bool.or_eq_true, Bool.not_eq_true, ge_iff_le, gt_iff_lt, Int.not_le, Int.not_lt, beq_eq_false_iff_ne, bne_eq_false_iff_eq, ne_eq, Decidable.not_not, Z4, Ye, Yd] at hc1
      refine ZP (ZR (ZO ?_))
      have hseen : s1.2.getLsbD c = true := sh1.1 (by assumption)
      refine ⟨(s1, false), rfl, .inl ⟨rfl, ?_⟩⟩
      exact ⟨post, by rw [hx, List.append_assoc]; rfl, by rw [hg, grL, if_pos hseen], hO1, hcm, rfl⟩
    · try simp only [decide_eq_true_eq, decide_eq_false_iff_not, Bool.not_eq_true', Bool.not_eq_false', bne_iff_ne, beq_iff_eq, Bool.and_eq_true, Bool.or_eq_true, Bool.not_eq_true, ge_iff_le, gt_iff_lt, Int.not_le, Int.not_lt, beq_eq_false_iff_ne, bne_eq_false_iff_eq, ne_eq, Decidable.not_not, Z4, Ye, Yd] at hc1
      refine Zk (Zc (Zd ?_))
      refine ZW [0, 1, 2, 3, 4, 5, 6, 7] #[0, 1, 3, 0, 8, 31, 63, 127] XH6 XH6 XH6 ?_
      have hnseen : ¬ s1.2.getLsbD c = true := fun e => absurd (sh1.2 e) (by assumption)
      have hcg := come_grow (s := s1.2) (t := s1.2 ||| 1#64 <<< c) (fun a ha => (or1 hc64).2 (.inl ha)) ⟨c, (or1 hc64).2 (.inr rfl), bool_f hnseen⟩
      have hcl := come_le (s1.2 ||| 1#64 <<< c)
      refine Yb (env' := u62) (c := .look) rfl rfl rfl XH7 rfl rfl rfl ?_
      refine Yb (env' := u62) (c := .calm) rfl rfl rfl (rfl) rfl rfl rfl ?_
      refine Yb (env' := u62) (c := .look) rfl rfl rfl XH7 rfl rfl rfl ?_
      refine Yb (env' := u62) (c := .calm) rfl rfl rfl (Zb (.inl rfl) rfl) rfl rfl rfl ?_
      refine Yb (env' := u62) (c := .calm) rfl rfl rfl (v_shl1 rfl rfl rfl XH2) rfl rfl rfl ?_
      refine Yb (env' := u62) (c := .calm) rfl rfl rfl (v_orW rfl rfl rfl) rfl rfl rfl ?_
      refine Yb (env' := u62) (c := .calm) rfl rfl rfl (rfl) rfl rfl rfl ?_
      refine Yb (env' := u62) (c := .turn) rfl rfl rfl (ZT rfl rfl rfl rfl rfl rfl rfl XH44 XH3 (by exact mt_setq hqH)) rfl rfl rfl ?_
      refine Z3 [] XH6 (trivial) ?_
      refine Zc (Zd ?_)
      refine ZW [0, 1, 2, 3, 4, 5, 6, 7, 8, 9, 10, 11, 12, 13, 14, 15, 16, 17, 18] #[0, 0, 1, 5, 15, 31, 63, 127, 255, 255, 255, 767, 2815, 7935, 16127, 32511, 255, 131071, 262143] XH6 XH6 XH6 ?_
      refine Yb (env' := u62) (c := .look) rfl rfl rfl XH10 rfl rfl rfl ?_
      refine Yb (env' := u62) (c := .calm) rfl rfl rfl (Zb (.inl rfl) rfl) rfl rfl rfl ?_
      refine Yb (env' := u62) (c := .calm) rfl rfl rfl (rfl) rfl rfl rfl ?_
      refine Yb (env' := u62) (c := .calm) rfl rfl rfl (rfl) rfl rfl rfl ?_
      refine Yb (env' := u62) (c := .calm) rfl rfl rfl XH43 rfl rfl rfl ?_
      refine Yb (env' := u62) (c := .look) rfl rfl rfl XH19 rfl rfl rfl ?_
      refine Yb (env' := u62) (c := .calm) rfl rfl rfl (rfl) rfl rfl rfl ?_
      refine Yb (env' := u62) (c := .calm) rfl rfl rfl (Zb (.inl rfl) rfl) rfl rfl rfl ?_
      refine O_split 43 (env1 := u62) (env2 := u62) rfl rfl rfl (fun hg2 => ?_) (fun hg2 => ?_)
      · try simp only [decide_eq_true_eq, decide_eq_false_iff_not, Bool.not_eq_true', Bool.not_eq_false', bne_iff_ne, beq_iff_eq, Bool.and_eq_true, Bool.or_eq_true, Bool.not_eq_true, ge_iff_le, gt_iff_lt, Int.not_le, Int.not_lt, beq_eq_false_iff_ne, bne_eq_false_iff_eq, ne_eq, Decidable.not_not, Z4, Ye, Yd] at hg2
        refine O_off (env' := u62) rfl rfl rfl rfl ?_
        refine O_off (env' := u62) rfl rfl rfl rfl ?_
        refine O_off (env' := u62) rfl rfl rfl rfl ?_
        refine O_off (env' := u62) rfl rfl rfl rfl ?_
        refine O_off (env' := u62) rfl rfl rfl rfl ?_
        refine O_off (env' := u62) rfl rfl rfl rfl ?_
        refine O_off (env' := u62) rfl rfl rfl rfl ?_
        refine O_off (env' := u62) rfl rfl rfl rfl ?_
        refine O_off (env' := u62) rfl rfl rfl rfl ?_
        refine O_off (env' := u62) rfl rfl rfl rfl ?_
        refine Yb (env' := u62) (c := .calm) rfl rfl rfl (ZY (VVal.bool true) rfl rfl rfl) rfl rfl rfl ?_
        refine Z3 [] XH6 (trivial) ?_
        refine Zc ?_
        refine Z0 rfl rfl ?_
        refine Zd ?_
        refine ZW [0, 1, 2, 3, 4, 5, 6, 7] #[0, 0, 0, 4, 1, 17, 63, 127] XH6 XH6 XH6 ?_
        refine Yb (env' := u62) (c := .look) rfl rfl rfl XH10 rfl rfl rfl ?_
        refine Yb (env' := u62) (c := .calm) rfl rfl rfl (Zb (.inl rfl) rfl) rfl rfl rfl ?_
        refine Yb (env' := u62) (c := .look) rfl rfl rfl XH10 rfl rfl rfl ?_
        refine Yb (env' := u62) (c := .calm) rfl rfl rfl (v_addI rfl rfl rfl XH2) rfl rfl rfl ?_
        refine Yb (env' := u62) (c := .calm) rfl rfl rfl (rfl) rfl rfl rfl ?_
        refine Yb (env' := u62) (c := .calm) rfl rfl rfl (rfl) rfl rfl rfl ?_
        refine Yb (env' := u62) (c := .calm) rfl rfl rfl XH43 rfl rfl rfl ?_
        refine Yb (env' := u62) (c := .turn) rfl rfl rfl (ZT rfl rfl rfl rfl rfl rfl rfl XH44 XH37 XH40) rfl rfl rfl ?_
        refine Z3 [] XH6 (trivial) ?_
        refine Zc (Zd (Za ?_))
        refine Zq (env' := u62) rfl rfl (Z6 (VVal.bool true) rfl rfl rfl rfl rfl rfl rfl XH44 XH3 (by exact ZF (mtH_len rfl))) rfl ?_
        refine Zf (Zc (Zl (ZX ?_)))
        refine ⟨(_, true), rfl, .inr ⟨Code.ret, rfl, ⟨rfl, ?_⟩⟩⟩
        first
          | exact ⟨by rw [hg, grL, if_neg hnseen, if_pos (by assumption)]; rfl, rfl⟩
          | exact ⟨by rw [hg, grL, if_neg hnseen, if_neg hno, if_pos (by assumption)]; rfl, rfl⟩
      · try simp only [decide_eq_true_eq, decide_eq_false_iff_not, Bool.not_eq_true', Bool.not_eq_false', bne_iff_ne, beq_iff_eq, Bool.and_eq_true, Bool.or_eq_true, Bool.not_eq_true, ge_iff_le, gt_iff_lt, Int.not_le, Int.not_lt, beq_eq_false_iff_ne, bne_eq_false_iff_eq, ne_eq, Decidable.not_not, Z4, Ye, Yd] at hg2
        have hno : ¬ s1.1.getD c 0 = 0 := by assumption
        have hgr := grw_ok (rows := rows) (n := n) (row := s1.1.getD c 0 - 1) (s := (s1.1, s1.2 ||| 1#64 <<< c)) (by omega) (by omega) hk1 XH36
        refine Yb (env' := u62) (c := .look) rfl rfl rfl XH10 rfl rfl rfl ?_
        refine Yb (env' := u62) (c := .look) rfl rfl rfl XH10 rfl rfl rfl ?_
        refine Yb (env' := u62) (c := .calm) rfl rfl rfl (Zb (.inl rfl) rfl) rfl rfl rfl ?_
        refine Yb (env' := u62) (c := .calm) rfl rfl rfl (rfl) rfl rfl rfl ?_
        refine Yb (env' := u62) (c := .calm) rfl rfl rfl (rfl) rfl rfl rfl ?_
        refine Yb (env' := u62) (c := .calm) rfl rfl rfl XH43 rfl rfl rfl ?_
        refine Yb (env' := u62) (c := .look) rfl rfl rfl XH19 rfl rfl rfl ?_
        refine Yb (env' := u62) (c := .calm) rfl rfl rfl (v_subI rfl rfl rfl XH2) rfl rfl rfl ?_
        refine Yb (env' := u62) (c := .look) rfl rfl rfl XH10 rfl rfl rfl ?_
        refine Yf (env' := u62) rfl rfl rfl rfl rfl (by exact grow_in hpq ih H _ (s1.1, s1.2 ||| 1#64 <<< c) hpH hqH _ (show (0 : Int) ≤ s1.1.getD c 0 - 1 by omega) (show s1.1.getD c 0 - 1 < (rows.length : Int) by omega) hk1 XH36) XH26 rfl rfl ?_
        refine Yb (env' := u62) (c := .calm) rfl rfl rfl (ZQ rfl rfl rfl) rfl rfl rfl ?_
        refine Z3 [] XH6 (trivial) ?_
        refine Zc ?_
        refine Zo _ rfl (fun hc3 => ?_) (fun hc3 => ?_)
        · try simp only [decide_eq_true_eq, decide_eq_false_iff_not, Bool.not_eq_true', Bool.not_eq_false', bne_iff_ne, beq_iff_eq, Bool.and_eq_true, Bool.or_eq_true, Bool.not_eq_true, ge_iff_le, gt_iff_lt, Int.not_le, Int.not_lt, beq_eq_false_iff_ne, bne_eq_false_iff_eq, ne_eq, Decidable.not_not, Z4, Ye, Yd] at hc3
          refine Zd ?_
          refine ZW [0, 1, 2, 3, 4, 5, 6, 7] #[0, 0, 0, 4, 1, 17, 63, 127] XH6 XH6 XH6 ?_
          refine Yb (env' := u62) (c := .look) rfl rfl rfl XH10 rfl rfl rfl ?_
          refine Yb (env' := u62) (c := .calm) rfl rfl rfl (Zb (.inl rfl) rfl) rfl rfl rfl ?_
          refine Yb (env' := u62) (c := .look) rfl rfl rfl XH10 rfl rfl rfl ?_
          refine Yb (env' := u62) (c := .calm) rfl rfl rfl (v_addI rfl rfl rfl XH2) rfl rfl rfl ?_
          refine Yb (env' := u62) (c := .calm) rfl rfl rfl (rfl) rfl rfl rfl ?_
          refine Yb (env' := u62) (c := .calm) rfl rfl rfl (rfl) rfl rfl rfl ?_
          refine Yb (env' := u62) (c := .calm) rfl rfl rfl XH43 rfl rfl rfl ?_
          refine Yb (env' := u62) (c := .turn) rfl rfl rfl (ZT rfl rfl rfl rfl rfl rfl rfl XH44 XH37 XH40) rfl rfl rfl ?_
          refine Z3 [] XH6 (trivial) ?_
          refine Zc (Zd (Za ?_))
          refine Zq (env' := u62) rfl rfl (Z6 (VVal.bool true) rfl rfl rfl rfl rfl rfl rfl XH44 XH3 (by exact ZF (mtH_len rfl))) rfl ?_
          refine Zf (Zc (Zl (ZX ?_)))
          refine ⟨(_, true), rfl, .inr ⟨Code.ret, rfl, ⟨rfl, ?_⟩⟩⟩
          first
            | exact ⟨by rw [hg, grL, if_neg hnseen, if_pos (by assumption)]; rfl, rfl⟩
            | exact ⟨by rw [hg, grL, if_neg hnseen, if_neg hno, if_pos (by assumption)]; rfl, rfl⟩
        · try simp only [decide_eq_true_eq, decide_eq_false_iff_not, Bool.not_eq_true', Bool.not_eq_false', bne_iff_ne, beq_iff_eq, Bool.and_eq_true, Bool.or_eq_true, Bool.not_eq_true, ge_iff_le, gt_iff_lt, Int.not_le, Int.not_lt, beq_eq_false_iff_ne, bne_eq_false_iff_eq, ne_eq, Decidable.not_not, Z4, Ye, Yd] at hc3
          refine Zk (Zu ?_)
          have hcg2 : YK 64 (s1.2 ||| 1#64 <<< c) ≤ YK 64 (grw rows n (s1.1.getD c 0 - 1) (s1.1, s1.2 ||| 1#64 <<< c)).2.2 := come_le2 hgr.sub
          refine ⟨(_, false), rfl, .inl ⟨rfl, ?_⟩⟩
          exact ⟨post, by rw [hx, List.append_assoc]; rfl, by rw [hg, grL, if_neg hnseen, if_neg hno, if_neg (not_of_f (by assumption))]; rfl, ((hgr.no (by assumption)).1).trans hO1, (by show 64 - YK 64 (grw rows n (s1.1.getD c 0 - 1) (s1.1, s1.2 ||| 1#64 <<< c)).2.2 ≤ n; omega), rfl⟩
  · intro s k hk hI
    obtain ⟨s1, res⟩ := s
    try dsimp only at hI ⊢
    obtain ⟨z, hz, hg, hO1, hcm, hres⟩ := hI
    have hres : res = false := hres
    subst hres
    obtain rfl : z = [] := by simpa using hz
    refine Zu (Zc (Zd (Za ?_)))
    refine Zq (env' := u62) rfl rfl (Z6 (VVal.bool false) rfl rfl rfl rfl rfl rfl rfl XH44 XH3 (by exact ZF (mtH_len rfl))) rfl ?_
    refine Zf (Zc (Zl ?_))
    refine YE (.inr rfl) (vres_cell rfl rfl rfl rfl (by exact ZB (mtH_len rfl) rfl) (by first | rfl | assumption | exact own_cell (by omega) | exact fget (α := BitVec 64) 0 (by omega))) (by exact mt_base trivial) XH15 ?_
    exact ⟨by rw [show grw rows (n + 1) row (O, S) = (false, s1) from hg], by rw [show grw rows (n + 1) row (O, S) = (false, s1) from hg]⟩
  · rintro j pre c post s k hk hx (⟨rfl, hX⟩)
    obtain ⟨s1, res⟩ := s
    try dsimp only
    obtain ⟨hX1, hX2⟩ := hX
    have hX2 : res = true := hX2
    subst hX2
    refine J_ret ?_
    refine ZX (Zt ?_)
    refine YE (.inr rfl) (vres_cell rfl rfl rfl rfl (by exact ZB (mtH_len rfl) rfl) (by first | rfl | assumption | exact own_cell (by omega) | exact fget (α := BitVec 64) 0 (by omega))) (by exact mt_base trivial) XH15 ?_
    exact ⟨by rw [show grw rows (n + 1) row (O, S) = (true, s1) from hX1], by rw [show grw rows (n + 1) row (O, S) = (true, s1) from hX1]⟩
end MM
open Go Go.V Go.RowKit
namespace MM
theorem grow_spec {x : SW} (p q : Nat) (rows : List (BitVec 64)) (hpq : p ≠ q) (h62 : rows.length < 4611686018427387904) : ∀ (n : Nat) (H : Ze) (row : Int) (O : List Int) (S : BitVec 64), H[p]? = some (mtB rows O) → H[q]? = some (seB S) → 0 ≤ row → row < rows.length → Gok rows O → 64 - YK 64 S < n → F (psys x) 150 [.ptr (some (p, 0)), iI row, .ptr (some (q, 0))] H fun v G => v = .bool (grw rows n row (O, S)).1 ∧ G = mtH H p q rows (grw rows n row (O, S)).2
  | 0, _, _, _, _, _, _, _, _, _, h => absurd h (by omega)
  | n + 1, H, row, O, S, hp, hq, h0, h1, hO, hm => grow_s p q n rows hpq (fun H row O S a b c d e f => grow_spec p q rows hpq h62 n H row O S a b c d e f) H row O S hp hq h0 h1 hO hm h62
theorem grow_at {x : SW} (H : Ze) (rows : List (BitVec 64)) (O : List Int) (row : Int) (h0 : 0 ≤ row) (h1 : row < rows.length) (hO : Gok rows O) (h62 : rows.length < 4611686018427387904) : F (psys x) 150 [.ptr (some (H.length + 0, 0)), iI row, .ptr (some (H.length + 1, 0))] (H ++ [mtB rows O, seB 0#64]) fun v G => v = .bool (grw rows 65 row (O, 0#64)).1 ∧ G = H ++ [mtB rows (grw rows 65 row (O, 0#64)).2.1, seB (grw rows 65 row (O, 0#64)).2.2] := by
  have := grow_spec (x := x) (H.length + 0) (H.length + 1) rows (by omega) h62 65 (H ++ [mtB rows O, seB 0#64]) row O 0#64 (ZB rfl rfl) (ZB rfl rfl) h0 h1 hO (by rw [come_0]; omega)
  unfold mtH at this
  rw [ZF rfl, ZF rfl] at this
  exact this
theorem mtB_under {n : Nat} {rows : List (BitVec 64)} {O : List Int} : (mtB rows O).under n = true := by
  show VVal.underL n (fzW rows :: O.map iI) = true
  simp [VVal.underL, Yr, mapI_under]
def mskT (l : List (BitVec 64)) (t : BitVec 64) (k : Nat) : List (BitVec 64) := msk (l.take k) t ++ l.drop k
theorem beq_nat {a b : Nat} : ((a : Int) == (b : Int)) = (a == b) := Bool.eq_iff_iff.2 (by rw [beq_iff_eq, beq_iff_eq]; omega)
theorem mskT_len {l : List (BitVec 64)} {t : BitVec 64} {k : Nat} : (mskT l t k).length = l.length := by
  unfold mskT; rw [List.length_append, Yq, List.length_take, List.length_drop]; omega
theorem mskT_0 {l : List (BitVec 64)} {t : BitVec 64} : mskT l t 0 = l := by unfold mskT msk; simp
theorem mskT_all {l : List (BitVec 64)} {t : BitVec 64} : mskT l t l.length = msk l t := by unfold mskT; simp
theorem mskT_get {l : List (BitVec 64)} {t : BitVec 64} {k : Nat} (h : k < l.length) : (mskT l t k).getD k 0 = l.getD k 0 := by
  unfold mskT
  rw [List.getD_eq_getElem?_getD, List.getElem?_append_right (by rw [Yq, List.length_take]; omega), Yq, List.length_take, Nat.min_eq_left (by omega), Nat.sub_self, List.getElem?_drop, Nat.add_zero, List.getD_eq_getElem?_getD]
theorem mskT_set {l : List (BitVec 64)} {t : BitVec 64} {k : Nat} (h : k < l.length) : (mskT l t k).set k (l.getD k 0 &&& ~~~t) = mskT l t (k + 1) := by
  unfold mskT
  rw [List.set_append_right _ _ (by rw [Yq, List.length_take]; omega), Yq, List.length_take, Nat.min_eq_left (by omega), Nat.sub_self, List.take_succ_eq_append_getElem h, List.drop_eq_getElem_cons h, List.getD_eq_getElem?_getD, List.getElem?_eq_getElem h]
  show msk (l.take k) t ++ ((l[k] &&& ~~~t) :: l.drop (k + 1)) = _
  unfold msk
  rw [List.map_append, List.append_assoc]; rfl
theorem splice_w {l : List (BitVec 64)} {k : Nat} {w : BitVec 64} (h : k < l.length) : Zv (l.map iW) (0 + k * 1) [iW w] = (l.set k w).map iW := by
  rw [show 0 + k * 1 = k by omega]
  unfold Zv
  rw [List.map_set, List.set_eq_take_append_cons_drop, if_pos (by rw [List.length_map]; exact h)]; simp
theorem size_spec {x : SW} (H : Ze) (rows : List (BitVec 64)) (h62 : rows.length < 4611686018427387904) : F (psys x) 130 [fzW rows] H fun v G => v = iI (szN rows : Nat) ∧ G = H := by
  refine Zr Tryd.func130 rfl u22 rfl ?_
  refine Zd (Za ?_)
  refine Zq (env' := u22) rfl rfl (Zg (VVal.int .i64 0) (.inr rfl) rfl) rfl ?_
  refine Zf (Zc (Zd (Za ?_)))
  refine Zq (env' := u22) rfl rfl (Zb (.inl rfl) rfl) rfl ?_
  refine Zq (env' := u22) rfl rfl (rfl) rfl ?_
  refine Zq (env' := u22) rfl rfl (Zy rfl rfl rfl) rfl ?_
  refine Zq (env' := u22) rfl rfl (Zb (.inr rfl) rfl) rfl ?_
  refine Zq (env' := u22) rfl rfl (Zg (VVal.int .i64 0) (.inr rfl) rfl) rfl ?_
  refine Zf (Zc (Zd (Zd (Za ?_))))
  refine Zq (env' := u22) rfl rfl (Zb (.inl rfl) rfl) rfl ?_
  refine Zq (env' := u22) rfl rfl (rfl) rfl ?_
  refine Zq (env' := u22) rfl rfl (Zg (VVal.int .i64 0) (.inl rfl) rfl) rfl ?_
  refine Zf (Zc (Zj ?_))
  refine ZC [true,true,true,false,false,true,true,true,true,true,true,false,false,true,true,true,true,true,true,true,true,true] (env' := u22) rfl ?_
  refine ZJ (fun (k : Nat) => rows.length - k) (fun (k : Nat) => [(4, iI ((szO rows k).2 : Nat)), (12, iI (k : Nat))]) (fun (k : Nat) G => (k ≤ rows.length) ∧ G = H ++ [mtB rows (szO rows k).1]) 0 rfl ?_ ?_
  · refine ⟨?_, rfl⟩
    exact Nat.zero_le _
  rintro k _ ⟨hk, rfl⟩
  refine ZU (env' := u22) rfl ?_
  refine Zd (Za ?_)
  refine Zq (env' := u22) rfl rfl (rfl) rfl ?_
  refine Zf (Zc (Zd ?_))
  refine Zo _ rfl (fun hc1 => ?_) (fun hc1 => ?_)
  · try simp only [decide_eq_true_eq, decide_eq_false_iff_not, Bool.not_eq_true', Bool.not_eq_false', bne_iff_ne, beq_iff_eq, Bool.and_eq_true, Bool.or_eq_true, Bool.not_eq_true, ge_iff_le, gt_iff_lt, Int.not_le, Int.not_lt, beq_eq_false_iff_ne, bne_eq_false_iff_eq, ne_eq, Decidable.not_not, Z4, Ye, Yd] at hc1
    refine Zk (Zc (Zd (Zj (Zd (Za ?_)))))
    refine Zq (env' := u22) rfl rfl (Zb (.inl rfl) rfl) rfl ?_
    refine Zq (env' := u22) rfl rfl (Zb (.inr rfl) rfl) rfl ?_
    refine Zf (Zc (Zd (Za ?_)))
    refine Zq (env' := u22) rfl rfl (ZA rfl rfl) rfl ?_
    refine Zq (env' := u22) rfl rfl (Z6 (VVal.int .u64 0) rfl rfl rfl rfl rfl rfl rfl XH8 XH3 XH21) rfl ?_
    refine Zf (Zc (Zd (Za ?_)))
    refine Zq (env' := u22) rfl rfl (Zb (.inl rfl) rfl) rfl ?_
    refine Zq (env' := u22) rfl rfl (Zb (.inl rfl) rfl) rfl ?_
    refine Zn rfl rfl rfl (by exact grow_at H rows (szO rows k).1 k (by omega) (by omega) (szO_ok (by omega)) h62) ?_
    rintro _ _ ⟨rfl, rfl⟩
    refine L_env (env' := u22) rfl ?_
    refine Zf (Zc ?_)
    refine Zo _ rfl (fun hc2 => ?_) (fun hc2 => ?_)
    · try simp only [decide_eq_true_eq, decide_eq_false_iff_not, Bool.not_eq_true', Bool.not_eq_false', bne_iff_ne, beq_iff_eq, Bool.and_eq_true, Bool.or_eq_true, Bool.not_eq_true, ge_iff_le, gt_iff_lt, Int.not_le, Int.not_lt, beq_eq_false_iff_ne, bne_eq_false_iff_eq, ne_eq, Decidable.not_not, Z4, Ye, Yd] at hc2
      refine Za ?_
      refine Zq (env' := u22) rfl rfl (Zb (.inl rfl) rfl) rfl ?_
      refine Zq (env' := u22) rfl rfl (v_addI rfl rfl rfl (by have := @szO_le rows k; omega)) rfl ?_
      refine Zq (env' := u22) rfl rfl (Zb (.inr rfl) rfl) rfl ?_
      refine Zf (Zu (Zc (Za ?_)))
      refine Zq (env' := u22) rfl rfl (v_addI rfl rfl rfl XH2) rfl ?_
      refine Zq (env' := u22) rfl rfl (Zb (.inl rfl) rfl) rfl ?_
      refine Zf ?_
      first
        | (have hE : (((szO rows k).2 : Nat) : Int) + 1 = ((szO rows (k + 1)).2 : Nat) := by rw [szO, if_pos (by assumption)]; rfl); rw [hE]
        | (have hE : (szO rows k).2 = (szO rows (k + 1)).2 := by rw [szO]; simp only; rw [if_neg (not_of_f (by assumption))]); rw [hE]
      refine K_loopG [true,true,true,false,false,true,true,true,true,true,true,false,false,true,true,true,true,true,true,true,true,true] (env' := u22) rfl (Gh.dropTo (L := [mtB rows (szO rows (k + 1)).1]) (X := [seB _]) 1 rfl (BaseOk.refl _) (by first | (simp [VVal.underL, VVal.under, Yr]; done) | (simp [VVal.underL, VVal.under, Yr]; omega)) (by simp [mtB_under])) ⟨k + 1, ?_, rfl, ?_⟩
      · first | omega | (simp only []; omega)
      · exact ⟨by omega, rfl⟩
    · try simp only [decide_eq_true_eq, decide_eq_false_iff_not, Bool.not_eq_true', Bool.not_eq_false', bne_iff_ne, beq_iff_eq, Bool.and_eq_true, Bool.or_eq_true, Bool.not_eq_true, ge_iff_le, gt_iff_lt, Int.not_le, Int.not_lt, beq_eq_false_iff_ne, bne_eq_false_iff_eq, ne_eq, Decidable.not_not, Z4, Ye, Yd] at hc2
      refine Zk (Zu (Zc (Za ?_)))
      refine Zq (env' := u22) rfl rfl (v_addI rfl rfl rfl XH2) rfl ?_
      refine Zq (env' := u22) rfl rfl (Zb (.inl rfl) rfl) rfl ?_
      refine Zf ?_
      first
        | (have hE : (((szO rows k).2 : Nat) : Int) + 1 = ((szO rows (k + 1)).2 : Nat) := by rw [szO, if_pos (by assumption)]; rfl); rw [hE]
        | (have hE : (szO rows k).2 = (szO rows (k + 1)).2 := by rw [szO]; simp only; rw [if_neg (not_of_f (by assumption))]); rw [hE]
      refine K_loopG [true,true,true,false,false,true,true,true,true,true,true,false,false,true,true,true,true,true,true,true,true,true] (env' := u22) rfl (Gh.dropTo (L := [mtB rows (szO rows (k + 1)).1]) (X := [seB _]) 1 rfl (BaseOk.refl _) (by first | (simp [VVal.underL, VVal.under, Yr]; done) | (simp [VVal.underL, VVal.under, Yr]; omega)) (by simp [mtB_under])) ⟨k + 1, ?_, rfl, ?_⟩
      · first | omega | (simp only []; omega)
      · exact ⟨by omega, rfl⟩
  · try simp only [decide_eq_true_eq, decide_eq_false_iff_not, Bool.not_eq_true', Bool.not_eq_false', bne_iff_ne, beq_iff_eq, Bool.and_eq_true, Bool.or_eq_true, Bool.not_eq_true, ge_iff_le, gt_iff_lt, Int.not_le, Int.not_lt, beq_eq_false_iff_ne, bne_eq_false_iff_eq, ne_eq, Decidable.not_not, Z4, Ye, Yd] at hc1
    refine ZP (ZR (ZH (ZO (Zc (Zd (Za ?_))))))
    refine Zq (env' := u22) rfl rfl (Zb (.inl rfl) rfl) rfl ?_
    refine Zq (env' := u22) rfl rfl (Zb (.inr rfl) rfl) rfl ?_
    refine Zf (Zc (Zl ?_))
    refine YE (.inr rfl) (Zi rfl rfl) XH12 (by first | rfl | simp [VVal.under, VVal.underL, Yr, *]) ?_
    obtain rfl : k = rows.length := by omega
    exact ⟨rfl, rfl⟩
theorem size_m {x : SW} {n : Nat} (H : Ze) (l : List (BitVec 64)) (t : BitVec 64) (hn : n = (msk l t).length) (h62 : (msk l t).length < 4611686018427387904) : F (psys x) 130 [.fsl ((msk l t).map iW) n 1 false] H fun v G => v = iI (szN (msk l t) : Nat) ∧ G = H := by
  subst hn; exact size_spec H (msk l t) h62
theorem Clone_nil {x : SW} (H : Ze) : F (psys x) 99 [.slice none 0 0 true 0] H fun v G => v = .fsl [] 0 1 false ∧ G = H := by
  refine Zr Tryd.func99 rfl u8 rfl ?_
  refine Zd (Za ?_)
  refine Zq (env' := u8) rfl rfl (Zg (VVal.slice none 0 0 true 0) (.inr rfl) rfl) rfl ?_
  refine Zf (Zc (Zd (Zd (Za ?_))))
  refine Zq (env' := u8) rfl rfl (Zb (.inl rfl) rfl) rfl ?_
  refine Zq (env' := u8) rfl rfl (rfl) rfl ?_
  refine Zf (Zc ?_)
  refine Z0 rfl rfl ?_
  refine Zd (Za ?_)
  refine Zq (env' := u8) rfl rfl (Zg (VVal.slice none 0 0 true 0) (.inr rfl) rfl) rfl ?_
  refine Zf (Zc (Zl (Zt ?_)))
  refine E_gh (.inr rfl) (Zi rfl rfl) (Gh.ansLV (BaseOk.refl _) (LV.nil H.length 1 []) rfl) ?_
  exact ⟨rfl, rfl⟩
theorem Clone_emp {x : SW} (H : Ze) : F (psys x) 99 [.slice none 0 0 false 0] H fun v G => v = .fsl [] 0 1 false ∧ G = H := by
  refine Zr Tryd.func99 rfl u8 rfl ?_
  refine Zd (Za ?_)
  refine Zq (env' := u8) rfl rfl (Zg (VVal.slice none 0 0 true 0) (.inr rfl) rfl) rfl ?_
  refine Zf (Zc (Zd (Zd (Za ?_))))
  refine Zq (env' := u8) rfl rfl (Zb (.inl rfl) rfl) rfl ?_
  refine Zq (env' := u8) rfl rfl (rfl) rfl ?_
  refine Zf (Zc ?_)
  refine ZV rfl rfl ?_
  refine Zk (Zc (Zd (Za ?_)))
  refine Zq (env' := u8) rfl rfl (Zx rfl rfl (by decide) rfl) rfl ?_
  refine Zq (env' := u8) rfl rfl (Zb (.inl rfl) rfl) rfl ?_
  refine Zq (env' := u8) rfl rfl (v_appIn rfl rfl rfl rfl rfl rfl rfl (ZB rfl rfl) rfl rfl rfl rfl (by decide) (by decide) (by decide)) rfl ?_
  refine L_heap (H' := H ++ [.cells [] true]) (by rw [ZF rfl]; rfl) ?_
  refine Zq (env' := u8) rfl rfl (Zb (.inr rfl) rfl) rfl ?_
  refine Zf (Zc (Zl ?_))
  refine E_gh (.inr rfl) (Zi rfl rfl) (Gh.fsl (j := 0) (off := 0) (len := 0) (l := []) (BaseOk.refl _) rfl rfl (Nat.le_refl _) rfl) ?_
  exact ⟨rfl, rfl⟩
theorem Clone_c {x : SW} (H : Ze) (l : List (BitVec 64)) (hne : l ≠ []) (hl : l.length ≤ 1000000) : F (psys x) 99 [fzW l] H fun v G => v = .slice (some (H.length, 0)) l.length l.length (decide (l.length = 0)) 1 ∧ G = H ++ [.cells (l.map iW) true] := by
  refine Zr Tryd.func99 rfl u8 rfl ?_
  refine Zd (Za ?_)
  refine Zq (env' := u8) rfl rfl (Zg (VVal.slice none 0 0 true 0) (.inr rfl) rfl) rfl ?_
  refine Zf (Zc (Zd (Zd (Za ?_))))
  refine Zq (env' := u8) rfl rfl (Zb (.inl rfl) rfl) rfl ?_
  refine Zq (env' := u8) rfl rfl (v_eqNilF rfl rfl rfl rfl rfl (fun e => hne (List.eq_nil_of_length_eq_zero e))) rfl ?_
  refine Zf (Zc ?_)
  refine ZV rfl rfl ?_
  refine Zk (Zc (Zd (Za ?_)))
  refine Zq (env' := u8) rfl rfl (Zx rfl rfl (by decide) rfl) rfl ?_
  refine Zq (env' := u8) rfl rfl (Zb (.inl rfl) rfl) rfl ?_
  refine L_opX rfl rfl (v_appE rfl rfl rfl rfl rfl rfl rfl rfl (by rw [List.length_map]; exact (Nat.mul_one _).symm) (mapW_one _) (by decide) (by show l.length * 8 ≤ _ ∧ l.length ≤ _; omega)) ?_
  rintro _ _ ⟨Z, i, rfl, rfl, hi⟩
  refine L_env (env' := u8) rfl ?_
  refine Zq (env' := u8) rfl rfl (Zb (.inr rfl) rfl) rfl ?_
  refine Zf (Zc (Zl ?_))
  refine E_gh (.inr rfl) (Zi rfl rfl) (Gh.pack (BaseOk.refl _) hi (YX _ _)) ?_
  exact ⟨rfl, rfl⟩
theorem Clone_0 {x : SW} (H : Ze) : F (psys x) 99 [fzW []] H fun v G => v = .fsl [] 0 1 false ∧ G = H := F_split0 (Clone_nil H) (Clone_emp H)
theorem Clone_L {x : SW} (H L : Ze) (l : List (BitVec 64)) (hne : l ≠ []) (hl : l.length ≤ 1000000) : F (psys x) 99 [fzW l] (H ++ L) fun v G => v = .slice (some (H.length + L.length, 0)) l.length l.length (decide (l.length = 0)) 1 ∧ G = H ++ (L ++ [.cells (l.map iW) true]) := by
  have := Clone_c (x := x) (H ++ L) l hne hl
  rw [List.length_append, List.append_assoc] at this
  exact this
theorem full_0 {x : SW} (H : Ze) (t : BitVec 64) : F (psys x) 102 [fzW [], iW t] H fun v G => v = .bool (YD [] t) ∧ G = H := by
  refine Zr Tryd.func102 rfl u27 rfl ?_
  refine Zd (Za ?_)
  refine Zq (env' := u27) rfl rfl (Zg (VVal.bool false) (.inr rfl) rfl) rfl ?_
  refine Zf (Zc (Zd (Za ?_)))
  refine Zq (env' := u27) rfl rfl (Zb (.inl rfl) rfl) rfl ?_
  refine Zn rfl rfl rfl (by exact Clone_0 _) ?_
  rintro _ _ ⟨rfl, rfl⟩
  refine L_env (env' := u27) rfl ?_
  refine Zq (env' := u27) rfl rfl (Zb (.inr rfl) rfl) rfl ?_
  refine Zf (Zc (Zd (Zd (Za ?_))))
  refine Zq (env' := u27) rfl rfl (Zb (.inl rfl) rfl) rfl ?_
  refine Zq (env' := u27) rfl rfl (rfl) rfl ?_
  refine Zq (env' := u27) rfl rfl (Zg (VVal.int .i64 0) (.inl rfl) rfl) rfl ?_
  refine Zf (Zc (Zj ?_))
  refine ZC [false,false,true,true,true,false,true,true,true,true,false,false,true,true,true,true,true,true,true,true,true,true,true,true,true,true,true] (env' := u27) rfl ?_
  refine ZJ (fun (k : Nat) => 0) (fun (k : Nat) => [(11, iI (k : Nat))]) (fun (k : Nat) G => (True) ∧ G = H ++ []) 0 rfl ?_ ?_
  · refine ⟨?_, rfl⟩
    trivial
  rintro k _ ⟨_, rfl⟩
  refine ZU (env' := u27) rfl ?_
  refine Zd (Za ?_)
  refine Zq (env' := u27) rfl rfl (rfl) rfl ?_
  refine Zf (Zc (Zd ?_))
  refine Zo _ rfl (fun hc1 => ?_) (fun hc1 => ?_)
  · try simp only [decide_eq_true_eq, decide_eq_false_iff_not, Bool.not_eq_true', Bool.not_eq_false', bne_iff_ne, beq_iff_eq, Bool.and_eq_true, Bool.or_eq_true, Bool.not_eq_true, ge_iff_le, gt_iff_lt, Int.not_le, Int.not_lt, beq_eq_false_iff_ne, bne_eq_false_iff_eq, ne_eq, Decidable.not_not, Z4, Ye, Yd] at hc1
    exfalso; omega
  · try simp only [decide_eq_true_eq, decide_eq_false_iff_not, Bool.not_eq_true', Bool.not_eq_false', bne_iff_ne, beq_iff_eq, Bool.and_eq_true, Bool.or_eq_true, Bool.not_eq_true, ge_iff_le, gt_iff_lt, Int.not_le, Int.not_lt, beq_eq_false_iff_ne, bne_eq_false_iff_eq, ne_eq, Decidable.not_not, Z4, Ye, Yd] at hc1
    refine ZP (ZR (ZH (ZO (Zc (Zd (Za ?_))))))
    refine Zq (env' := u27) rfl rfl (Zb (.inl rfl) rfl) rfl ?_
    refine Zn rfl rfl rfl (by exact size_spec _ [] (by decide)) ?_
    rintro _ _ ⟨rfl, rfl⟩
    refine L_env (env' := u27) rfl ?_
    refine Zq (env' := u27) rfl rfl (Zb (.inl rfl) rfl) rfl ?_
    refine Zq (env' := u27) rfl rfl (rfl) rfl ?_
    refine Zq (env' := u27) rfl rfl (rfl) rfl ?_
    refine Zq (env' := u27) rfl rfl (Zb (.inr rfl) rfl) rfl ?_
    refine Zf (Zc (Zl ?_))
    refine YE (.inr rfl) (Zi rfl rfl) XH12 XH15 ?_
    exact ⟨rfl, rfl⟩
theorem full_c {x : SW} (H : Ze) (l : List (BitVec 64)) (t : BitVec 64) (hne : l ≠ []) (hl : l.length ≤ 1000000) : F (psys x) 102 [fzW l, iW t] H fun v G => v = .bool (YD l t) ∧ G = H := by
  refine Zr Tryd.func102 rfl u27 rfl ?_
  refine Zd (Za ?_)
  refine Zq (env' := u27) rfl rfl (Zg (VVal.bool false) (.inr rfl) rfl) rfl ?_
  refine Zf (Zc (Zd (Za ?_)))
  refine Zq (env' := u27) rfl rfl (Zb (.inl rfl) rfl) rfl ?_
  refine Zn rfl rfl rfl (by exact Clone_L _ _ _ hne hl) ?_
  rintro _ _ ⟨rfl, rfl⟩
  refine L_env (env' := u27) rfl ?_
  refine Zq (env' := u27) rfl rfl (Zb (.inr rfl) rfl) rfl ?_
  refine Zf (Zc (Zd (Zd (Za ?_))))
  refine Zq (env' := u27) rfl rfl (Zb (.inl rfl) rfl) rfl ?_
  refine Zq (env' := u27) rfl rfl (rfl) rfl ?_
  refine Zq (env' := u27) rfl rfl (Zg (VVal.int .i64 0) (.inl rfl) rfl) rfl ?_
  refine Zf (Zc (Zj ?_))
  refine ZC [false,false,true,true,true,false,true,true,true,true,false,false,true,true,true,true,true,true,true,true,true,true,true,true,true,true,true] (env' := u27) rfl ?_
  refine ZJ (fun (k : Nat) => l.length - k) (fun (k : Nat) => [(11, iI (k : Nat))]) (fun (k : Nat) G => (k ≤ l.length) ∧ G = H ++ [.cells ((mskT l t k).map iW) true]) 0 rfl ?_ ?_
  · refine ⟨?_, (by rw [mskT_0]; rfl)⟩
    exact Nat.zero_le _
  rintro k _ ⟨hk, rfl⟩
  refine ZU (env' := u27) rfl ?_
  refine Zd (Za ?_)
  refine Zq (env' := u27) rfl rfl (rfl) rfl ?_
  refine Zf (Zc (Zd ?_))
  refine Zo _ rfl (fun hc1 => ?_) (fun hc1 => ?_)
  · try simp only [decide_eq_true_eq, decide_eq_false_iff_not, Bool.not_eq_true', Bool.not_eq_false', bne_iff_ne, beq_iff_eq, Bool.and_eq_true, Bool.or_eq_true, Bool.not_eq_true, ge_iff_le, gt_iff_lt, Int.not_le, Int.not_lt, beq_eq_false_iff_ne, bne_eq_false_iff_eq, ne_eq, Decidable.not_not, Z4, Ye, Yd] at hc1
    refine Zk (Zc (Zd (Zj (Zd (Za ?_)))))
    refine Zq (env' := u27) rfl rfl (Zb (.inl rfl) rfl) rfl ?_
    refine Zq (env' := u27) rfl rfl (Zb (.inr rfl) rfl) rfl ?_
    refine Zf (Zc (Za ?_))
    refine Zq (env' := u27) rfl rfl (Zb (.inl rfl) rfl) rfl ?_
    refine Zq (env' := u27) rfl rfl (Zb (.inl rfl) rfl) rfl ?_
    refine Zq (env' := u27) rfl rfl XH45 rfl ?_
    refine Zq (env' := u27) rfl rfl (by first | exact v_loadF rfl rfl rfl rfl (by first | exact fget0 (α := BitVec 64) 0 (by rw [mskT_len]; omega) | rfl) | exact v_load rfl rfl rfl rfl XH8 (by first | exact fget0 (α := BitVec 64) 0 (by rw [mskT_len]; omega) | rfl)) rfl ?_
    refine Zq (env' := u27) rfl rfl (Zb (.inl rfl) rfl) rfl ?_
    refine Zq (env' := u27) rfl rfl (v_andNotW rfl rfl rfl) rfl ?_
    refine Zq (env' := u27) rfl rfl XH45 rfl ?_
    refine Zq (env' := u27) rfl rfl (ZT rfl rfl rfl rfl rfl rfl rfl XH8 (by first | (simp [mskT_len]; done) | (simp [mskT_len]; omega)) (by exact (ZF rfl).trans (by rw [splice_w (by rw [mskT_len]; omega)]))) rfl ?_
    refine Zf (Zu (Zc (Za ?_)))
    refine Zq (env' := u27) rfl rfl (v_addI rfl rfl rfl XH2) rfl ?_
    refine Zq (env' := u27) rfl rfl (Zb (.inl rfl) rfl) rfl ?_
    refine Zf ?_
    have hE : (mskT l t k).set (k : Int).toNat ((mskT l t k).getD (k : Int).toNat 0 &&& ~~~t) = mskT l t (k + 1) := by rw [Int.toNat_natCast, mskT_get (by omega), mskT_set (by omega)]
    refine ZD [false,false,true,true,true,false,true,true,true,true,false,false,true,true,true,true,true,true,true,true,true,true,true,true,true,true,true] (env' := u27) rfl ⟨k + 1, ?_, rfl, ?_⟩
    · first | omega | (simp only []; omega)
    · exact ⟨by omega, by rw [← hE]; rfl⟩
  · try simp only [decide_eq_true_eq, decide_eq_false_iff_not, Bool.not_eq_true', Bool.not_eq_false', bne_iff_ne, beq_iff_eq, Bool.and_eq_true, Bool.or_eq_true, Bool.not_eq_true, ge_iff_le, gt_iff_lt, Int.not_le, Int.not_lt, beq_eq_false_iff_ne, bne_eq_false_iff_eq, ne_eq, Decidable.not_not, Z4, Ye, Yd] at hc1
    refine ZP (ZR (ZH (ZO (Zc (Zd ?_)))))
    obtain rfl : k = l.length := by omega
    rw [mskT_all]
    refine Za ?_
    refine Zq (env' := u27) rfl rfl (Zb (.inl rfl) rfl) rfl ?_
    refine L_gh (Gh.freezeL (l := (msk l t).map iW) 22 0 rfl rfl (by rw [show l.length * 1 = (msk l t).length * 1 by rw [Yq]]; exact mapW_all) (Nat.le_refl _) rfl) ?_
    refine Zn rfl rfl rfl (by exact size_m _ _ _ (by rw [Yq]) (by rw [Yq]; omega)) ?_
    rintro _ _ ⟨rfl, rfl⟩
    refine L_env (env' := u27) rfl ?_
    refine Zq (env' := u27) rfl rfl (Zb (.inl rfl) rfl) rfl ?_
    refine Zq (env' := u27) rfl rfl (rfl) rfl ?_
    refine Zq (env' := u27) rfl rfl (rfl) rfl ?_
    refine Zq (env' := u27) rfl rfl (Zb (.inr rfl) rfl) rfl ?_
    refine Zf (Zc (Zl ?_))
    refine YE (.inr rfl) (Zi rfl rfl) XH12 XH15 ?_
    exact ⟨by unfold YD; rw [beq_nat], rfl⟩
end MM
open Go Go.V Go.RowKit
abbrev u43 {a0 a1 a2 a3 a4 a5 a6 a7 a8 a9 a10 a11 a12 a13 a14 a15 a16 a17 a18 a19 a20 a21 a22 a23 a24 a25 a26 a27 a28 a29 a30 a31 a32 a33 a34 a35 a36 a37 a38 a39 a40 a41 a42 : VVal} : VEnv := a0 :: a1 :: a2 :: a3 :: a4 :: a5 :: a6 :: a7 :: a8 :: a9 :: a10 :: a11 :: a12 :: a13 :: a14 :: a15 :: a16 :: a17 :: a18 :: a19 :: a20 :: a21 :: a22 :: a23 :: a24 :: a25 :: a26 :: a27 :: a28 :: a29 :: a30 :: a31 :: a32 :: a33 :: a34 :: a35 :: a36 :: a37 :: a38 :: a39 :: a40 :: a41 :: a42 :: []
namespace MM
theorem full_spec {x : SW} (H : Ze) (l : List (BitVec 64)) (t : BitVec 64) (hl : l.length ≤ 1000000) : F (psys x) 102 [fzW l, iW t] H fun v G => v = .bool (YD l t) ∧ G = H := by
  by_cases h : l = []
  · subst h; exact full_0 H t
  · exact full_c H l t h hl
theorem del_cells {l : List (BitVec 64)} {i : Nat} (hi : i < l.length) : Zv (Zv (l.map iW) i ((l.map iW).drop (i + 1))) (0 + (l.length - 1)) (ZE [VVal.int .u64 0] (l.length - (l.length - 1))) = (l.eraseIdx i ++ [0#64]).map iW := by
  rw [show l.length - (l.length - 1) = 1 by omega, show 0 + (l.length - 1) = l.length - 1 by omega]
  have hlen : ((l.eraseIdx i).map iW).length = l.length - 1 := by rw [List.length_map, List.length_eraseIdx_of_lt hi]
  have h1 : Zv (l.map iW) i ((l.map iW).drop (i + 1)) = (l.eraseIdx i).map iW ++ (l.map iW).drop (l.length - 1) := by
    unfold Zv
    rw [List.length_drop, List.length_map, show i + (l.length - (i + 1)) = l.length - 1 by omega, List.eraseIdx_eq_take_drop_succ, List.map_append, List.map_take, List.map_drop]
  rw [h1]
  unfold Zv
  rw [List.take_append_of_le_length (by omega), List.take_of_length_le (by omega), List.drop_of_length_le (by
    rw [List.length_append, hlen, List.length_drop, List.length_map]
    show _ ≤ l.length - 1 + 1
    omega), List.append_nil, List.map_append]
  rfl
theorem erase_all {l : List (BitVec 64)} {i : Nat} : Zs ((l.eraseIdx i ++ [0#64]).map iW) 0 ((l.eraseIdx i).length * 1) = some ((l.eraseIdx i).map iW) := by
  unfold Zs
  rw [if_pos (by rw [List.length_map, List.length_append]; omega), List.drop_zero, List.map_append, List.take_append_of_le_length XH20, List.take_of_length_le XH20]
theorem Delete_spec {x : SW} (H : Ze) (p : Nat) (l : List (BitVec 64)) (i : Nat) (ex : Bool) (hp : H[p]? = some (.cells (l.map iW) true)) (hi : i < l.length) (hl : l.length ≤ 1000000) : F (psys x) 98 [.slice (some (p, 0)) l.length l.length ex 1, iI (i : Nat), iI ((i : Int) + 1)] H fun v G => v = .slice (some (p, 0)) (l.length - 1) l.length ex 1 ∧ G = H.set p (.cells ((l.eraseIdx i ++ [0#64]).map iW) true) := by
  have hpl := ZI hp
  refine Zr Tryd.func98 rfl u33 rfl ?_
  refine Zd (Za ?_)
  refine Zq (env' := u33) rfl rfl (Zg (VVal.slice none 0 0 true 0) (.inr rfl) rfl) rfl ?_
  refine Zf (Zc (Zd (Za ?_)))
  refine Zq (env' := u33) rfl rfl (Zb (.inl rfl) rfl) rfl ?_
  refine Zq (env' := u33) rfl rfl (Zb (.inl rfl) rfl) rfl ?_
  refine Zq (env' := u33) rfl rfl (Zb (.inl rfl) rfl) rfl ?_
  refine Zq (env' := u33) rfl rfl (Zb (.inl rfl) rfl) rfl ?_
  refine Zq (env' := u33) rfl rfl (rfl) rfl ?_
  refine Zq (env' := u33) rfl rfl (v_slLH (l := i) (h := i + 1) (m := l.length) rfl rfl rfl rfl rfl rfl (vb_lhm (l := i) (h := i + 1) (m := l.length) (len := l.length) (cap := l.length) (by omega) (by omega) (by omega)) rfl (Nat.le_refl _) (by omega)) rfl ?_
  refine Zf (Zc (Zd (Zd (Za ?_))))
  refine Zq (env' := u33) rfl rfl (Zb (.inl rfl) rfl) rfl ?_
  refine Zq (env' := u33) rfl rfl (Zb (.inl rfl) rfl) rfl ?_
  refine Zq (env' := u33) rfl rfl (Yy false rfl (by rw [beq_eq_false_iff_ne]; omega)) rfl ?_
  refine Zf (Zc ?_)
  refine ZV rfl rfl ?_
  refine Zk (Zc (Zd (Za ?_)))
  refine Zq (env' := u33) rfl rfl (Zb (.inl rfl) rfl) rfl ?_
  refine Zq (env' := u33) rfl rfl (rfl) rfl ?_
  refine Zq (env' := u33) rfl rfl (Zb (.inr rfl) rfl) rfl ?_
  refine Zf (Zc (Zd ?_))
  refine ZW [0, 1, 2, 3, 4, 5, 6, 7] #[0, 0, 3, 0, 0, 24, 63, 127] XH6 XH6 XH6 ?_
  refine Yb (env' := u33) (c := .calm) rfl rfl rfl (Zb (.inl rfl) rfl) rfl rfl rfl ?_
  refine Yb (env' := u33) (c := .calm) rfl rfl rfl (Zb (.inl rfl) rfl) rfl rfl rfl ?_
  refine Yb (env' := u33) (c := .calm) rfl rfl rfl (v_val (v_slLH (l := 0) (h := i) (m := l.length) rfl rfl rfl rfl rfl rfl (vb_hi (by omega)) rfl (Nat.le_refl _) (by omega)) (show _ = VVal.slice (some (p, 0)) i l.length ex 1 by simp)) rfl rfl rfl ?_
  refine Yb (env' := u33) (c := .calm) rfl rfl rfl (Zb (.inl rfl) rfl) rfl rfl rfl ?_
  refine Yb (env' := u33) (c := .calm) rfl rfl rfl (Zb (.inl rfl) rfl) rfl rfl rfl ?_
  refine O_opX .calm rfl rfl rfl (v_slTail (l := i + 1) rfl rfl rfl rfl rfl rfl rfl (by omega) (get_out hp) (by rw [List.length_map])) rfl rfl ?_
  rintro v2 _ ⟨rfl, hsl, hsc⟩
  refine O_env (env' := u33) rfl ?_
  refine Yb (env' := u33) (c := .turn) rfl rfl rfl (v_appIn rfl rfl rfl rfl rfl rfl rfl (get_out hp) hsl hsc (by rw [List.length_drop, List.length_map]) (by rw [← List.map_drop]; exact mapW_one _) (by show (i + (l.length - (i + 1))) * 8 ≤ _ ∧ _; omega) (by omega) XH20) rfl rfl rfl ?_
  refine Yb (env' := u33) (c := .calm) rfl rfl rfl (Zb (.inr rfl) rfl) rfl rfl rfl ?_
  refine Z3 [] XH6 (trivial) ?_
  refine Zc (Zd ?_)
  rw [Yl hpl, show i + (l.length - (i + 1)) = l.length - 1 by omega]
  refine Za ?_
  refine Zq (env' := u33) rfl rfl (Zb (.inl rfl) rfl) rfl ?_
  refine Zq (env' := u33) rfl rfl (Zb (.inl rfl) rfl) rfl ?_
  refine Zq (env' := u33) rfl rfl (rfl) rfl ?_
  refine Zq (env' := u33) rfl rfl (Zb (.inl rfl) rfl) rfl ?_
  refine Zq (env' := u33) rfl rfl (v_slLH (l := l.length - 1) (h := l.length) (m := l.length) rfl rfl rfl rfl rfl rfl (vb_lh (by omega) (Nat.le_refl _)) rfl (by omega) (by omega)) rfl ?_
  refine Zq (env' := u33) rfl rfl (v_clear1 rfl rfl rfl rfl rfl rfl rfl (get_out (List.getElem?_set_self hpl)) (by unfold Zv; simp; omega)) rfl ?_
  refine L_heap (H' := H.set p (.cells ((l.eraseIdx i ++ [0#64]).map iW) true) ++ []) (by rw [Yl (by rw [List.length_set]; exact hpl), List.set_set]; exact congrArg (fun c => H.set p (.cells c true) ++ []) (del_cells hi)) ?_
  refine Zf (Zc (Zd (Za ?_)))
  refine Zq (env' := u33) rfl rfl (Zb (.inl rfl) rfl) rfl ?_
  refine Zq (env' := u33) rfl rfl (Zb (.inr rfl) rfl) rfl ?_
  refine Zf (Zc (Zl ?_))
  refine YE (.inr rfl) (Zi rfl rfl) (by exact BaseOk.set (BaseOk.refl _) _ (YX _ _)) XH15 ?_
  exact ⟨rfl, rfl⟩
theorem Del_at {x : SW} (H : Ze) (l : List (BitVec 64)) (i : Nat) (ex : Bool) (hi : i < l.length) (hl : l.length ≤ 1000000) : F (psys x) 98 [.slice (some (H.length + 0, 0)) l.length l.length ex 1, iI (i : Nat), iI ((i : Int) + 1)] (H ++ [.cells (l.map iW) true]) fun v G => v = fzW (l.eraseIdx i) ∧ G = H ++ [.dead] := by
  refine F.gh (Delete_spec (H ++ [.cells (l.map iW) true]) (H.length + 0) l i ex (ZB rfl rfl) hi hl) fun v G h => ?_
  obtain ⟨rfl, rfl⟩ := h
  refine ⟨fzW (l.eraseIdx i), H ++ [.dead], ?_, rfl, rfl⟩
  rw [ZF rfl, show l.length - 1 = (l.eraseIdx i).length by rw [List.length_eraseIdx_of_lt hi]]
  exact Gh.freezeL 0 0 rfl rfl erase_all (by rw [List.length_eraseIdx_of_lt hi]; omega) rfl
theorem Del_atI {x : SW} (H : Ze) (l : List (BitVec 64)) (i : Int) (ex : Bool) (h0 : 0 ≤ i) (hi : i < l.length) (hl : l.length ≤ 1000000) : F (psys x) 98 [.slice (some (H.length + 0, 0)) l.length l.length ex 1, iI i, iI (i + 1)] (H ++ [.cells (l.map iW) true]) fun v G => v = fzW (l.eraseIdx i.toNat) ∧ G = H ++ [.dead] := by
  have := Del_at (x := x) H l i.toNat ex (by omega) hl
  rw [show ((i.toNat : Nat) : Int) = i by omega] at this
  exact this
def freeV (l : List (BitVec 64)) (i : Int) : BitVec 64 := if l.length ≤ 12 ∧ 0 ≤ i ∧ i < l.length then frW l i.toNat else 0#64
theorem Free_spec {x : SW} (H : Ze) (l : List (BitVec 64)) (i : Int) (hl : l.length ≤ 1000000) : F (psys x) 61 [fzW l, iI i] H fun v G => v = iW (freeV l i) ∧ G = H := by
  refine Zr Tryd.func61 rfl u43 rfl ?_
  refine Zd (Za ?_)
  refine Zq (env' := u43) rfl rfl (Zg (VVal.int .u64 0) (.inr rfl) rfl) rfl ?_
  refine Zf (Zc (Zd (Zd (Za ?_))))
  refine Zq (env' := u43) rfl rfl (Zb (.inl rfl) rfl) rfl ?_
  refine Zn rfl rfl rfl (by exact fits_spec _ _) ?_
  rintro _ _ ⟨rfl, rfl⟩
  refine L_env (env' := u43) rfl ?_
  refine Zq (env' := u43) rfl rfl (rfl) rfl ?_
  refine Zq (env' := u43) rfl rfl (Zb (.inl rfl) rfl) rfl ?_
  refine ZL 11 (env1 := u43) (env2 := u43) rfl rfl rfl (fun hg1 => ?_) (fun hg1 => ?_)
  · try simp only [decide_eq_true_eq, decide_eq_false_iff_not, Bool.not_eq_true', Bool.not_eq_false', bne_iff_ne, beq_iff_eq, Bool.and_eq_true, Bool.or_eq_true, Bool.not_eq_true, ge_iff_le, gt_iff_lt, Int.not_le, Int.not_lt, beq_eq_false_iff_ne, bne_eq_false_iff_eq, ne_eq, Decidable.not_not, Z4, Ye, Yd] at hg1
    refine L_off (env' := u43) rfl rfl ?_
    refine L_off (env' := u43) rfl rfl ?_
    refine Zq (env' := u43) rfl rfl (ZY (VVal.bool true) rfl rfl rfl) rfl ?_
    refine Zq (env' := u43) rfl rfl (Zb (.inl rfl) rfl) rfl ?_
    refine L_off (env' := u43) rfl rfl ?_
    refine L_off (env' := u43) rfl rfl ?_
    refine L_off (env' := u43) rfl rfl ?_
    refine L_off (env' := u43) rfl rfl ?_
    refine Zq (env' := u43) rfl rfl (ZY (VVal.bool true) rfl rfl rfl) rfl ?_
    refine Zf (Zc ?_)
    refine Z0 rfl rfl ?_
    refine Zd (Za ?_)
    refine Zq (env' := u43) rfl rfl (Zg (VVal.int .u64 0) (.inr rfl) rfl) rfl ?_
    refine Zf (Zc (Zl (Zt ?_)))
    refine YE (.inr rfl) (Zi rfl rfl) XH12 XH15 ?_
    first
      | exact ⟨by rw [freeV, if_neg (by omega)]; rfl, rfl⟩
      | exact ⟨by rw [freeV, if_pos (by omega)]; rfl, rfl⟩
  · try simp only [decide_eq_true_eq, decide_eq_false_iff_not, Bool.not_eq_true', Bool.not_eq_false', bne_iff_ne, beq_iff_eq, Bool.and_eq_true, Bool.or_eq_true, Bool.not_eq_true, ge_iff_le, gt_iff_lt, Int.not_le, Int.not_lt, beq_eq_false_iff_ne, bne_eq_false_iff_eq, ne_eq, Decidable.not_not, Z4, Ye, Yd] at hg1
    refine Zq (env' := u43) rfl rfl (Zb (.inl rfl) rfl) rfl ?_
    refine Zq (env' := u43) rfl rfl (rfl) rfl ?_
    refine Zq (env' := u43) rfl rfl (ZQ rfl rfl rfl) rfl ?_
    refine Zq (env' := u43) rfl rfl (Zb (.inl rfl) rfl) rfl ?_
    refine ZL 15 (env1 := u43) (env2 := u43) rfl rfl rfl (fun hg2 => ?_) (fun hg2 => ?_)
    · try simp only [decide_eq_true_eq, decide_eq_false_iff_not, Bool.not_eq_true', Bool.not_eq_false', bne_iff_ne, beq_iff_eq, Bool.and_eq_true, Bool.or_eq_true, Bool.not_eq_true, ge_iff_le, gt_iff_lt, Int.not_le, Int.not_lt, beq_eq_false_iff_ne, bne_eq_false_iff_eq, ne_eq, Decidable.not_not, Z4, Ye, Yd] at hg2
      refine L_off (env' := u43) rfl rfl ?_
      refine L_off (env' := u43) rfl rfl ?_
      refine L_off (env' := u43) rfl rfl ?_
      refine L_off (env' := u43) rfl rfl ?_
      refine Zq (env' := u43) rfl rfl (ZY (VVal.bool true) rfl rfl rfl) rfl ?_
      refine Zf (Zc ?_)
      refine Z0 rfl rfl ?_
      refine Zd (Za ?_)
      refine Zq (env' := u43) rfl rfl (Zg (VVal.int .u64 0) (.inr rfl) rfl) rfl ?_
      refine Zf (Zc (Zl (Zt ?_)))
      refine YE (.inr rfl) (Zi rfl rfl) XH12 XH15 ?_
      first
        | exact ⟨by rw [freeV, if_neg (by omega)]; rfl, rfl⟩
        | exact ⟨by rw [freeV, if_pos (by omega)]; rfl, rfl⟩
    · try simp only [decide_eq_true_eq, decide_eq_false_iff_not, Bool.not_eq_true', Bool.not_eq_false', bne_iff_ne, beq_iff_eq, Bool.and_eq_true, Bool.or_eq_true, Bool.not_eq_true, ge_iff_le, gt_iff_lt, Int.not_le, Int.not_lt, beq_eq_false_iff_ne, bne_eq_false_iff_eq, ne_eq, Decidable.not_not, Z4, Ye, Yd] at hg2
      refine Zq (env' := u43) rfl rfl (Zb (.inl rfl) rfl) rfl ?_
      refine Zq (env' := u43) rfl rfl (Zb (.inl rfl) rfl) rfl ?_
      refine Zq (env' := u43) rfl rfl (rfl) rfl ?_
      refine Zq (env' := u43) rfl rfl (rfl) rfl ?_
      refine Zq (env' := u43) rfl rfl (ZQ rfl rfl rfl) rfl ?_
      refine Zf (Zc ?_)
      refine Zo _ rfl (fun hc3 => ?_) (fun hc3 => ?_)
      · try simp only [decide_eq_true_eq, decide_eq_false_iff_not, Bool.not_eq_true', Bool.not_eq_false', bne_iff_ne, beq_iff_eq, Bool.and_eq_true, Bool.or_eq_true, Bool.not_eq_true, ge_iff_le, gt_iff_lt, Int.not_le, Int.not_lt, beq_eq_false_iff_ne, bne_eq_false_iff_eq, ne_eq, Decidable.not_not, Z4, Ye, Yd] at hc3
        refine Zd (Za ?_)
        refine Zq (env' := u43) rfl rfl (Zg (VVal.int .u64 0) (.inr rfl) rfl) rfl ?_
        refine Zf (Zc (Zl (Zt ?_)))
        refine YE (.inr rfl) (Zi rfl rfl) XH12 XH15 ?_
        first
          | exact ⟨by rw [freeV, if_neg (by omega)]; rfl, rfl⟩
          | exact ⟨by rw [freeV, if_pos (by omega)]; rfl, rfl⟩
      · try simp only [decide_eq_true_eq, decide_eq_false_iff_not, Bool.not_eq_true', Bool.not_eq_false', bne_iff_ne, beq_iff_eq, Bool.and_eq_true, Bool.or_eq_true, Bool.not_eq_true, ge_iff_le, gt_iff_lt, Int.not_le, Int.not_lt, beq_eq_false_iff_ne, bne_eq_false_iff_eq, ne_eq, Decidable.not_not, Z4, Ye, Yd] at hc3
        refine Zk (Zc (Zd (Za ?_)))
        have hne : l ≠ [] := fun e => by have h9 := congrArg List.length e; simp only [List.length_nil] at h9; omega
        refine Zq (env' := u43) rfl rfl (Zb (.inl rfl) rfl) rfl ?_
        refine Zn rfl rfl rfl (by exact Clone_L _ _ _ hne hl) ?_
        rintro _ _ ⟨rfl, rfl⟩
        refine L_env (env' := u43) rfl ?_
        refine Zq (env' := u43) rfl rfl (Zb (.inl rfl) rfl) rfl ?_
        refine Zq (env' := u43) rfl rfl (Zb (.inl rfl) rfl) rfl ?_
        refine Zq (env' := u43) rfl rfl (v_addI rfl rfl rfl XH2) rfl ?_
        refine Zn rfl rfl rfl (by exact Del_atI _ _ i _ (by omega) (by omega) hl) ?_
        rintro _ _ ⟨rfl, rfl⟩
        refine L_env (env' := u43) rfl ?_
        refine Zq (env' := u43) rfl rfl (ZA rfl rfl) rfl ?_
        refine Zq (env' := u43) rfl rfl (ZA rfl rfl) rfl ?_
        refine Zq (env' := u43) rfl rfl (ZT rfl rfl rfl rfl rfl rfl rfl XH8 XH3 XH21) rfl ?_
        refine Zq (env' := u43) rfl rfl (Z6 (VVal.int .u64 0) rfl rfl rfl rfl rfl rfl rfl XH8 XH3 XH21) rfl ?_
        refine Zf (Zc (Zd (Zd (Za ?_))))
        refine Zq (env' := u43) rfl rfl (Zb (.inl rfl) rfl) rfl ?_
        refine Zq (env' := u43) rfl rfl (Zb (.inl rfl) rfl) rfl ?_
        refine Zq (env' := u43) rfl rfl XH45 rfl ?_
        refine Zq (env' := u43) rfl rfl XH46 rfl ?_
        refine Zn rfl rfl rfl (by exact mset_spec _ _) ?_
        rintro _ _ ⟨rfl, rfl⟩
        refine L_env (env' := u43) rfl ?_
        refine Zn rfl rfl rfl (by exact All_spec _ _) ?_
        rintro _ _ ⟨rfl, rfl⟩
        refine L_env (env' := u43) rfl ?_
        refine Zf (Zc (Zj ?_))
        refine ZC [true,true,true,true,true,false,false,true,true,true,true,true,true,true,true,true,true,true,true,true,true,true,true,true,true,true,true,true,true,true,true,true,false,true,true,true,true,true,true,true,true,true,true] (env' := u43) rfl ?_
        refine B_rangeM cI (pl (l.getD i.toNat 0) 0) (fun l0 h => by cases h) rfl (fun l G R h => All1_spec _ _ _ _ h) (σ := BitVec 64) (fun k s => H ++ [.dead, .cells [fzW (l.eraseIdx i.toNat)] true, .cells [iW s] true, k]) 0#64 (fun k => by rw [List.append_assoc]; rfl) (fun k s => by rw [List.length_append]; exact ZB rfl rfl) (fun k k1 s => by rw [List.length_append]; exact ZF rfl) (fun pre s => s = frF l i.toNat pre) ?_ (fun j pre c s => False) rfl ?_ ?_ ?_
        · rfl
        · intro pre c post s hx hI kr kb hkr hkb
          try dsimp only at hI ⊢
          subst hI
          have hc : c ∈ pl (l.getD i.toNat 0) 0 := by rw [hx]; simp
          obtain ⟨_, hc64, hcb⟩ := mem_pl.1 hc
          refine ZU (env' := u43) rfl ?_
          refine Za ?_
          refine Zq (env' := u43) rfl rfl (Zb (.inr rfl) rfl) rfl ?_
          refine Zf ?_
          refine ⟨rfl, (frF l i.toNat pre), rfl, ?_⟩
          try dsimp only
          refine Zj (Zd ?_)
          refine ZW [0, 1, 2, 3] #[0, 0, 2, 7] XH6 XH6 XH6 ?_
          refine Yb (env' := u43) (c := .look) rfl rfl rfl XH46 rfl rfl rfl ?_
          refine Yb (env' := u43) (c := .calm) rfl rfl rfl (Zb (.inl rfl) rfl) rfl rfl rfl ?_
          refine Yb (env' := u43) (c := .calm) rfl rfl rfl (v_shl1 rfl rfl rfl XH2) rfl rfl rfl ?_
          refine Yf (env' := u43) rfl rfl rfl rfl rfl (by exact full_spec _ _ _ (by first | assumption | (rw [List.length_eraseIdx_of_lt (by omega)]; omega))) XH9 rfl rfl ?_
          refine Z3 [] XH6 (trivial) ?_
          refine Zc ?_
          refine Zo _ rfl (fun hc4 => ?_) (fun hc4 => ?_)
          · try simp only [decide_eq_true_eq, decide_eq_false_iff_not, Bool.not_eq_true', Bool.not_eq_false', bne_iff_ne, beq_iff_eq, Bool.and_eq_true, Bool.or_eq_true, Bool.not_eq_true, ge_iff_le, gt_iff_lt, Int.not_le, Int.not_lt, beq_eq_false_iff_ne, bne_eq_false_iff_eq, ne_eq, Decidable.not_not, Z4, Ye, Yd] at hc4
            refine ZW [0, 1, 2, 3, 4] #[0, 0, 2, 7, 15] XH6 XH6 XH6 ?_
            refine Yb (env' := u43) (c := .look) rfl rfl rfl XH46 rfl rfl rfl ?_
            refine Yb (env' := u43) (c := .calm) rfl rfl rfl (Zb (.inl rfl) rfl) rfl rfl rfl ?_
            refine Yb (env' := u43) (c := .calm) rfl rfl rfl (v_shl1 rfl rfl rfl XH2) rfl rfl rfl ?_
            refine Yb (env' := u43) (c := .calm) rfl rfl rfl (v_orW rfl rfl rfl) rfl rfl rfl ?_
            refine Yb (env' := u43) (c := .turn) rfl rfl rfl (ZT rfl rfl rfl rfl rfl rfl rfl XH8 XH3 XH21) rfl rfl rfl ?_
            refine Z3 [] XH6 (trivial) ?_
            refine Zu ?_
            refine ⟨_, rfl, .inl ⟨rfl, ?_⟩⟩
            rw [frF_snoc]
            first
              | rw [if_pos (by assumption)]; rfl
              | rw [if_neg (not_of_f (by assumption))]
          · try simp only [decide_eq_true_eq, decide_eq_false_iff_not, Bool.not_eq_true', Bool.not_eq_false', bne_iff_ne, beq_iff_eq, Bool.and_eq_true, Bool.or_eq_true, Bool.not_eq_true, ge_iff_le, gt_iff_lt, Int.not_le, Int.not_lt, beq_eq_false_iff_ne, bne_eq_false_iff_eq, ne_eq, Decidable.not_not, Z4, Ye, Yd] at hc4
            refine Zk (Zu ?_)
            refine ⟨_, rfl, .inl ⟨rfl, ?_⟩⟩
            rw [frF_snoc]
            first
              | rw [if_pos (by assumption)]; rfl
              | rw [if_neg (not_of_f (by assumption))]
        · intro s k hk hI
          try dsimp only at hI ⊢
          subst hI
          refine Zu (Zc (Zd (Za ?_)))
          refine Zq (env' := u43) rfl rfl XH46 rfl ?_
          refine Zq (env' := u43) rfl rfl (Zb (.inr rfl) rfl) rfl ?_
          refine Zf (Zc (Zl ?_))
          refine YE (.inr rfl) (Zi rfl rfl) XH12 XH15 ?_
          first
            | exact ⟨by rw [freeV, if_neg (by omega)]; rfl, rfl⟩
            | exact ⟨by rw [freeV, if_pos (by omega)]; rfl, rfl⟩
        · rintro j pre c post s k hk hx ⟨⟩
end MM
end Go.Proofs.YtenkjadobkjaeaaDoor.VT
