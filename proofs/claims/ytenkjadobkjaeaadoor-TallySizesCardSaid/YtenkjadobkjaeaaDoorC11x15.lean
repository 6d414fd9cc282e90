/- Proved: Rows.TallySizesCardSaid, the statement TallySizes with its card, of the given program at the commit; no conditions beyond those in the statement. -/
import Derived.Test.YtenkjadobkjaeaaDoorC11x14
set_option autoImplicit false
set_option linter.unusedVariables false
set_option linter.unusedSimpArgs false
set_option maxHeartbeats 4000000
set_option maxRecDepth 100000
namespace Go.Proofs.YtenkjadobkjaeaaDoor.VT
open Go Go.V Go.RowKit
abbrev SzS : Type := Nat × Nat × Bool
def szN1 (s : SzS) (n : Nat) : SzS := (min (if s.2.2 = true then s.1 else n) n, max s.2.1 n, true)
def szA (l : List (List Nat)) : SzS := l.foldl (fun s a => szN1 s (szP a a.length)) (0, 0, false)
theorem szA_snoc {l : List (List Nat)} {a : List Nat} : szA (l ++ [a]) = szN1 (szA l) (szP a a.length) := by unfold szA; rw [List.foldl_append]; rfl
theorem tSizes_spec {x : SW} (H : Zf) (p : Pb) (hp : PbL p) : F (psys x) 39 [.agg (pbB p)] H fun v G => v = .tuple [iI ((szA (ptP p)).1 : Nat), iI ((szA (ptP p)).2.1 : Nat), .bool (szA (ptP p)).2.2] ∧ G = H := by
 refine Zq Tryd.func39 rfl u25 rfl ?_
 refine Zd (Za ?_)
 refine Lo u25 (ZJ rfl rfl rfl) ?_
 refine Lo u25 (ZR rfl rfl) ?_
 refine Lo u25 (ZR rfl rfl) ?_
 refine Lo u25 (ZR rfl rfl) ?_
 refine Ze (Zc (Zd (Zd ?_)))
 refine Yu (Gh.freezePtrL (cs := pbB p) 1 0 rfl rfl rfl) ?_
 refine Za ?_
 refine Lo u25 (W11 rfl rfl rfl rfl rfl) ?_
 refine Zp rfl rfl rfl (by exact tpat_spec _ p) ?_
 rintro _ _ ⟨rfl, rfl⟩
 refine Le u25 ?_
 refine Ze (Zc (Zi ?_))
 refine Zt (mk 25 33554147) (env' := u25) rfl ?_
 refine B_rangeJ (fvP p) 2 (fun _ => rfl) (ptP p) (fun l0 h => by cases h) rfl (fun l9 G9 K9 hI9 => tpat1_spec l9 p hp G9 K9 hI9) (σ := SzS) (fun k s => H ++ [.dead, .cells [iI (s.1 : Nat)] true, .cells [iI (s.2.1 : Nat)] true, .cells [.bool s.2.2] true, k]) (0, 0, false) (fun k => by rw [List.append_assoc]; rfl) (fun k s => by simp) (fun k s => by rw [show (H ++ _ : Zf).length = H.length + 4 by simp]; exact ZL rfl rfl) (fun k k1 s => by rw [show (H ++ _ : Zf).length = H.length + 4 by simp]; exact ZO rfl) (fun pre s => s = szA pre) ?_ (fun j pre c s => False) rfl ?_ ?_ ?_
 ·rfl
 ·intro pre c post s hx hI Lp kr kb hkr hkb
  try dsimp only at hI ⊢
  have hc9 : c ∈ ptP p := by rw [hx]; simp
  obtain ⟨h0, hpc, hcl, _, _⟩ := Yd hc9
  have g1 := (pck_good.1 h0).n12
  refine ZM (env' := u25) rfl ?_
  refine Za ?_
  refine Lo u25 (Zb (.inr rfl) rfl) ?_
  refine Ze ?_
  refine ⟨rfl, s, rfl, ?_⟩
  try dsimp only
  refine Zi (Zd (Za ?_))
  refine Lo u25 (Zb (.inl rfl) rfl) ?_
  refine Zp rfl rfl rfl (by exact pSize_spec _ c hpc (by omega)) ?_
  rintro _ _ ⟨rfl, rfl⟩
  refine Le u25 ?_
  refine Lo u25 (Zb (.inr rfl) rfl) ?_
  refine Ze (Zc (Zd (Zd (Za ?_))))
  refine Lo u25 (W12 rfl rfl rfl rfl) ?_
  refine Lo u25 (rfl) ?_
  refine Ze (Zc ?_)
  refine Zk _ rfl (fun hc1 => ?_) (fun hc1 => ?_)
  ·try simp only [qB, qN] at hc1
   refine Za ?_
   refine Lo u25 (Zb (.inl rfl) rfl) ?_
   refine Lo u25 (W13 rfl rfl rfl rfl rfl rfl rfl) ?_
   refine Ze (Zc ?_)
   refine ZS [0, 1, 2, 3, 4, 5, 6, 7, 8] #[0, 0, 3, 0, 0, 24, 7, 127, 255] XH7 XH7 XH7 ?_
   refine Oo u25 .look rfl (W12 rfl rfl rfl rfl) ?_
   refine Oo u25 .calm rfl (Zb (.inl rfl) rfl) ?_
   refine Oo u25 .calm rfl (rfl) ?_
   refine Yn (env' := u25) (x := .look _ _) rfl rfl rfl (W12 rfl rfl rfl rfl) rfl rfl rfl ?_
   refine Oo u25 .calm rfl (Zb (.inl rfl) rfl) ?_
   refine Oo u25 .calm rfl (rfl) ?_
   refine Yn (env' := u25) (x := .turn _ _) rfl rfl rfl (W13 rfl rfl rfl rfl rfl rfl rfl) rfl rfl rfl ?_
   refine Oo u25 .turn rfl (W13 rfl rfl rfl rfl rfl rfl rfl) ?_
   refine Oo u25 .turn rfl (Yg (VVal.bool true) rfl rfl rfl rfl rfl rfl rfl XH0 XH6 XH1) ?_
   refine O_nilP [(3, 6)] XH7 (And.intro ⟨_, _, _, _, ⟨(gA (gA (gA (gA (gA (gL XH7)))))), (gA (gA (gL XH7))), And.intro (W12 rfl rfl rfl rfl) (W12 rfl rfl rfl rfl)⟩⟩ (trivial)) ?_
   refine Zs ?_
   refine ⟨(szN1 s (szP c c.length)), [], (by simp [szN1, hc1, ZH]; (try constructor) <;> split <;> omega), .inl ⟨rfl, ?_⟩⟩
   rw [szA_snoc, ← hI]
  ·try simp only [qB, qN] at hc1
   refine Zj (Zc ?_)
   refine ZS [0, 1, 2, 3, 4, 5, 6, 7, 8] #[0, 0, 3, 0, 0, 24, 7, 127, 255] XH7 XH7 XH7 ?_
   refine Oo u25 .look rfl (W12 rfl rfl rfl rfl) ?_
   refine Oo u25 .calm rfl (Zb (.inl rfl) rfl) ?_
   refine Oo u25 .calm rfl (rfl) ?_
   refine Yn (env' := u25) (x := .look _ _) rfl rfl rfl (W12 rfl rfl rfl rfl) rfl rfl rfl ?_
   refine Oo u25 .calm rfl (Zb (.inl rfl) rfl) ?_
   refine Oo u25 .calm rfl (rfl) ?_
   refine Yn (env' := u25) (x := .turn _ _) rfl rfl rfl (W13 rfl rfl rfl rfl rfl rfl rfl) rfl rfl rfl ?_
   refine Oo u25 .turn rfl (W13 rfl rfl rfl rfl rfl rfl rfl) ?_
   refine Oo u25 .turn rfl (Yg (VVal.bool true) rfl rfl rfl rfl rfl rfl rfl XH0 XH6 XH1) ?_
   refine O_nilP [(3, 6)] XH7 (And.intro ⟨_, _, _, _, ⟨(gA (gA (gA (gA (gA (gL XH7)))))), (gA (gA (gL XH7))), And.intro (W12 rfl rfl rfl rfl) (W12 rfl rfl rfl rfl)⟩⟩ (trivial)) ?_
   refine Zs ?_
   refine ⟨(szN1 s (szP c c.length)), [], (by simp [szN1, hc1, ZH]; (try constructor) <;> split <;> omega), .inl ⟨rfl, ?_⟩⟩
   rw [szA_snoc, ← hI]
 ·intro s k hk hI J9
  try dsimp only at hI ⊢
  refine Zs (Zc (Zd ?_))
  refine ZS [0, 1, 2, 3, 4, 5] #[0, 0, 0, 1, 11, 31] XH7 XH7 XH7 ?_
  refine Oo u25 .look rfl (W12 rfl rfl rfl rfl) ?_
  refine Yn (env' := u25) (x := .look _ _) rfl rfl rfl (W12 rfl rfl rfl rfl) rfl rfl rfl ?_
  refine Yn (env' := u25) (x := .look _ _) rfl rfl rfl (W12 rfl rfl rfl rfl) rfl rfl rfl ?_
  refine Yn (env' := u25) (x := .turn _ _) rfl rfl rfl (W13 rfl rfl rfl rfl rfl rfl rfl) rfl rfl rfl ?_
  refine Yn (env' := u25) (x := .turn _ _) rfl rfl rfl (W13 rfl rfl rfl rfl rfl rfl rfl) rfl rfl rfl ?_
  refine Oo u25 .turn rfl (W13 rfl rfl rfl rfl rfl rfl rfl) ?_
  refine O_nilP [(1, 3), (2, 3), (2, 4)] XH7 (And.intro ⟨_, _, _, _, ⟨(gA (gA (gA (gA (gL XH7))))), (gA (gA (gL XH7))), And.intro (W12 rfl rfl rfl rfl) (W12 rfl rfl rfl rfl)⟩⟩ (And.intro ⟨_, _, _, _, ⟨(gA (gA (gA (gL XH7)))), (gA (gA (gL XH7))), And.intro (W12 rfl rfl rfl rfl) (W12 rfl rfl rfl rfl)⟩⟩ (And.intro ⟨_, _, _, _, ⟨(gA (gA (gA (gL XH7)))), (gA (gL XH7)), And.intro (W12 rfl rfl rfl rfl) (W12 rfl rfl rfl rfl)⟩⟩ (trivial)))) ?_
  refine Zc ?_
  refine B_heap (show _ = H ++ ([VBlk.dead, .cells [iI (s.1 : Nat)] true, .cells [iI (s.2.1 : Nat)] true, .cells [.bool s.2.2] true, k] ++ J9) from List.append_assoc _ _ _) ?_
  refine Zl ?_
  refine W10 (.inr rfl) (vres_cells3 rfl rfl rfl rfl rfl rfl rfl rfl rfl rfl XH0 XH3 XH0 XH3 XH0 XH3) ?_
  exact ⟨by rw [hI], rfl⟩
 ·rintro j pre c post s k hk hx ⟨⟩ J9
theorem W52 {T : TypeId → Option VTy} {H : Zf} {op : Op} {ρ : VEnv} {H' : Zf} {t : TypeId} {a : Operand} {i : Nat} {v : VVal} {y : VTy} {b off : Nat} {cs new : List VVal} (ho : op = .store t a (.tmp i)) (hv : ρ[i]? = some v) (ha : ρ.eval a = .ptr (some (b, off))) (hy : T t = some y) (hx : v.cells = some new) (hn : new.length = y.size) (h1 : new.all VVal.one = true) (hb : H[b]? = some (.cells cs true) := by exact getB rfl rfl) (hl : off + new.length ≤ cs.length := by show 0 + _ * 1 + 1 ≤ vs.length; rw [hlen]; exact Nat.succ_le_of_lt (by show 0 + a.getD k 0 * 1 < _; omega)) (hH : H.set b (.cells (ZH cs off new) true) = H' := by exact (setB rfl (show 0 < 1 from by decide)).trans (by show H ++ List.set _ 0 (VBlk.cells (ZH vs (0 + (a.getD k 0) * 1) [_]) true) ++ _ = _; rw [spl_v (by rw [hlen]; exact hi)])) : vop T ρ.eval H op = some (.skip, H') := Z0 ho hv ha hy hx hn h1 hb hl hH
theorem W54 {S : V.Sys} {H : Zf} {fn : Func} {ex : Exit} {env : VEnv} {B L : Zf} {v : VVal} {R : VVal → Zf → Prop} (hx : ex = .normal ∨ ex = .ret) (hv : ZV S.C.T env (B ++ L) fn.results = some v) (h : R v B) (hB : BaseOk H B := by exact XH49) (hu : v.under H.length = true := by first | rfl | exact bk_under) : fnK S fn H R ex env (B ++ L) := YA hx hv hB hu h
abbrev f1 : Nat → List VVal := fun n => [iI (n : Int)]
def bkA (a : List Nat) : Nat → List (List Nat)
  | 0 => List.replicate (szP a a.length) []
  | k + 1 => (bkA a k).set (a.getD k 0) ((bkA a k).getD (a.getD k 0) [] ++ [k])
theorem bkA_len {a : List Nat} : ∀ {k : Nat}, (bkA a k).length = szP a a.length
  | 0 => List.length_replicate
  | k + 1 => by rw [bkA, List.length_set]; exact bkA_len
theorem bkA_row {a : List Nat} (hp : Pat a) : ∀ {k : Nat}, k ≤ a.length → ∀ b, b < szP a a.length → ((bkA a k).getD b []).length = (a.take k).count b
  | 0, _, b, hb => by rw [bkA, getD_rep hb]; rfl
  | k + 1, hk, b, hb => by
    have ih := bkA_row hp (k := k) (by omega) b hb
    have hx : a.getD k 0 < szP a a.length := hp.lt (Nat.le_refl _) (by omega)
    rw [bkA, getD_setS (by rw [bkA_len]; exact hx), Yh (d := 0) (by omega), List.count_append, List.count_singleton]
    by_cases e : b = a.getD k 0
    · subst e
      rw [if_pos rfl, List.length_append, ih]; simp
    · rw [if_neg e, ih, beq_eq_false_iff_ne.2 (Ne.symm e)]; rfl
def fzBk (rows : List (List Nat)) : VVal := .fsl (rows.map fun l => .fsl (l.flatMap f1) l.length 1 false) rows.length 1 false
theorem bk_under {n : Nat} : ∀ {rows : List (List Nat)}, VVal.underL n (rows.map fun l => VVal.fsl (l.flatMap f1) l.length 1 false) = true
  | [] => rfl
  | r :: rs => by
    show ((VVal.fsl (r.flatMap f1) r.length 1 false).under n && VVal.underL n _) = true
    rw [bk_under, Bool.and_true]; exact fm_under (f := f1) (fun a => rfl) r
theorem pBlocks_spec {x : SW} (H : Zf) (a : List Nat) (hp : Pat a) (h0 : 0 < a.length) (hl : a.length ≤ 25) : F (psys x) 73 [fzN a] H fun v G => v = fzBk (bkA a a.length) ∧ G = H := by
 have hsz := @Yy a a.length
 have hs0 : a.getD 0 0 < szP a a.length := hp.lt (Nat.le_refl _) h0
 refine Zq Tryd.func73 rfl u31 rfl ?_
 refine Zd (Za ?_)
 refine Lo u31 (Zg (VVal.slice none 0 0 true 0) (.inr rfl) rfl) ?_
 refine Ze (Zc (Zd (Za ?_)))
 refine Lo u31 (Zb (.inl rfl) rfl) ?_
 refine Zp rfl rfl rfl (by exact pSize_spec _ _ (by assumption) (by omega)) ?_
 rintro _ _ ⟨rfl, rfl⟩
 refine Le u31 ?_
 refine Lo u31 (YF rfl rfl rfl rfl rfl (by decide) ⟨by omega, Int.le_refl _, by show ((szP a a.length : Nat) : Int) * (24 : Nat) ≤ _; omega, by omega⟩) ?_
 refine Lo u31 (Zb (.inr rfl) rfl) ?_
 refine Ze (Zc (Zd (Zd (Za ?_))))
 refine Lo u31 (Zb (.inl rfl) rfl) ?_
 refine Lo u31 (rfl) ?_
 refine Lo u31 (v_is false rfl (by simp; omega)) ?_
 refine Ze (Zc ?_)
 refine Yi rfl rfl ?_
 refine Zj (Zc (Zd (Zd (Za ?_))))
 refine Lo u31 (Zb (.inl rfl) rfl) ?_
 refine Lo u31 (rfl) ?_
 refine Lo u31 (Zg (VVal.int .i64 0) (.inl rfl) rfl) ?_
 refine Ze (Zc (Zi ?_))
 refine Zt (mk 31 2147454967) (env' := u31) rfl ?_
 refine Zy (fun (k : Nat) => a.length - k) (fun (k : Nat) => [(14, iI (k : Nat))]) (fun (k : Nat) G => (k ≤ a.length) ∧ ∃ Z vs, G = (H ++ [VBlk.cells vs true]) ++ Z ∧ RW f1 1 (H.length + 1) Z vs (bkA a k)) 0 rfl ?_ ?_
 ·refine ⟨?_, ⟨[], _, by rw [List.append_nil, ← rep1]; rfl, RW.init⟩⟩
  exact Nat.zero_le _
 rintro k _ ⟨hk, ⟨Z, vs, rfl, hr⟩⟩
 refine ZM (env' := u31) rfl ?_
 refine Zd (Za ?_)
 refine Lo u31 (rfl) ?_
 refine Ze (Zc (Zd ?_))
 refine Zk _ rfl (fun hc1 => ?_) (fun hc1 => ?_)
 ·try simp only [qB, qN] at hc1
  refine Zj (Zc (Zd (Zi (Zd (Za ?_)))))
  refine Lo u31 (Zb (.inl rfl) rfl) ?_
  refine Lo u31 (W18 rfl rfl rfl rfl rfl rfl rfl) ?_
  refine Lo u31 (W4l rfl rfl rfl rfl) ?_
  refine Lo u31 (Zb (.inr rfl) rfl) ?_
  refine Lo u31 (Zb (.inr rfl) rfl) ?_
  refine Ze (Zc ?_)
  have hx := hp.lt (Nat.le_refl a.length) (show k < a.length by omega)
  have hlen := hr.len
  have hi : a.getD k 0 < (bkA a k).length := by rw [bkA_len]; exact hx
  have hv9 := hr.lv _ hi
  have hrow := bkA_row hp (k := k) (by omega) _ hx
  have hcnt : (a.take k).count (a.getD k 0) ≤ (a.take k).length := List.count_le_length
  rw [List.length_take] at hcnt
  refine Za ?_
  refine Lo u31 (Zb (.inl rfl) rfl) ?_
  refine Lo u31 (Zb (.inl rfl) rfl) ?_
  refine Lo u31 (Zb (.inl rfl) rfl) ?_
  refine Lo u31 (Zb (.inl rfl) rfl) ?_
  refine Lo u31 (W1g rfl rfl rfl rfl rfl rfl rfl) ?_
  refine Lo u31 (W46 rfl rfl rfl rfl) ?_
  refine Lo u31 (Zb (.inl rfl) rfl) ?_
  refine Lo u31 (Zz rfl rfl (by decide) rfl) ?_
  refine L_opX rfl rfl (Y4 rfl rfl rfl rfl rfl rfl rfl (by simp) hv9 rfl rfl (by decide) (by show (_ + 1) * 8 ≤ _ ∧ _ + 1 ≤ _; omega) (by decide)) ?_
  rintro _ _ ⟨Y1, rfl, rfl, hY1, hY2, hY3⟩
  refine Le u31 ?_
  refine Lo u31 (W1g rfl rfl rfl rfl rfl rfl rfl) ?_
  refine Lo u31 (W52 rfl rfl rfl rfl rfl rfl rfl) ?_
  refine Ze (Zs (Zc (Za ?_)))
  refine Lo u31 (W14 rfl rfl rfl) ?_
  refine Lo u31 (Zb (.inl rfl) rfl) ?_
  refine Ze ?_
  refine Zu (mk 31 2147454967) (env' := u31) rfl ⟨k + 1, ?_, rfl, ?_⟩
  ·first | omega | (simp only []; omega)
  ·exact ⟨by omega, _, _, rfl, RW.step hr hi hY2 hY3⟩
 ·try simp only [qB, qN] at hc1
  refine ZB (ZD (Zv (ZA (Zc (Zd ?_)))))
  obtain rfl : k = a.length := by omega
  refine B_ghRW 0 hr rfl (by simp) fun Z9 => ?_
  refine Yu (Gh.freezeL (l := (bkA a a.length).map fun l => VVal.fsl (l.flatMap f1) l.length 1 false) 3 0 rfl rfl (Yq (by rw [List.length_map]; exact bkA_len.symm)) (Nat.le_refl _) rfl) ?_
  refine Za ?_
  refine Lo u31 (Zb (.inl rfl) rfl) ?_
  refine Lo u31 (Zb (.inr rfl) rfl) ?_
  refine Ze (Zc (Zl ?_))
  refine W54 (.inr rfl) (Zh rfl rfl) ?_
  exact ⟨by unfold fzBk; rw [bkA_len]; rfl, rfl⟩
abbrev u36 {a0 a1 a2 a3 a4 a5 a6 a7 a8 a9 a10 a11 a12 a13 a14 a15 a16 a17 a18 a19 a20 a21 a22 a23 a24 a25 a26 a27 a28 a29 a30 a31 a32 a33 a34 a35 : VVal} : VEnv := a0 :: a1 :: a2 :: a3 :: a4 :: a5 :: a6 :: a7 :: a8 :: a9 :: a10 :: a11 :: a12 :: a13 :: a14 :: a15 :: a16 :: a17 :: a18 :: a19 :: a20 :: a21 :: a22 :: a23 :: a24 :: a25 :: a26 :: a27 :: a28 :: a29 :: a30 :: a31 :: a32 :: a33 :: a34 :: a35 :: []
theorem W56 {T : TypeId → Option VTy} {H : Zf} {op : Op} {ρ : Operand → VVal} {t : TypeId} {a : Operand} {y : VTy} {p : VVal} {n : Nat} {vs : List VVal} (ho : op = .load t a) (ha : ρ a = p) (hy : T t = some y) (hd : Zo y.desc = true) (hn : y.size = n) (h : LdOkA H p n vs := by exact XH54) : vop T ρ H op = some (.agg vs, H) := v_ldA ho ha hy hd hn h
theorem W58 {T : TypeId → Option VTy} {H : Zf} {op : Op} {ρ : Operand → VVal} {t : TypeId} {a : Operand} {y : VTy} {p v : VVal} (ho : op = .load t a) (ha : ρ a = p) (hy : T t = some y) (hd : Zo y.desc = false) (h : LdOk H p v := by exact XH54) : vop T ρ H op = some (v, H) := v_ld ho ha hy hd h
def mxK (rows : List (List Nat)) (j : Nat) : Nat := (rows.take j).foldl (fun m r => max m r.length) 0
def mxB (a : List Nat) : Nat := mxK (bkA a a.length) (bkA a a.length).length
theorem mxK_s {rows : List (List Nat)} {j : Nat} (h : j < rows.length) : mxK rows (j + 1) = max (mxK rows j) (rows.getD j []).length := by
  unfold mxK; rw [Yh (d := []) h, List.foldl_append]; rfl
def ldS (s : Nat × Bool) (m : Nat) : Nat × Bool := if s.2 = false ∨ m < s.1 then (m, true) else s
def ldA (l : List (List Nat)) : Nat × Bool := l.foldl (fun s a => ldS s (mxB a)) (0, false)
theorem ldA_snoc {l : List (List Nat)} {a : List Nat} : ldA (l ++ [a]) = ldS (ldA l) (mxB a) := by unfold ldA; rw [List.foldl_append]; rfl
theorem ldS_y {s : Nat × Bool} {m : Nat} (h : s.2 = false ∨ m < s.1) : ldS s m = (m, true) := if_pos h
theorem ldS_n {s : Nat × Bool} {m : Nat} (h : ¬ (s.2 = false ∨ m < s.1)) : ldS s m = s := if_neg h
theorem pBlocks_nil {x : SW} (H : Zf) : F (psys x) 73 [fzN []] H fun v G => v = .slice none 0 0 true 0 ∧ G = H := by
 refine Zq Tryd.func73 rfl u31 rfl ?_
 refine Zd (Za ?_)
 refine Lo u31 (Zg (VVal.slice none 0 0 true 0) (.inr rfl) rfl) ?_
 refine Ze (Zc (Zd (Za ?_)))
 refine Lo u31 (Zb (.inl rfl) rfl) ?_
 refine Zp rfl rfl rfl (by exact pSize_spec _ [] Pat_nil (by decide)) ?_
 rintro _ _ ⟨rfl, rfl⟩
 refine Le u31 ?_
 refine Lo u31 (YF rfl rfl rfl rfl rfl (by decide) (by decide)) ?_
 refine Lo u31 (Zb (.inr rfl) rfl) ?_
 refine Ze (Zc (Zd (Zd (Za ?_))))
 refine Lo u31 (Zb (.inl rfl) rfl) ?_
 refine Lo u31 (rfl) ?_
 refine Lo u31 (v_is true rfl rfl) ?_
 refine Ze (Zc ?_)
 refine ZP rfl rfl ?_
 refine Zd (Za ?_)
 refine Lo u31 (Zg (VVal.slice none 0 0 true 0) (.inr rfl) rfl) ?_
 refine Ze (Zc (Zl (Zm ?_)))
 refine W10 (.inr rfl) (Zh rfl rfl) ?_
 exact ⟨rfl, rfl⟩
theorem tLoad_spec1 {x : SW} (H : Zf) (p : Pb) (hp : PbL p) (hn : 0 < p.who.length) : F (psys x) 41 [.agg (pbB p)] H fun v G => v = .tuple [iI ((ldA (ptP p)).1 : Nat), .bool (ldA (ptP p)).2] ∧ G = H := by
 refine Zq Tryd.func41 rfl u36 rfl ?_
 refine Zd (Za ?_)
 refine Lo u36 (ZJ rfl rfl rfl) ?_
 refine Lo u36 (Zg (VVal.int .i64 0) (.inr rfl) rfl) ?_
 refine Lo u36 (Zg (VVal.bool false) (.inr rfl) rfl) ?_
 refine Ze (Zc (Zd (Za ?_)))
 refine Lo u36 (ZR rfl rfl) ?_
 refine Lo u36 (ZR rfl rfl) ?_
 refine Lo u36 (Yg (VVal.int .i64 0) rfl rfl rfl rfl rfl rfl rfl XH0 XH6 XH1) ?_
 refine Lo u36 (Yg (VVal.bool false) rfl rfl rfl rfl rfl rfl rfl XH0 XH6 XH1) ?_
 refine Ze (Zc (Zd (Zd ?_)))
 refine Yu (Gh.freezePtrL (cs := pbB p) 1 0 rfl rfl rfl) ?_
 refine Za ?_
 refine Lo u36 (W56 rfl rfl rfl rfl rfl) ?_
 refine Zp rfl rfl rfl (by exact tpat_spec _ p) ?_
 rintro _ _ ⟨rfl, rfl⟩
 refine Le u36 ?_
 refine Ze (Zc (Zi ?_))
 refine Zt (mk 36 68719474639) (env' := u36) rfl ?_
 refine B_rangeJ (fvP p) 2 (fun _ => rfl) (ptP p) (fun l0 h => by cases h) rfl (fun l9 G9 K9 hI9 => tpat1_spec l9 p hp G9 K9 hI9) (σ := Nat × Bool) (fun k s => H ++ [.dead, .cells [iI (s.1 : Nat)] true, .cells [.bool s.2] true, k]) (0, false) (fun k => by rw [List.append_assoc]; rfl) (fun k s => by simp) (fun k s => by rw [show (H ++ _ : Zf).length = H.length + 3 by simp]; exact ZL rfl rfl) (fun k k1 s => by rw [show (H ++ _ : Zf).length = H.length + 3 by simp]; exact ZO rfl) (fun pre s => s = ldA pre) ?_ (fun j pre c s => False) rfl ?_ ?_ ?_
 ·rfl
 ·intro pre c post s hx hI Lp kr kb hkr hkb
  try dsimp only at hI ⊢
  have hc9 : c ∈ ptP p := by rw [hx]; simp
  obtain ⟨h0, hpc, hcl, _, _⟩ := Yd hc9
  have g1 := (pck_good.1 h0).n12
  have hbl := @bkA_len c c.length
  have hz9 := @Yy c c.length
  refine ZM (env' := u36) rfl ?_
  refine Za ?_
  refine Lo u36 (Zb (.inr rfl) rfl) ?_
  refine Ze ?_
  refine ⟨rfl, s, rfl, ?_⟩
  try dsimp only
  refine Zi (Zd (Za ?_))
  refine Lo u36 (Zg (VVal.int .i64 0) (.inr rfl) rfl) ?_
  refine Ze (Zc (Zd (Zd (Za ?_))))
  refine Lo u36 (Zb (.inl rfl) rfl) ?_
  refine Zp rfl rfl rfl (by exact pBlocks_spec _ c hpc (by omega) (by omega)) ?_
  rintro _ _ ⟨rfl, rfl⟩
  refine Le u36 ?_
  refine Lo u36 (rfl) ?_
  refine Lo u36 (Zg (VVal.int .i64 0) (.inl rfl) rfl) ?_
  refine Ze (Zc (Zi ?_))
  refine Zt (mk 36 68719247183) (env' := u36) rfl ?_
  refine Zy (fun (j : Nat) => (bkA c c.length).length - j) (fun (j : Nat) => [(7, iI (mxK (bkA c c.length) j : Nat)), (17, iI (j : Nat))]) (fun (j : Nat) G => (j ≤ (bkA c c.length).length) ∧ G = (H ++ [.dead, .cells [iI (s.1 : Nat)] true, .cells [.bool s.2] true, kb]) ++ Lp) 0 rfl ?_ ?_
  ·refine ⟨?_, rfl⟩
   exact Nat.zero_le _
  rintro j _ ⟨hj, rfl⟩
  refine ZM (env' := u36) rfl ?_
  refine Zd (Za ?_)
  refine Lo u36 (rfl) ?_
  refine Ze (Zc (Zd ?_))
  refine Zk _ rfl (fun hc1 => ?_) (fun hc1 => ?_)
  ·try simp only [qB, qN] at hc1
   refine Zj (Zc (Zd (Zi (Zd ?_))))
   have hj9 : j < (bkA c c.length).length := by omega
   have hE := mxK_s hj9
   refine Za ?_
   refine Lo u36 (W18 rfl rfl rfl rfl rfl rfl rfl) ?_
   refine Lo u36 (W58 rfl rfl rfl rfl) ?_
   refine Lo u36 (Zb (.inr rfl) rfl) ?_
   refine Ze (Zc (Za ?_))
   refine Lo u36 (Zb (.inl rfl) rfl) ?_
   refine Lo u36 (Zb (.inl rfl) rfl) ?_
   refine Lo u36 (rfl) ?_
   refine Lo u36 (v_val (u := iI (mxK (bkA c c.length) (j + 1) : Nat)) rfl (congrArg iI (show (if (((bkA c c.length).getD j []).length : Int) > ((mxK (bkA c c.length) j : Nat) : Int) then (((bkA c c.length).getD j []).length : Int) else ((mxK (bkA c c.length) j : Nat) : Int)) = ((mxK (bkA c c.length) (j + 1) : Nat) : Int) by split <;> omega))) ?_
   refine Lo u36 (Zb (.inr rfl) rfl) ?_
   refine Ze (Zs (Zc (Za ?_)))
   refine Lo u36 (W14 rfl rfl rfl) ?_
   refine Lo u36 (Zb (.inl rfl) rfl) ?_
   refine Ze ?_
   refine Zu (mk 36 68719247183) (env' := u36) rfl ⟨j + 1, ?_, rfl, ?_⟩
   ·first | omega | (simp only []; omega)
   ·exact ⟨by omega, rfl⟩
  ·try simp only [qB, qN] at hc1
   refine ZB (ZD (Zv (ZA (Zc (Zd ?_)))))
   obtain rfl : j = (bkA c c.length).length := by omega
   rw [show mxK (bkA c c.length) (bkA c c.length).length = mxB c from rfl]
   refine Za ?_
   refine Lo u36 (W58 rfl rfl rfl rfl) ?_
   refine Lo u36 (rfl) ?_
   refine Lo u36 (Zb (.inl rfl) rfl) ?_
   refine ZE 28 (env1 := u36) (env2 := u36) rfl rfl rfl (fun hg2 => ?_) (fun hg2 => ?_)
   ·try simp only [qB, qN] at hg2
    refine Lf u36 ?_
    refine Lf u36 ?_
    refine Lf u36 ?_
    refine Lo u36 (ZK (VVal.bool true) rfl rfl rfl) ?_
    refine Ze (Zc ?_)
    refine ZP rfl rfl ?_
    refine Za ?_
    refine Lo u36 (Zb (.inl rfl) rfl) ?_
    refine Lo u36 (W13 rfl rfl rfl rfl rfl rfl rfl) ?_
    refine Lo u36 (Yg (VVal.bool true) rfl rfl rfl rfl rfl rfl rfl XH0 XH6 XH1) ?_
    refine Ze (Zs ?_)
    refine ⟨(ldS s (mxB c)), [], XH17, .inl ⟨rfl, ?_⟩⟩
    rw [ldA_snoc, ← hI]
   ·try simp only [qB, qN] at hg2
    refine Lo u36 (Zb (.inl rfl) rfl) ?_
    refine Lo u36 (W58 rfl rfl rfl rfl) ?_
    refine Lo u36 (rfl) ?_
    refine Lo u36 (ZT rfl rfl rfl) ?_
    refine Ze (Zc ?_)
    refine Zk _ rfl (fun hc3 => ?_) (fun hc3 => ?_)
    ·try simp only [qB, qN] at hc3
     refine Za ?_
     refine Lo u36 (Zb (.inl rfl) rfl) ?_
     refine Lo u36 (W13 rfl rfl rfl rfl rfl rfl rfl) ?_
     refine Lo u36 (Yg (VVal.bool true) rfl rfl rfl rfl rfl rfl rfl XH0 XH6 XH1) ?_
     refine Ze (Zs ?_)
     refine ⟨(ldS s (mxB c)), [], XH17, .inl ⟨rfl, ?_⟩⟩
     rw [ldA_snoc, ← hI]
    ·try simp only [qB, qN] at hc3
     refine Zj (Zs ?_)
     refine ⟨(ldS s (mxB c)), [], XH17, .inl ⟨rfl, ?_⟩⟩
     rw [ldA_snoc, ← hI]
 ·intro s k hk hI J9
  try dsimp only at hI ⊢
  refine Zs (Zc (Zd ?_))
  refine ZS [0, 1, 2, 3] #[0, 0, 1, 7] XH7 XH7 XH7 ?_
  refine Oo u36 .look rfl (W58 rfl rfl rfl rfl) ?_
  refine Oo u36 .look rfl (W58 rfl rfl rfl rfl) ?_
  refine Oo u36 .calm rfl (Zb (.inr rfl) rfl) ?_
  refine Oo u36 .calm rfl (Zb (.inr rfl) rfl) ?_
  refine ZU [] XH7 (trivial) ?_
  refine Zc ?_
  refine B_heap (show _ = H ++ ([VBlk.dead, .cells [iI (s.1 : Nat)] true, .cells [.bool s.2] true, k] ++ J9) from List.append_assoc _ _ _) ?_
  refine Zl ?_
  refine W10 (.inr rfl) (Z8 rfl rfl rfl) ?_
  exact ⟨by rw [hI], rfl⟩
 ·rintro j pre c post s k hk hx ⟨⟩ J9
theorem tLoad_spec0 {x : SW} (H : Zf) (p : Pb) (hp : PbL p) (hn : p.who.length = 0) : F (psys x) 41 [.agg (pbB p)] H fun v G => v = .tuple [iI ((ldA (ptP p)).1 : Nat), .bool (ldA (ptP p)).2] ∧ G = H := by
 refine Zq Tryd.func41 rfl u36 rfl ?_
 refine Zd (Za ?_)
 refine Lo u36 (ZJ rfl rfl rfl) ?_
 refine Lo u36 (Zg (VVal.int .i64 0) (.inr rfl) rfl) ?_
 refine Lo u36 (Zg (VVal.bool false) (.inr rfl) rfl) ?_
 refine Ze (Zc (Zd (Za ?_)))
 refine Lo u36 (ZR rfl rfl) ?_
 refine Lo u36 (ZR rfl rfl) ?_
 refine Lo u36 (Yg (VVal.int .i64 0) rfl rfl rfl rfl rfl rfl rfl XH0 XH6 XH1) ?_
 refine Lo u36 (Yg (VVal.bool false) rfl rfl rfl rfl rfl rfl rfl XH0 XH6 XH1) ?_
 refine Ze (Zc (Zd (Zd ?_)))
 refine Yu (Gh.freezePtrL (cs := pbB p) 1 0 rfl rfl rfl) ?_
 refine Za ?_
 refine Lo u36 (W56 rfl rfl rfl rfl rfl) ?_
 refine Zp rfl rfl rfl (by exact tpat_spec _ p) ?_
 rintro _ _ ⟨rfl, rfl⟩
 refine Le u36 ?_
 refine Ze (Zc (Zi ?_))
 refine Zt (mk 36 68719474639) (env' := u36) rfl ?_
 refine B_rangeJ (fvP p) 2 (fun _ => rfl) (ptP p) (fun l0 h => by cases h) rfl (fun l9 G9 K9 hI9 => tpat1_spec l9 p hp G9 K9 hI9) (σ := Nat × Bool) (fun k s => H ++ [.dead, .cells [iI (s.1 : Nat)] true, .cells [.bool s.2] true, k]) (0, false) (fun k => by rw [List.append_assoc]; rfl) (fun k s => by simp) (fun k s => by rw [show (H ++ _ : Zf).length = H.length + 3 by simp]; exact ZL rfl rfl) (fun k k1 s => by rw [show (H ++ _ : Zf).length = H.length + 3 by simp]; exact ZO rfl) (fun pre s => s = ldA pre) ?_ (fun j pre c s => False) rfl ?_ ?_ ?_
 ·rfl
 ·intro pre c post s hx hI Lp kr kb hkr hkb
  try dsimp only at hI ⊢
  have hc9 : c ∈ ptP p := by rw [hx]; simp
  obtain ⟨h0, hpc, hcl, _, _⟩ := Yd hc9
  have g1 := (pck_good.1 h0).n12
  have hbl := @bkA_len c c.length
  have hz9 := @Yy c c.length
  obtain rfl : c = [] := List.eq_nil_of_length_eq_zero (by omega)
  refine ZM (env' := u36) rfl ?_
  refine Za ?_
  refine Lo u36 (Zb (.inr rfl) rfl) ?_
  refine Ze ?_
  refine ⟨rfl, s, rfl, ?_⟩
  try dsimp only
  refine Zi (Zd (Za ?_))
  refine Lo u36 (Zg (VVal.int .i64 0) (.inr rfl) rfl) ?_
  refine Ze (Zc (Zd (Zd (Za ?_))))
  refine Lo u36 (Zb (.inl rfl) rfl) ?_
  refine Zp rfl rfl rfl (by exact pBlocks_nil _) ?_
  rintro _ _ ⟨rfl, rfl⟩
  refine Le u36 ?_
  refine Lo u36 (rfl) ?_
  refine Lo u36 (Zg (VVal.int .i64 0) (.inl rfl) rfl) ?_
  refine Ze (Zc (Zi ?_))
  refine Zt (mk 36 68719247183) (env' := u36) rfl ?_
  refine Zy (fun (j : Nat) => 0 - j) (fun (j : Nat) => [(7, iI (0 : Nat)), (17, iI (j : Nat))]) (fun (j : Nat) G => (j ≤ 0) ∧ G = (H ++ [.dead, .cells [iI (s.1 : Nat)] true, .cells [.bool s.2] true, kb]) ++ Lp) 0 rfl ?_ ?_
  ·refine ⟨?_, rfl⟩
   exact Nat.zero_le _
  rintro j _ ⟨hj, rfl⟩
  refine ZM (env' := u36) rfl ?_
  refine Zd (Za ?_)
  refine Lo u36 (rfl) ?_
  refine Ze (Zc (Zd ?_))
  refine Zk _ rfl (fun hc1 => ?_) (fun hc1 => ?_)
  ·try simp only [qB, qN] at hc1
   exact absurd hc1 (by omega)
  ·try simp only [qB, qN] at hc1
   refine ZB (ZD (Zv (ZA (Zc (Zd ?_)))))
   obtain rfl : j = 0 := by omega
   rw [show (0 : Nat) = mxB [] from rfl]
   refine Za ?_
   refine Lo u36 (W58 rfl rfl rfl rfl) ?_
   refine Lo u36 (rfl) ?_
   refine Lo u36 (Zb (.inl rfl) rfl) ?_
   refine ZE 28 (env1 := u36) (env2 := u36) rfl rfl rfl (fun hg2 => ?_) (fun hg2 => ?_)
   ·try simp only [qB, qN] at hg2
    refine Lf u36 ?_
    refine Lf u36 ?_
    refine Lf u36 ?_
    refine Lo u36 (ZK (VVal.bool true) rfl rfl rfl) ?_
    refine Ze (Zc ?_)
    refine ZP rfl rfl ?_
    refine Za ?_
    refine Lo u36 (Zb (.inl rfl) rfl) ?_
    refine Lo u36 (W13 rfl rfl rfl rfl rfl rfl rfl) ?_
    refine Lo u36 (Yg (VVal.bool true) rfl rfl rfl rfl rfl rfl rfl XH0 XH6 XH1) ?_
    refine Ze (Zs ?_)
    refine ⟨(ldS s (mxB [])), [], XH16, .inl ⟨rfl, ?_⟩⟩
    rw [ldA_snoc, ← hI]
   ·try simp only [qB, qN] at hg2
    refine Lo u36 (Zb (.inl rfl) rfl) ?_
    refine Lo u36 (W58 rfl rfl rfl rfl) ?_
    refine Lo u36 (rfl) ?_
    refine Lo u36 (ZT rfl rfl rfl) ?_
    refine Ze (Zc ?_)
    refine Zk _ rfl (fun hc3 => ?_) (fun hc3 => ?_)
    ·try simp only [qB, qN] at hc3
     refine Za ?_
     refine Lo u36 (Zb (.inl rfl) rfl) ?_
     refine Lo u36 (W13 rfl rfl rfl rfl rfl rfl rfl) ?_
     refine Lo u36 (Yg (VVal.bool true) rfl rfl rfl rfl rfl rfl rfl XH0 XH6 XH1) ?_
     refine Ze (Zs ?_)
     refine ⟨(ldS s (mxB [])), [], XH16, .inl ⟨rfl, ?_⟩⟩
     rw [ldA_snoc, ← hI]
    ·try simp only [qB, qN] at hc3
     refine Zj (Zs ?_)
     refine ⟨(ldS s (mxB [])), [], XH16, .inl ⟨rfl, ?_⟩⟩
     rw [ldA_snoc, ← hI]
 ·intro s k hk hI J9
  try dsimp only at hI ⊢
  refine Zs (Zc (Zd ?_))
  refine ZS [0, 1, 2, 3] #[0, 0, 1, 7] XH7 XH7 XH7 ?_
  refine Oo u36 .look rfl (W58 rfl rfl rfl rfl) ?_
  refine Oo u36 .look rfl (W58 rfl rfl rfl rfl) ?_
  refine Oo u36 .calm rfl (Zb (.inr rfl) rfl) ?_
  refine Oo u36 .calm rfl (Zb (.inr rfl) rfl) ?_
  refine ZU [] XH7 (trivial) ?_
  refine Zc ?_
  refine B_heap (show _ = H ++ ([VBlk.dead, .cells [iI (s.1 : Nat)] true, .cells [.bool s.2] true, k] ++ J9) from List.append_assoc _ _ _) ?_
  refine Zl ?_
  refine W10 (.inr rfl) (Z8 rfl rfl rfl) ?_
  exact ⟨by rw [hI], rfl⟩
 ·rintro j pre c post s k hk hx ⟨⟩ J9
def wtR (q : Pb) (r : Rul) : Pb := (q.users, q.who, q.fixed, q.rules ++ [r], ())
theorem ptP_is {q : Pb} (h0 : pck q = 0) : ptP q = (pats q.who.length [] 0).filter fun a => keptN (kpB (wsP q) (YZ q)) 0 a := by
  unfold ptP
  rw [if_pos h0, ptT_snd, wsP_len]; rfl
theorem pt_kept {q : Pb} (g : Go.V.Good q) {a : List Nat} (ha : a ∈ pats q.who.length [] 0) : keptN (kpB (wsP q) (YZ q)) 0 a = true ↔ Mat (Yb (wsP q) a a.length) ∧ ∀ r, r ∈ q.rules → erl r q.who.length (zI a) = true := by
  obtain ⟨z, hz, hl⟩ := pats_len ha
  rw [List.nil_append] at hz; subst hz
  have hp := pats_pat Pat_nil ha
  have := kept_iff (ws := wsP q) (rs := q.rules) hp (by rw [wsP_len]; exact hl) (fun r hr => by rw [wsP_len]; exact g.ru r hr)
  rw [wsP_len] at this
  exact this
theorem leA_pt {q : Pb} (h0 : pck q = 0) : (leA q).isSome = true ↔ ∃ a, a ∈ ptP q := by
  rw [ptP_is h0]
  unfold leA fdA
  rw [if_pos h0, Option.isSome_map, frm_find, List.find?_isSome, wsP_len]
  constructor
  · rintro ⟨a, h1, h2⟩; exact ⟨a, List.mem_filter.2 ⟨h1, h2⟩⟩
  · rintro ⟨a, h⟩; exact ⟨a, List.mem_filter.1 h⟩
theorem szA_is {l : List (List Nat)} : (szA l).2.2 = decide (l ≠ []) ∧ (l ≠ [] → ((∃ a, a ∈ l ∧ szP a a.length = (szA l).1) ∧ ∀ a, a ∈ l → (szA l).1 ≤ szP a a.length) ∧ ((∃ a, a ∈ l ∧ szP a a.length = (szA l).2.1) ∧ ∀ a, a ∈ l → szP a a.length ≤ (szA l).2.1)) := by
  refine rev_ind (P := fun l => (szA l).2.2 = decide (l ≠ []) ∧ (l ≠ [] → ((∃ a, a ∈ l ∧ szP a a.length = (szA l).1) ∧ ∀ a, a ∈ l → (szA l).1 ≤ szP a a.length) ∧ ((∃ a, a ∈ l ∧ szP a a.length = (szA l).2.1) ∧ ∀ a, a ∈ l → szP a a.length ≤ (szA l).2.1))) ⟨rfl, fun h => absurd rfl h⟩ (fun l x ih => ?_) l
  obtain ⟨i1, i2⟩ := ih
  rw [szA_snoc]
  have e1 : (szN1 (szA l) (szP x x.length)).1 = min (if (szA l).2.2 = true then (szA l).1 else szP x x.length) (szP x x.length) := rfl
  have e2 : (szN1 (szA l) (szP x x.length)).2.1 = max (szA l).2.1 (szP x x.length) := rfl
  have e3 : (szN1 (szA l) (szP x x.length)).2.2 = true := rfl
  refine ⟨by rw [e3]; simp, fun _ => ?_⟩
  rw [e1, e2]
  by_cases hl : l = []
  · subst hl
    have z1 : (szA []).2.2 = false := rfl
    have z2 : (szA []).2.1 = 0 := rfl
    rw [z1, z2]
    refine ⟨⟨⟨x, by simp, by simp⟩, fun a ha => ?_⟩, ⟨x, by simp, by omega⟩, fun a ha => ?_⟩
    · have : a = x := by simpa using ha
      subst this; simp
    · have : a = x := by simpa using ha
      subst this; omega
  · obtain ⟨⟨⟨a, ha, ea⟩, ma⟩, ⟨b, hb, eb⟩, mb⟩ := i2 hl
    rw [i1, decide_eq_true hl, if_pos rfl]
    refine ⟨⟨?_, fun c hc => ?_⟩, ?_, fun c hc => ?_⟩
    · by_cases h : (szA l).1 ≤ szP x x.length
      · exact ⟨a, List.mem_append_left _ ha, by omega⟩
      · exact ⟨x, by simp, by omega⟩
    · rcases List.mem_append.1 hc with hc | hc
      · have := ma c hc; omega
      · have : c = x := by simpa using hc
        subst this; omega
    · by_cases h : szP x x.length ≤ (szA l).2.1
      · exact ⟨b, List.mem_append_left _ hb, by omega⟩
      · exact ⟨x, by simp, by omega⟩
    · rcases List.mem_append.1 hc with hc | hc
      · have := mb c hc; omega
      · have : c = x := by simpa using hc
        subst this; omega
theorem ldA_is {l : List (List Nat)} : (ldA l).2 = decide (l ≠ []) ∧ (l ≠ [] → (∃ a, a ∈ l ∧ mxB a = (ldA l).1) ∧ ∀ a, a ∈ l → (ldA l).1 ≤ mxB a) := by
  refine rev_ind (P := fun l => (ldA l).2 = decide (l ≠ []) ∧ (l ≠ [] → (∃ a, a ∈ l ∧ mxB a = (ldA l).1) ∧ ∀ a, a ∈ l → (ldA l).1 ≤ mxB a)) ⟨rfl, fun h => absurd rfl h⟩ (fun l x ih => ?_) l
  obtain ⟨i1, i2⟩ := ih
  rw [ldA_snoc]
  by_cases hl : l = []
  · subst hl
    rw [ldS_y (.inl rfl)]
    refine ⟨by simp, fun _ => ⟨⟨x, by simp, rfl⟩, fun a ha => ?_⟩⟩
    have : a = x := by simpa using ha
    subst this; exact Nat.le_refl _
  · obtain ⟨⟨a, ha, ea⟩, ma⟩ := i2 hl
    rw [decide_eq_true hl] at i1
    by_cases h : mxB x < (ldA l).1
    · rw [ldS_y (.inr h)]
      refine ⟨by simp, fun _ => ⟨⟨x, by simp, rfl⟩, fun c hc => ?_⟩⟩
      rcases List.mem_append.1 hc with hc | hc
      · have := ma c hc; show mxB x ≤ _; omega
      · have : c = x := by simpa using hc
        subst this; exact Nat.le_refl _
    · rw [ldS_n (by rw [i1]; rintro (k | k); cases k; exact h k)]
      refine ⟨by rw [i1]; simp, fun _ => ⟨⟨a, List.mem_append_left _ ha, ea⟩, fun c hc => ?_⟩⟩
      rcases List.mem_append.1 hc with hc | hc
      · exact ma c hc
      · have : c = x := by simpa using hc
        subst this; omega
theorem mxK_iff {rows : List (List Nat)} {m : Nat} : ∀ {j : Nat}, j ≤ rows.length → (mxK rows j ≤ m ↔ ∀ b, b < j → (rows.getD b []).length ≤ m)
  | 0, _ => ⟨fun _ b h => absurd h (Nat.not_lt_zero _), fun _ => Nat.zero_le _⟩
  | j + 1, hj => by
    have ih := mxK_iff (rows := rows) (m := m) (j := j) (by omega)
    rw [mxK_s (by omega)]
    constructor
    · intro h b hb
      by_cases e : b = j
      · subst e; omega
      · exact ih.1 (by omega) b (by omega)
    · intro h
      have h1 := ih.2 fun b hb => h b (by omega)
      have h2 := h j (by omega)
      omega
theorem cnt_zI {a : List Nat} {b : Nat} : (zI a).count (b : Int) = a.count b := by
  induction a with
  | nil => rfl
  | cons x a ih =>
    show ((x : Int) :: zI a).count (b : Int) = _
    rw [List.count_cons, List.count_cons, ih]
    by_cases e : x = b
    · subst e; simp
    · rw [beq_eq_false_iff_ne.2 e, beq_eq_false_iff_ne.2 (fun k : (x : Int) = b => e (by omega))]
theorem mxB_is {a : List Nat} (hp : Pat a) : mxB a = oft (zI a) := by
  have key : ∀ m, mxB a ≤ m ↔ oft (zI a) ≤ m := fun m => by
    unfold mxB
    rw [mxK_iff (Nat.le_refl _), oft_le]
    constructor
    · intro h y hy
      unfold zI at hy
      obtain ⟨b, hb, rfl⟩ := List.mem_map.1 hy
      have hb2 := ((uq_pat hp).2 b).2 hb
      have h1 := h b (by rw [bkA_len]; exact hb2)
      rw [bkA_row hp (Nat.le_refl _) b hb2, List.take_length] at h1
      show (zI a).count (b : Int) ≤ m
      rw [cnt_zI]; exact h1
    · intro h b hb
      rw [bkA_len] at hb
      have hb2 := ((uq_pat hp).2 b).1 hb
      rw [bkA_row hp (Nat.le_refl _) b hb, List.take_length, ← cnt_zI]
      exact h _ (zI_mem.2 hb2)
  exact Nat.le_antisymm ((key _).2 (Nat.le_refl _)) ((key _).1 (Nat.le_refl _))
abbrev u33 {a0 a1 a2 a3 a4 a5 a6 a7 a8 a9 a10 a11 a12 a13 a14 a15 a16 a17 a18 a19 a20 a21 a22 a23 a24 a25 a26 a27 a28 a29 a30 a31 a32 : VVal} : VEnv := a0 :: a1 :: a2 :: a3 :: a4 :: a5 :: a6 :: a7 :: a8 :: a9 :: a10 :: a11 :: a12 :: a13 :: a14 :: a15 :: a16 :: a17 :: a18 :: a19 :: a20 :: a21 :: a22 :: a23 :: a24 :: a25 :: a26 :: a27 :: a28 :: a29 :: a30 :: a31 :: a32 :: []
theorem W5f {T : TypeId → Option VTy} {H : Zf} {op : Op} {ρ : Operand → VVal} {t : TypeId} {a : Operand} {y : VTy} {p v : VVal} (ho : op = .load t a) (ha : ρ a = p) (hy : T t = some y) (hd : Zo y.desc = false) (h : LdOk H p v := by first | exact .inl ⟨_, _, rfl, XH45⟩ | exact .inr ⟨_, _, _, _, rfl, by exact getBX hm5, XH45⟩) : vop T ρ H op = some (v, H) := v_ld ho ha hy hd h
theorem W5g {T : TypeId → Option VTy} {H : Zf} {op : Op} {ρ : VEnv} {H' : Zf} {t : TypeId} {a : Operand} {i : Nat} {v : VVal} {y : VTy} {b off : Nat} {cs new : List VVal} (ho : op = .store t a (.tmp i)) (hv : ρ[i]? = some v) (ha : ρ.eval a = .ptr (some (b, off))) (hy : T t = some y) (hx : v.cells = some new) (hn : new.length = y.size) (h1 : new.all VVal.one = true) (hb : H[b]? = some (.cells cs true) := by exact getBX (Zw hm6)) (hl : off + new.length ≤ cs.length := by exact XH46) (hH : H.set b (.cells (ZH cs off new) true) = H' := by exact setBX) : vop T ρ.eval H op = some (.skip, H') := Z0 ho hv ha hy hx hn h1 hb hl hH
theorem W5h {T : TypeId → Option VTy} {H : Zf} {op : Op} {ρ : VEnv} {H' : Zf} {t : TypeId} {a : Operand} {i : Nat} {v : VVal} {y : VTy} {b off : Nat} {cs new : List VVal} (ho : op = .store t a (.tmp i)) (hv : ρ[i]? = some v) (ha : ρ.eval a = .ptr (some (b, off))) (hy : T t = some y) (hx : v.cells = some new) (hn : new.length = y.size) (h1 : new.all VVal.one = true) (hb : H[b]? = some (.cells cs true) := by exact getB rfl rfl) (hl : off + new.length ≤ cs.length := by exact XH46) (hH : H.set b (.cells (ZH cs off new) true) = H' := by exact setB rfl (show 1 < 2 by decide)) : vop T ρ.eval H op = some (.skip, H') := Z0 ho hv ha hy hx hn h1 hb hl hH
theorem W5i {S : V.Sys} {H : Zf} {fn : Func} {ex : Exit} {env : VEnv} {B L : Zf} {v : VVal} {R : VVal → Zf → Prop} (hx : ex = .normal ∨ ex = .ret) (hv : ZV S.C.T env (B ++ L) fn.results = some v) (h : R v B) (hB : BaseOk H B := by exact XH49) (hu : v.under H.length = true := by first | rfl | exact pb_under (p := (wtR p (kd, k, YD p.who.length, ())))) : fnK S fn H R ex env (B ++ L) := YA hx hv hB hu h
theorem rwith_R {x : SW} (H : Zf) (p : Pb) (kd k : Int) (hp : PbL p) (hne : 0 < p.fixed.length) (hnw : 0 < p.who.length) (hst : ∀ r, r ∈ p.rules → 0 < r.steps.length) (hn : p.who.length ≤ 1000) (hr : p.rules.length ≤ 1000) : F (psys x) 72 [.agg (pbB p), iI kd, iI k] H fun v G => v = .agg (pbB (wtR p (kd, k, YD p.who.length, ()))) ∧ G = H := by
 refine Zq Tryd.func72 rfl u33 rfl ?_
 refine Zd (Za ?_)
 refine Lo u33 (ZJ rfl rfl rfl) ?_
 refine Lo u33 (ZR rfl rfl) ?_
 refine Ze (Zc (Zd ?_))
 refine Yu (Gh.freezePtrL (cs := pbB p) 3 0 rfl rfl rfl) ?_
 refine Za ?_
 refine Lo u33 (W2p rfl rfl rfl rfl rfl) ?_
 refine Zp rfl rfl rfl (by exact Twin_R _ p hp hne hnw hst) ?_
 rintro v G ⟨Y, rv, rfl, rfl, hlv⟩; have hone : [iI p.users, fzW p.who, fzI p.fixed, rv].all VVal.one = true := by simp only [List.all_cons, hlv.one, List.all_nil]; rfl
 refine Le u33 ?_
 refine Lo u33 (ZR rfl rfl) ?_
 refine Lo u33 (W13 rfl rfl rfl rfl rfl rfl hone) ?_
 refine Ze (Zc (Zd (Za ?_)))
 refine Lo u33 (Zg (VVal.slice none 0 0 true 0) (.inr rfl) rfl) ?_
 refine Ze (Zc (Zd (Zd (Za ?_))))
 refine Lo u33 (Zg (VVal.int .i64 0) (.inr rfl) rfl) ?_
 refine Ze (Zc (Zi ?_))
 refine Zt (mk 33 8589933617) (env' := u33) rfl ?_
 refine Zy (fun (⟨i, av⟩ : Nat × VVal) => p.who.length - i) (fun (⟨i, av⟩ : Nat × VVal) => [(8, av), (9, iI (i : Nat))]) (fun (⟨i, av⟩ : Nat × VVal) G => (i ≤ p.who.length) ∧ ∃ X, G = ((H ++ [VBlk.dead, pqB 0 Yr Yr Yr]) ++ (Y ++ [VBlk.cells [iI p.users, fzW p.who, fzI p.fixed, rv] true])) ++ X ∧ LV ((H ++ [VBlk.dead, pqB 0 Yr Yr Yr]) ++ (Y ++ [VBlk.cells [iI p.users, fzW p.who, fzI p.fixed, rv] true])).length 1 X av ((YD i).map iI) (YD i).length) ⟨0, _⟩ rfl ?_ ?_
 ·refine ⟨?_, ⟨[], by rw [List.append_nil]; rfl, LV.nil _ _ _⟩⟩
  exact Nat.zero_le _
 rintro ⟨i, av⟩ _ ⟨hi, ⟨X, rfl, hl⟩⟩
 refine ZM (env' := u33) rfl ?_
 refine Zd (Zd (Za ?_))
 refine Lo u33 (Zb (.inl rfl) rfl) ?_
 refine Lo u33 (rfl) ?_
 refine Lo u33 (W2r rfl rfl rfl rfl) ?_
 refine Lo u33 (rfl) ?_
 refine Lo u33 (rfl) ?_
 refine Ze (Zc ?_)
 refine Zk _ rfl (fun hc1 => ?_) (fun hc1 => ?_)
 ·try simp only [qB, qN] at hc1
  refine Zj (Zc (Zd (Zi ?_)))
  have hal := @allS_len i
  refine Za ?_
  refine Lo u33 (Zb (.inl rfl) rfl) ?_
  refine Lo u33 (Zb (.inl rfl) rfl) ?_
  refine Lo u33 (Zz rfl rfl (by decide) rfl) ?_
  refine L_opX rfl rfl (Y4 rfl rfl rfl rfl rfl rfl rfl rfl hl rfl rfl (by decide) (by show (_ + 1) * 8 ≤ _ ∧ _ + 1 ≤ _; omega) (by decide)) ?_
  rintro _ _ ⟨Y1, rfl, rfl, hY1, hY2, hY3⟩
  refine Le u33 ?_
  refine Lo u33 (Zb (.inr rfl) rfl) ?_
  refine Ze (Zs (Zc (Za ?_)))
  refine Lo u33 (Zb (.inl rfl) rfl) ?_
  refine Lo u33 (W14 rfl rfl rfl) ?_
  refine Lo u33 (Zb (.inr rfl) rfl) ?_
  refine Ze ?_
  refine Zu (mk 33 8589933617) (env' := u33) rfl ⟨⟨i + 1, _⟩, ?_, rfl, ?_⟩
  ·first | omega | (simp only []; omega)
  ·exact ⟨by omega, _, rfl, by rw [allS_succ]; exact LV.pushI hY3⟩
 ·try simp only [qB, qN] at hc1
  refine ZB (ZD (Zv (ZA (Zc (Zd ?_)))))
  obtain rfl : i = p.who.length := by omega
  refine B_ghLVh (env' := u33) 8 hl rfl rfl rfl fun X4 _ _ => ?_
  obtain ⟨X5, hX5, hlr, hm5, hY5⟩ : ∃ X5, (Y ++ [VBlk.cells [iI p.users, fzW p.who, fzI p.fixed, rv] true]) ++ X4 = X5 ∧ LV (H ++ [VBlk.dead, pqB 0 Yr Yr Yr]).length 3 X5 rv (p.rules.flatMap rlB) p.rules.length ∧ X5[Y.length]? = some (VBlk.cells [iI p.users, fzW p.who, fzI p.fixed, rv] true) ∧ Y.length < X5.length := ⟨_, rfl, (hlv.app _).app _, Zw get_end, by simp⟩
  refine B_heap (H' := (H ++ [VBlk.dead, pqB 0 Yr Yr Yr]) ++ X5) (by rw [← hX5]; exact List.append_assoc _ _ _) ?_
  refine Za ?_
  refine Lo u33 (rfl) ?_
  refine Lo u33 (W5f rfl rfl rfl rfl) ?_
  refine Lo u33 (Zb (.inl rfl) rfl) ?_
  refine Lo u33 (Zb (.inl rfl) rfl) ?_
  refine Lo u33 (Zb (.inl rfl) rfl) ?_
  refine Lo u33 (rfl) ?_
  refine Lo u33 (Zz rfl rfl (by decide) rfl) ?_
  refine L_opX rfl rfl (Y4 rfl rfl rfl rfl rfl rfl rfl rfl hlr rfl rfl (by decide) (by show (_ + 1) * 40 ≤ _ ∧ _ + 1 ≤ _; omega) (by decide)) ?_
  rintro _ _ ⟨Y1, rfl, rfl, hY1, hY2, hY3⟩; have hm6 : Y1[Y.length]? = some (VBlk.cells [iI p.users, fzW p.who, fzI p.fixed, rv] true) := (hY2 Y.length (LV_ne hlv (Nat.le_refl _))).trans hm5
  refine Le u33 ?_
  refine Lo u33 (rfl) ?_
  refine Lo u33 (W5g rfl rfl rfl rfl rfl rfl rfl) ?_
  refine Ze (Zc (Zd ?_))
  obtain ⟨b9, hb8, hb9⟩ := hY3.pos (Nat.succ_pos _)
  obtain rfl : b9 = X5.length + 1 := by simp only [VVal.slice.injEq, Option.some.injEq, Prod.mk.injEq] at hb8; omega
  obtain ⟨Z2, hg4, hz2⟩ := ls_gh (S := psys x) (B := (H ++ [VBlk.dead, pqB 0 Yr Yr Yr])) (rs := p.rules ++ [((kd, k, YD p.who.length, ()) : Rul)]) (len := p.rules.length + 1) (n := p.rules.length + 1) (set_far hb9 (by omega)) (set_get (Zw hm6)) (wt_cells (q := p.rules) (r := ((kd, k, YD p.who.length, ()) : Rul))) (by rw [List.length_append]; rfl) (Nat.le_refl _) (by omega)
  refine Yu (hg4 _ _) ?_
  refine Yu (Gh.freezePtrL (H := (H ++ [VBlk.dead, pqB 0 Yr Yr Yr])) (L := Z2) (cs := pbB (wtR p (kd, k, YD p.who.length, ()))) 7 (Y.length) rfl hz2 rfl) ?_
  refine Za ?_
  refine Lo u33 (W2p rfl rfl rfl rfl rfl) ?_
  refine Lo u33 (W5h rfl rfl rfl rfl rfl rfl rfl) ?_
  refine Ze (Zc ?_)
  refine B_heap (List.append_assoc _ _ _) ?_
  refine Zl ?_
  refine W5i (.inr rfl) (YG rfl rfl rfl rfl XH0 XH19) ?_
  exact ⟨rfl, rfl⟩
abbrev seB (w : BitVec 64) : VBlk := .cells [iW w] true
abbrev jN (u : Nat) : VVal := iI (u : Nat)
theorem Ys {b : Bool} (h : b = false) : ¬ b = true := by rw [h]; decide
theorem beq_nat {a b : Nat} : ((a : Int) == (b : Int)) = (a == b) := Bool.eq_iff_iff.2 (by rw [beq_iff_eq, beq_iff_eq]; omega)
theorem find_no' {pre : List Nat} {f : Nat → Bool} (h : ∀ v, v ∈ pre → f v = false) : pre.find? f = none := List.find?_eq_none.2 fun v hv => by rw [h v hv]; decide
theorem find_yes {pre post : List Nat} {c : Nat} {f : Nat → Bool} (h : ∀ v, v ∈ pre → f v = false) (hc : f c = true) : (pre ++ c :: post).find? f = some c := by
  rw [List.find?_append, find_no' h, List.find?_cons, hc]; rfl
theorem full0 {l : List (BitVec 64)} : Yp l 0#64 = true ↔ Mat l := by rw [fullB_iff, msk_0]
def szV (l : List (BitVec 64)) : Int := if l.length ≤ 12 then (szN l : Nat) else 0
def leV (rows : List (BitVec 64)) : VVal := if rows.length ≤ 12 ∧ Yp rows 0#64 = true then .tuple [fzN (lst rows 0#64), .bool true] else .tuple [fzN [], .bool false]
abbrev u38 {a0 a1 a2 a3 a4 a5 a6 a7 a8 a9 a10 a11 a12 a13 a14 a15 a16 a17 a18 a19 a20 a21 a22 a23 a24 a25 a26 a27 a28 a29 a30 a31 a32 a33 a34 a35 a36 a37 : VVal} : VEnv := a0 :: a1 :: a2 :: a3 :: a4 :: a5 :: a6 :: a7 :: a8 :: a9 :: a10 :: a11 :: a12 :: a13 :: a14 :: a15 :: a16 :: a17 :: a18 :: a19 :: a20 :: a21 :: a22 :: a23 :: a24 :: a25 :: a26 :: a27 :: a28 :: a29 :: a30 :: a31 :: a32 :: a33 :: a34 :: a35 :: a36 :: a37 :: []
abbrev u39 {a0 a1 a2 a3 a4 a5 a6 a7 a8 a9 a10 a11 a12 a13 a14 a15 a16 a17 a18 a19 a20 a21 a22 a23 a24 a25 a26 a27 a28 a29 a30 a31 a32 a33 a34 a35 a36 a37 a38 : VVal} : VEnv := a0 :: a1 :: a2 :: a3 :: a4 :: a5 :: a6 :: a7 :: a8 :: a9 :: a10 :: a11 :: a12 :: a13 :: a14 :: a15 :: a16 :: a17 :: a18 :: a19 :: a20 :: a21 :: a22 :: a23 :: a24 :: a25 :: a26 :: a27 :: a28 :: a29 :: a30 :: a31 :: a32 :: a33 :: a34 :: a35 :: a36 :: a37 :: a38 :: []
theorem W5m {P : Prop} (h : P := by first | exact ⟨by rw [myBR_f g hi (by assumption), beq_d], rfl⟩ | exact ⟨by rw [myBR_w g hi (by omega), decide_eq_false (by omega)]; rfl, rfl⟩ | exact ⟨by rw [myBR_w g hi (by omega), decide_eq_true (by omega), Bool.true_and]; exact congrArg VVal.bool bit_eq, rfl⟩) : P := h
theorem W5n {P : Prop} (h : P := by first | exact ⟨rfl, rfl⟩ | (exfalso; omega)) : P := h
abbrev noR (p : Pb) : Pb := (p.users, p.who, p.fixed, [], ())
theorem noR_good {p : Pb} (g : Go.V.Good p) : Go.V.Good (noR p) := ⟨g.n12, g.u64, Nat.zero_le _, g.u0, g.fx, g.ok, fun r h => by cases h⟩
theorem noR_n12 {p : Pb} (g : Go.V.Good (noR p)) : p.who.length ≤ 12 := g.n12
theorem noR_u64 {p : Pb} (g : Go.V.Good (noR p)) : p.users ≤ 64 := g.u64
theorem noR_u0 {p : Pb} (g : Go.V.Good (noR p)) : 0 ≤ p.users := g.u0
theorem noR_fx {p : Pb} (g : Go.V.Good (noR p)) : p.fixed.length = p.who.length := g.fx
theorem myBR_f {p : Pb} (g : Go.V.Good (noR p)) {i : Nat} {u : Int} (hi : i < p.who.length) (h : 0 ≤ p.fixed.getD i 0) : myB p i u = decide (u = p.fixed.getD i 0) := myB_f (p := noR p) g hi h
theorem myBR_w {p : Pb} (g : Go.V.Good (noR p)) {i : Nat} {u : Int} (hi : i < p.who.length) (h : p.fixed.getD i 0 < 0) : myB p i u = (decide (0 ≤ u ∧ u < p.users) && (p.who.getD i 0).getLsbD u.toNat) := myB_w (p := noR p) g hi h
theorem May_R {x : SW} (H : Zf) (p : Pb) (g : Go.V.Good (noR p)) (i : Nat) (hi : i < p.who.length) (u : Int) : F (psys x) 43 [.agg (pbB p), iI (i : Nat), iI u] H fun v G => v = .bool (myB p i u) ∧ G = H := by
 have g5 := noR_fx g
 refine Zq Tryd.func43 rfl u39 rfl ?_
 refine Zd (Za ?_)
 refine Lo u39 (ZJ rfl rfl rfl) ?_
 refine Lo u39 (Zg (VVal.bool false) (.inr rfl) rfl) ?_
 refine Ze (Zc (Zd (Zd (Za ?_))))
 refine Lo u39 (rfl) ?_
 refine Lo u39 (W2r rfl rfl rfl rfl) ?_
 refine Lo u39 (Zb (.inl rfl) rfl) ?_
 refine Lo u39 (W18 rfl rfl rfl rfl rfl rfl rfl) ?_
 refine Lo u39 (W2r rfl rfl rfl rfl) ?_
 refine Lo u39 (rfl) ?_
 refine Ze (Zc ?_)
 refine Zk _ rfl (fun hc1 => ?_) (fun hc1 => ?_)
 ·try simp only [qB, qN] at hc1
  refine Zd (Za ?_)
  refine Lo u39 (Zb (.inl rfl) rfl) ?_
  refine Lo u39 (rfl) ?_
  refine Lo u39 (W2r rfl rfl rfl rfl) ?_
  refine Lo u39 (Zb (.inl rfl) rfl) ?_
  refine Lo u39 (W18 rfl rfl rfl rfl rfl rfl rfl) ?_
  refine Lo u39 (W2r rfl rfl rfl rfl) ?_
  refine Lo u39 (rfl) ?_
  refine Lo u39 (Zb (.inr rfl) rfl) ?_
  refine Ze (Zc (Zl (Zm ?_)))
  refine W10 (.inr rfl) (Zh rfl rfl) ?_
  exact W5m
 ·try simp only [qB, qN] at hc1
  refine Zj (Zc (Zd (Za ?_)))
  refine Lo u39 (Zb (.inl rfl) rfl) ?_
  refine Lo u39 (rfl) ?_
  refine Lo u39 (Zb (.inl rfl) rfl) ?_
  refine ZE 22 (env1 := u39) (env2 := u39) rfl rfl rfl (fun hg2 => ?_) (fun hg2 => ?_)
  ·try simp only [qB, qN] at hg2
   refine Lo u39 (Zb (.inl rfl) rfl) ?_
   refine Lo u39 (rfl) ?_
   refine Lo u39 (W2r rfl rfl rfl rfl) ?_
   refine Lo u39 (rfl) ?_
   refine Lo u39 (ZN rfl rfl rfl) ?_
   refine Lo u39 (Zb (.inl rfl) rfl) ?_
   refine ZE 28 (env1 := u39) (env2 := u39) rfl rfl rfl (fun hg3 => ?_) (fun hg3 => ?_)
   ·try simp only [qB, qN] at hg3
    refine Lo u39 (rfl) ?_
    refine Lo u39 (W2r rfl rfl rfl rfl) ?_
    refine Lo u39 (Zb (.inl rfl) rfl) ?_
    refine Lo u39 (W18 rfl rfl rfl rfl rfl rfl rfl) ?_
    refine Lo u39 (W2r rfl rfl rfl rfl) ?_
    refine Lo u39 (Zb (.inl rfl) rfl) ?_
    refine Lo u39 (v_shrW rfl rfl rfl XH2) ?_
    refine Lo u39 (v_andW (b := 1#64) rfl rfl rfl) ?_
    refine Lo u39 (rfl) ?_
    refine Lo u39 (ZN rfl rfl rfl) ?_
    refine Lo u39 (Zb (.inr rfl) rfl) ?_
    refine Ze (Zc (Zl ?_))
    refine W10 (.inr rfl) (Zh rfl rfl) ?_
    exact W5m
   ·try simp only [qB, qN] at hg3
    refine Lf u39 ?_
    refine Lf u39 ?_
    refine Lf u39 ?_
    refine Lf u39 ?_
    refine Lf u39 ?_
    refine Lf u39 ?_
    refine Lf u39 ?_
    refine Lf u39 ?_
    refine Lf u39 ?_
    refine Lo u39 (ZI (VVal.bool false) rfl rfl rfl) ?_
    refine Lo u39 (Zb (.inr rfl) rfl) ?_
    refine Ze (Zc (Zl ?_))
    refine W10 (.inr rfl) (Zh rfl rfl) ?_
    exact W5m
  ·try simp only [qB, qN] at hg2
   refine Lf u39 ?_
   refine Lf u39 ?_
   refine Lf u39 ?_
   refine Lf u39 ?_
   refine Lo u39 (ZI (VVal.bool false) rfl rfl rfl) ?_
   refine Lo u39 (Zb (.inl rfl) rfl) ?_
   refine Lf u39 ?_
   refine Lf u39 ?_
   refine Lf u39 ?_
   refine Lf u39 ?_
   refine Lf u39 ?_
   refine Lf u39 ?_
   refine Lf u39 ?_
   refine Lf u39 ?_
   refine Lf u39 ?_
   refine Lo u39 (ZI (VVal.bool false) rfl rfl rfl) ?_
   refine Lo u39 (Zb (.inr rfl) rfl) ?_
   refine Ze (Zc (Zl ?_))
   refine W10 (.inr rfl) (Zh rfl rfl) ?_
   exact W5m
theorem szP_succ {a : List Nat} {k : Nat} : szP a (k + 1) = if a.getD k 0 = szP a k then szP a k + 1 else szP a k := rfl
theorem Legal_spec {x : SW} (H : Zf) (a : List Nat) (ha : Pat a) (hl : a.length ≤ 12) : F (psys x) 126 [fzN a] H fun v G => v = .bool true ∧ G = H := by
 refine Zq Tryd.func126 rfl u38 rfl ?_
 refine Zd (Za ?_)
 refine Lo u38 (Zg (VVal.bool false) (.inr rfl) rfl) ?_
 refine Ze (Zc (Zd (Zd (Za ?_))))
 refine Lo u38 (Zb (.inl rfl) rfl) ?_
 refine Lo u38 (rfl) ?_
 refine Lo u38 (rfl) ?_
 refine Ze (Zc ?_)
 refine Zk _ rfl (fun hc1 => ?_) (fun hc1 => ?_)
 ·try simp only [qB, qN] at hc1
  refine Zd (Za ?_)
  refine Lo u38 (Zg (VVal.bool false) (.inr rfl) rfl) ?_
  refine Ze (Zc (Zl (Zm ?_)))
  refine W10 (.inr rfl) (Zh rfl rfl) ?_
  exact W5n
 ·try simp only [qB, qN] at hc1
  refine Zj (Zc (Zd (Za ?_)))
  refine Lo u38 (Zg (VVal.int .i64 (-1)) (.inr rfl) rfl) ?_
  refine Ze (Zc (Zd (Zd (Za ?_))))
  refine Lo u38 (Zg (VVal.int .i64 0) (.inr rfl) rfl) ?_
  refine Ze (Zc (Zi ?_))
  refine Zt (mk 38 274877906918) (env' := u38) rfl ?_
  refine Zy (fun (k : Nat) => a.length - k) (fun (k : Nat) => [(3, iI (((szP a k : Nat) : Int) - 1)), (4, iI (k : Nat))]) (fun (k : Nat) G => (k ≤ a.length) ∧ G = H ++ []) 0 rfl ?_ ?_
  ·refine ⟨?_, rfl⟩
   exact Nat.zero_le _
  rintro k _ ⟨hk, rfl⟩
  refine ZM (env' := u38) rfl ?_
  refine Zd (Zd (Za ?_))
  refine Lo u38 (Zb (.inl rfl) rfl) ?_
  refine Lo u38 (Zb (.inl rfl) rfl) ?_
  refine Lo u38 (rfl) ?_
  refine Lo u38 (rfl) ?_
  refine Ze (Zc ?_)
  refine Zk _ rfl (fun hc2 => ?_) (fun hc2 => ?_)
  ·try simp only [qB, qN] at hc2
   refine Zj (Zc (Zd (Zi (Zd (Zd ?_)))))
   have hpk := ha k (by omega)
   have hz := @Yy a k
   refine Za ?_
   refine Lo u38 (Zb (.inl rfl) rfl) ?_
   refine Lo u38 (Zb (.inl rfl) rfl) ?_
   refine Lo u38 (W18 rfl rfl rfl rfl rfl rfl rfl) ?_
   refine Lo u38 (W4l rfl rfl rfl rfl) ?_
   refine Lo u38 (rfl) ?_
   refine Lo u38 (Zb (.inl rfl) rfl) ?_
   refine ZE 19 (env1 := u38) (env2 := u38) rfl rfl rfl (fun hg3 => ?_) (fun hg3 => ?_)
   ·try simp only [qB, qN] at hg3
    refine Lf u38 ?_
    refine Lf u38 ?_
    refine Lf u38 ?_
    refine Lf u38 ?_
    refine Lf u38 ?_
    refine Lf u38 ?_
    refine Lf u38 ?_
    refine Lo u38 (ZK (VVal.bool true) rfl rfl rfl) ?_
    refine Ze (Zc ?_)
    refine ZP rfl rfl ?_
    refine Zd (Za ?_)
    refine Lo u38 (Zg (VVal.bool false) (.inr rfl) rfl) ?_
    refine Ze (Zc (Zl (Zm (ZF (Zm (Yf (ZF (Zm ?_))))))))
    refine W10 (.inr rfl) (Zh rfl rfl) ?_
    exact W5n
   ·try simp only [qB, qN] at hg3
    refine Lo u38 (Zb (.inl rfl) rfl) ?_
    refine Lo u38 (Zb (.inl rfl) rfl) ?_
    refine Lo u38 (W18 rfl rfl rfl rfl rfl rfl rfl) ?_
    refine Lo u38 (W4l rfl rfl rfl rfl) ?_
    refine Lo u38 (Zb (.inl rfl) rfl) ?_
    refine Lo u38 (W14 rfl rfl rfl) ?_
    refine Lo u38 (rfl) ?_
    refine Lo u38 (ZT rfl rfl rfl) ?_
    refine Ze (Zc ?_)
    refine Zk _ rfl (fun hc4 => ?_) (fun hc4 => ?_)
    ·try simp only [qB, qN] at hc4
     refine Zd (Za ?_)
     refine Lo u38 (Zg (VVal.bool false) (.inr rfl) rfl) ?_
     refine Ze (Zc (Zl (Zm (ZF (Zm (Yf (ZF (Zm ?_))))))))
     refine W10 (.inr rfl) (Zh rfl rfl) ?_
     exact W5n
    ·try simp only [qB, qN] at hc4
     refine Zj (Zc (Zd (Za ?_)))
     refine Lo u38 (Zb (.inl rfl) rfl) ?_
     refine Lo u38 (Zb (.inl rfl) rfl) ?_
     refine Lo u38 (W18 rfl rfl rfl rfl rfl rfl rfl) ?_
     refine Lo u38 (W4l rfl rfl rfl rfl) ?_
     refine Lo u38 (Zb (.inl rfl) rfl) ?_
     refine Lo u38 (rfl) ?_
     refine Ze (Zc ?_)
     refine Zk _ rfl (fun hc5 => ?_) (fun hc5 => ?_)
     ·try simp only [qB, qN] at hc5
      refine Za ?_
      refine Lo u38 (Zb (.inl rfl) rfl) ?_
      refine Lo u38 (Zb (.inl rfl) rfl) ?_
      refine Lo u38 (W18 rfl rfl rfl rfl rfl rfl rfl) ?_
      refine Lo u38 (W4l rfl rfl rfl rfl) ?_
      refine Lo u38 (Zb (.inr rfl) rfl) ?_
      refine Ze (Zs (Zc (Za ?_)))
      refine Lo u38 (Zb (.inl rfl) rfl) ?_
      refine Lo u38 (W14 rfl rfl rfl) ?_
      refine Lo u38 (Zb (.inr rfl) rfl) ?_
      refine Ze ?_
      first
        | (have hE : ((a.getD k 0 : Nat) : Int) = ((szP a (k + 1) : Nat) : Int) - 1 := by rw [szP_succ, if_pos (by omega)]; omega); rw [hE]
        | (have hE : szP a k = szP a (k + 1) := by rw [szP_succ, if_neg (by omega)]); rw [hE]
      refine Zu (mk 38 274877906918) (env' := u38) rfl ⟨k + 1, ?_, rfl, ?_⟩
      ·first | omega | (simp only []; omega)
      ·exact ⟨by omega, rfl⟩
     ·try simp only [qB, qN] at hc5
      refine Zj (Zs (Zc (Za ?_)))
      refine Lo u38 (Zb (.inl rfl) rfl) ?_
      refine Lo u38 (W14 rfl rfl rfl) ?_
      refine Lo u38 (Zb (.inr rfl) rfl) ?_
      refine Ze ?_
      first
        | (have hE : ((a.getD k 0 : Nat) : Int) = ((szP a (k + 1) : Nat) : Int) - 1 := by rw [szP_succ, if_pos (by omega)]; omega); rw [hE]
        | (have hE : szP a k = szP a (k + 1) := by rw [szP_succ, if_neg (by omega)]); rw [hE]
      refine Zu (mk 38 274877906918) (env' := u38) rfl ⟨k + 1, ?_, rfl, ?_⟩
      ·first | omega | (simp only []; omega)
      ·exact ⟨by omega, rfl⟩
  ·try simp only [qB, qN] at hc2
   refine ZB (ZD (Zv (ZA (Zc (Zd (Za ?_))))))
   refine Lo u38 (Zg (VVal.bool true) (.inr rfl) rfl) ?_
   refine Ze (Zc (Zl ?_))
   refine W10 (.inr rfl) (Zh rfl rfl) ?_
   exact W5n
theorem top_spec {x : SW} (H : Zf) (a : List Nat) (ha : Pat a) (hl : a.length ≤ 12) : F (psys x) 127 [fzN a] H fun v G => v = iI (((szP a a.length : Nat) : Int) - 1) ∧ G = H := by
 refine Zq Tryd.func127 rfl u22 rfl ?_
 refine Zd (Za ?_)
 refine Lo u22 (Zg (VVal.int .i64 0) (.inr rfl) rfl) ?_
 refine Ze (Zc (Zd (Za ?_)))
 refine Lo u22 (Zg (VVal.int .i64 (-1)) (.inr rfl) rfl) ?_
 refine Ze (Zc (Zd (Zd (Za ?_))))
 refine Lo u22 (Zg (VVal.int .i64 0) (.inr rfl) rfl) ?_
 refine Ze (Zc (Zi ?_))
 refine Zt (mk 22 4194278) (env' := u22) rfl ?_
 refine Zy (fun (k : Nat) => a.length - k) (fun (k : Nat) => [(3, iI (((szP a k : Nat) : Int) - 1)), (4, iI (k : Nat))]) (fun (k : Nat) G => (k ≤ a.length) ∧ G = H ++ []) 0 rfl ?_ ?_
 ·refine ⟨?_, rfl⟩
  exact Nat.zero_le _
 rintro k _ ⟨hk, rfl⟩
 refine ZM (env' := u22) rfl ?_
 refine Zd (Zd (Za ?_))
 refine Lo u22 (Zb (.inl rfl) rfl) ?_
 refine Lo u22 (Zb (.inl rfl) rfl) ?_
 refine Lo u22 (rfl) ?_
 refine Lo u22 (rfl) ?_
 refine Ze (Zc ?_)
 refine Zk _ rfl (fun hc1 => ?_) (fun hc1 => ?_)
 ·try simp only [qB, qN] at hc1
  refine Zj (Zc (Zd (Zi (Zd ?_))))
  have hpk := ha k (by omega)
  have hz := @Yy a k
  refine Za ?_
  refine Lo u22 (Zb (.inl rfl) rfl) ?_
  refine Lo u22 (Zb (.inl rfl) rfl) ?_
  refine Lo u22 (W18 rfl rfl rfl rfl rfl rfl rfl) ?_
  refine Lo u22 (W4l rfl rfl rfl rfl) ?_
  refine Lo u22 (Zb (.inl rfl) rfl) ?_
  refine Lo u22 (rfl) ?_
  refine Ze (Zc ?_)
  refine Zk _ rfl (fun hc2 => ?_) (fun hc2 => ?_)
  ·try simp only [qB, qN] at hc2
   refine Za ?_
   refine Lo u22 (Zb (.inl rfl) rfl) ?_
   refine Lo u22 (Zb (.inl rfl) rfl) ?_
   refine Lo u22 (W18 rfl rfl rfl rfl rfl rfl rfl) ?_
   refine Lo u22 (W4l rfl rfl rfl rfl) ?_
   refine Lo u22 (Zb (.inr rfl) rfl) ?_
   refine Ze (Zs (Zc (Za ?_)))
   refine Lo u22 (Zb (.inl rfl) rfl) ?_
   refine Lo u22 (W14 rfl rfl rfl) ?_
   refine Lo u22 (Zb (.inr rfl) rfl) ?_
   refine Ze ?_
   first
     | (have hE : ((a.getD k 0 : Nat) : Int) = ((szP a (k + 1) : Nat) : Int) - 1 := by rw [szP_succ, if_pos (by omega)]; omega); rw [hE]
     | (have hE : szP a k = szP a (k + 1) := by rw [szP_succ, if_neg (by omega)]); rw [hE]
   refine Zu (mk 22 4194278) (env' := u22) rfl ⟨k + 1, ?_, rfl, ?_⟩
   ·first | omega | (simp only []; omega)
   ·exact ⟨by omega, rfl⟩
  ·try simp only [qB, qN] at hc2
   refine Zj (Zs (Zc (Za ?_)))
   refine Lo u22 (Zb (.inl rfl) rfl) ?_
   refine Lo u22 (W14 rfl rfl rfl) ?_
   refine Lo u22 (Zb (.inr rfl) rfl) ?_
   refine Ze ?_
   first
     | (have hE : ((a.getD k 0 : Nat) : Int) = ((szP a (k + 1) : Nat) : Int) - 1 := by rw [szP_succ, if_pos (by omega)]; omega); rw [hE]
     | (have hE : szP a k = szP a (k + 1) := by rw [szP_succ, if_neg (by omega)]); rw [hE]
   refine Zu (mk 22 4194278) (env' := u22) rfl ⟨k + 1, ?_, rfl, ?_⟩
   ·first | omega | (simp only []; omega)
   ·exact ⟨by omega, rfl⟩
 ·try simp only [qB, qN] at hc1
  refine ZB (ZD (Zv (ZA (Zc (Zd (Za ?_))))))
  refine Lo u22 (Zb (.inl rfl) rfl) ?_
  refine Lo u22 (Zb (.inr rfl) rfl) ?_
  refine Ze (Zc (Zl ?_))
  refine W10 (.inr rfl) (Zh rfl rfl) ?_
  obtain rfl : k = a.length := by omega
  exact ⟨rfl, rfl⟩
theorem Size_spec {x : SW} (H : Zf) (a : List Nat) (ha : Pat a) (hl : a.length ≤ 12) : F (psys x) 97 [fzN a] H fun v G => v = iI (szP a a.length : Nat) ∧ G = H := by
 have hz := @Yy a a.length
 refine Zq Tryd.func97 rfl u9 rfl ?_
 refine Zd (Za ?_)
 refine Lo u9 (Zg (VVal.int .i64 0) (.inr rfl) rfl) ?_
 refine Ze (Zc (Zd (Zd (Za ?_))))
 refine Lo u9 (Zb (.inl rfl) rfl) ?_
 refine Zp rfl rfl rfl (by exact Legal_spec _ _ ha hl) ?_
 rintro _ _ ⟨rfl, rfl⟩
 refine Le u9 ?_
 refine Lo u9 (rfl) ?_
 refine Ze (Zc ?_)
 refine Yi rfl rfl ?_
 refine Zj (Zc (Zd (Za ?_)))
 refine Lo u9 (Zb (.inl rfl) rfl) ?_
 refine Zp rfl rfl rfl (by exact top_spec _ _ ha hl) ?_
 rintro _ _ ⟨rfl, rfl⟩
 refine Le u9 ?_
 refine Lo u9 (v_val (YX rfl rfl rfl (by omega)) (show iI ((((szP a a.length : Nat) : Int) - 1) + 1) = iI (szP a a.length : Nat) by congr 1; omega)) ?_
 refine Lo u9 (Zb (.inr rfl) rfl) ?_
 refine Ze (Zc (Zl ?_))
 refine W10 (.inr rfl) (Zh rfl rfl) ?_
 exact ⟨rfl, rfl⟩
def bkK (a : List Nat) (b k : Nat) : List Nat := (List.range k).filter fun i => a.getD i 0 == b
abbrev bkL (a : List Nat) (b : Nat) : List Nat := bkK a b a.length
theorem bkK_yes {a : List Nat} {b k : Nat} (h : a.getD k 0 = b) : bkK a b (k + 1) = bkK a b k ++ [k] := by
  unfold bkK; rw [List.range_succ, List.filter_append, List.filter_cons, if_pos (by rw [h]; exact beq_self_eq_true b)]; rfl
theorem bkK_no {a : List Nat} {b k : Nat} (h : ¬ a.getD k 0 = b) : bkK a b (k + 1) = bkK a b k := by
  unfold bkK; rw [List.range_succ, List.filter_append, List.filter_cons, if_neg (by simpa using h)]; simp
theorem bkK_len {a : List Nat} {b k : Nat} : (bkK a b k).length ≤ k := by
  unfold bkK; exact Nat.le_trans (List.length_filter_le _ _) (by simp)
theorem bkL_mem {a : List Nat} {b i : Nat} : i ∈ bkL a b ↔ i < a.length ∧ a.getD i 0 = b := by
  unfold bkL bkK; rw [List.mem_filter, List.mem_range, beq_iff_eq]
abbrev bkC (a : List Nat) (b : Nat) : List VVal := (List.range b).map fun c => fzN (bkL a c)
theorem bkC_succ {a : List Nat} {b : Nat} : bkC a (b + 1) = bkC a b ++ [fzN (bkL a b)] := by
  show (List.range (b + 1)).map _ = _; rw [List.range_succ, List.map_append]; rfl
theorem bkC_get {a : List Nat} {b i : Nat} (h : i < b) : (bkC a b)[((i : Nat) : Int).toNat * 1]? = some (fzN (bkL a i)) := by
  rw [Int.toNat_natCast, Nat.mul_one]; simp [h]
theorem LV.pushN {h : Nat} {X : Zf} {v : VVal} {l : List Nat} {w : Nat} (r : LV h 1 X v (rcN l ++ [iI (w : Nat)]) (l.length + 1)) : LV h 1 X v (rcN (l ++ [w])) (l ++ [w]).length := by rw [rcN_snoc, List.length_append]; exact r
theorem Blocks_spec {x : SW} (H : Zf) (a : List Nat) (ha : Pat a) (hl : a.length ≤ 12) : F (psys x) 125 [fzN a] H fun v G => v = .fsl (bkC a (szP a a.length)) (szP a a.length) 1 false ∧ G = H := by
 have hz := @Yy a a.length
 refine Zq Tryd.func125 rfl u38 rfl ?_
 refine Zd (Za ?_)
 refine Lo u38 (Zg (VVal.slice none 0 0 true 0) (.inr rfl) rfl) ?_
 refine Ze (Zc (Zd (Za ?_)))
 refine Lo u38 (Zg (VVal.slice none 0 0 true 0) (.inr rfl) rfl) ?_
 refine Ze (Zc (Zd (Zd (Za ?_))))
 refine Lo u38 (Zb (.inl rfl) rfl) ?_
 refine Zp rfl rfl rfl (by exact Legal_spec _ _ ha hl) ?_
 rintro _ _ ⟨rfl, rfl⟩
 refine Le u38 ?_
 refine Lo u38 (rfl) ?_
 refine Ze (Zc ?_)
 refine Yi rfl rfl ?_
 refine Zj (Zc (Zd (Zd (Za ?_))))
 refine Lo u38 (Zg (VVal.int .i64 0) (.inr rfl) rfl) ?_
 refine Ze (Zc (Zi ?_))
 refine Zt (mk 38 274877906918) (env' := u38) rfl ?_
 refine Zy (fun (⟨b, lv⟩ : Nat × VVal) => szP a a.length - b) (fun (⟨b, lv⟩ : Nat × VVal) => [(3, lv), (4, iI (b : Nat))]) (fun (⟨b, lv⟩ : Nat × VVal) G => (b ≤ szP a a.length) ∧ ∃ X, G = H ++ X ∧ LV H.length 1 X lv (bkC a b) b) ⟨0, _⟩ rfl ?_ ?_
 ·refine ⟨?_, ⟨_, rfl, LV.nil _ _ _⟩⟩
  exact Nat.zero_le _
 rintro ⟨b, lv⟩ _ ⟨hb, ⟨X, rfl, hlv⟩⟩
 refine ZM (env' := u38) rfl ?_
 refine Zd (Zd (Za ?_))
 refine Lo u38 (Zb (.inl rfl) rfl) ?_
 refine Lo u38 (Zb (.inl rfl) rfl) ?_
 refine Zp rfl rfl rfl (by exact top_spec _ _ ha hl) ?_
 rintro _ _ ⟨rfl, rfl⟩
 refine Le u38 ?_
 refine Lo u38 (rfl) ?_
 refine Ze (Zc ?_)
 refine Zk _ rfl (fun hc1 => ?_) (fun hc1 => ?_)
 ·try simp only [qB, qN] at hc1
  refine Zj (Zc (Zd (Zi (Zd (Za ?_)))))
  refine Lo u38 (Zg (VVal.slice none 0 0 true 0) (.inr rfl) rfl) ?_
  refine Ze (Zc (Zd (Zd (Za ?_))))
  refine Lo u38 (Zg (VVal.int .i64 0) (.inr rfl) rfl) ?_
  refine Ze (Zc (Zi ?_))
  refine Zt (mk 38 274877906822) (env' := u38) rfl ?_
  refine Zy (fun (⟨k, ov⟩ : Nat × VVal) => a.length - k) (fun (⟨k, ov⟩ : Nat × VVal) => [(5, ov), (6, iI (k : Nat))]) (fun (⟨k, ov⟩ : Nat × VVal) G => (k ≤ a.length) ∧ ∃ X, G = H ++ X ∧ LV H.length 1 X lv (bkC a b) b ∧ LV H.length 1 X ov (rcN (bkK a b k)) (bkK a b k).length ∧ Dj lv ov) ⟨0, _⟩ rfl ?_ ?_
  ·refine ⟨?_, ⟨X, rfl, hlv, LV.nil _ _ _, Dj.nil _⟩⟩
   exact Nat.zero_le _
  rintro ⟨k, ov⟩ _ ⟨hk, ⟨X, rfl, hlv, hov, hd⟩⟩
  refine ZM (env' := u38) rfl ?_
  refine Zd (Zd (Za ?_))
  refine Lo u38 (Zb (.inl rfl) rfl) ?_
  refine Lo u38 (Zb (.inl rfl) rfl) ?_
  refine Lo u38 (rfl) ?_
  refine Lo u38 (rfl) ?_
  refine Ze (Zc ?_)
  refine Zk _ rfl (fun hc2 => ?_) (fun hc2 => ?_)
  ·try simp only [qB, qN] at hc2
   refine Zj (Zc (Zd (Zi (Zd (Za ?_)))))
   refine Lo u38 (Zb (.inl rfl) rfl) ?_
   refine Lo u38 (Zb (.inl rfl) rfl) ?_
   refine Lo u38 (W18 rfl rfl rfl rfl rfl rfl rfl) ?_
   refine Lo u38 (W4l rfl rfl rfl rfl) ?_
   refine Lo u38 (Zb (.inl rfl) rfl) ?_
   refine Lo u38 (rfl) ?_
   refine Ze (Zc ?_)
   refine Zk _ rfl (fun hc3 => ?_) (fun hc3 => ?_)
   ·try simp only [qB, qN] at hc3
    refine Za ?_
    refine Lo u38 (Zb (.inl rfl) rfl) ?_
    refine Lo u38 (Zb (.inl rfl) rfl) ?_
    refine Lo u38 (Zz rfl rfl (by decide) rfl) ?_
    refine L_opX rfl rfl (v_appX rfl rfl rfl rfl rfl rfl rfl hov rfl rfl (by decide) (by have := @bkK_len a b k; show (_ + 1) * 8 ≤ _ ∧ _ + 1 ≤ _; omega) (by decide)) ?_
    rintro _ _ ⟨Y1, rfl, rfl, hY1, hY2, hY3⟩
    refine Le u38 ?_
    refine Lo u38 (Zb (.inr rfl) rfl) ?_
    refine Ze (Zs (Zc (Za ?_)))
    refine Lo u38 (Zb (.inl rfl) rfl) ?_
    refine Lo u38 (W14 rfl rfl rfl) ?_
    refine Lo u38 (Zb (.inr rfl) rfl) ?_
    refine Ze ?_
    refine Zu (mk 38 274877906822) (env' := u38) rfl ⟨⟨k + 1, _⟩, ?_, rfl, ?_⟩
    ·first | omega | (simp only []; omega)
    ·first | exact ⟨by omega, _, rfl, LV.keepN hY3 hlv hd hY2, by rw [bkK_yes (by omega)]; exact LV.pushN hY3, LV.djN hY3 hlv⟩ | exact ⟨by omega, _, rfl, hlv, by rw [bkK_no (by omega)]; exact hov, hd⟩
   ·try simp only [qB, qN] at hc3
    refine Zj (Zs (Zc (Za ?_)))
    refine Lo u38 (Zb (.inl rfl) rfl) ?_
    refine Lo u38 (W14 rfl rfl rfl) ?_
    refine Lo u38 (Zb (.inr rfl) rfl) ?_
    refine Ze ?_
    refine Zu (mk 38 274877906822) (env' := u38) rfl ⟨⟨k + 1, _⟩, ?_, rfl, ?_⟩
    ·first | omega | (simp only []; omega)
    ·first | exact ⟨by omega, _, rfl, LV.keepN hY3 hlv hd hY2, by rw [bkK_yes (by omega)]; exact LV.pushN hY3, LV.djN hY3 hlv⟩ | exact ⟨by omega, _, rfl, hlv, by rw [bkK_no (by omega)]; exact hov, hd⟩
  ·try simp only [qB, qN] at hc2
   refine ZB (ZD (Zv (ZA (Zc ?_))))
   obtain rfl : k = a.length := by omega
   refine B_ghLV (env' := u38) 5 hov rfl rfl fun X4 hX4 hF4 => ?_
   have hlv := LV.keep hlv hd hF4
   refine Za ?_
   refine Lo u38 (Zb (.inl rfl) rfl) ?_
   refine Lo u38 (Zb (.inl rfl) rfl) ?_
   refine Lo u38 (Zz rfl rfl (by decide) rfl) ?_
   refine L_opX rfl rfl (v_appX rfl rfl rfl rfl rfl rfl rfl hlv rfl rfl (by decide) (by show (b + 1) * 24 ≤ _ ∧ b + 1 ≤ _; omega) (by decide)) ?_
   rintro _ _ ⟨Y1, rfl, rfl, hY1, hY2, hY3⟩
   refine Le u38 ?_
   refine Lo u38 (Zb (.inr rfl) rfl) ?_
   refine Ze (Zs (Zc (Za ?_)))
   refine Lo u38 (Zb (.inl rfl) rfl) ?_
   refine Lo u38 (W14 rfl rfl rfl) ?_
   refine Lo u38 (Zb (.inr rfl) rfl) ?_
   refine Ze ?_
   refine Zu (mk 38 274877906918) (env' := u38) rfl ⟨⟨b + 1, _⟩, ?_, rfl, ?_⟩
   ·first | omega | (simp only []; omega)
   ·exact ⟨by omega, _, rfl, by rw [bkC_succ]; exact hY3⟩
 ·try simp only [qB, qN] at hc1
  refine ZB (ZD (Zv (ZA (Zc (Zd (Za ?_))))))
  refine Lo u38 (Zb (.inl rfl) rfl) ?_
  refine Lo u38 (Zb (.inr rfl) rfl) ?_
  refine Ze (Zc (Zl ?_))
  refine E_gh (.inr rfl) (Zh rfl rfl) (Gh.ansLV (BaseOk.refl _) hlv (VVal.underL_map (f := fun c => fzN (bkL a c)) fun c => mapN_under _ _)) ?_
  obtain rfl : b = szP a a.length := by omega
  exact ⟨rfl, rfl⟩
abbrev u24 {a0 a1 a2 a3 a4 a5 a6 a7 a8 a9 a10 a11 a12 a13 a14 a15 a16 a17 a18 a19 a20 a21 a22 a23 : VVal} : VEnv := a0 :: a1 :: a2 :: a3 :: a4 :: a5 :: a6 :: a7 :: a8 :: a9 :: a10 :: a11 :: a12 :: a13 :: a14 :: a15 :: a16 :: a17 :: a18 :: a19 :: a20 :: a21 :: a22 :: a23 :: []
abbrev u58 {a0 a1 a2 a3 a4 a5 a6 a7 a8 a9 a10 a11 a12 a13 a14 a15 a16 a17 a18 a19 a20 a21 a22 a23 a24 a25 a26 a27 a28 a29 a30 a31 a32 a33 a34 a35 a36 a37 a38 a39 a40 a41 a42 a43 a44 a45 a46 a47 a48 a49 a50 a51 a52 a53 a54 a55 a56 a57 : VVal} : VEnv := a0 :: a1 :: a2 :: a3 :: a4 :: a5 :: a6 :: a7 :: a8 :: a9 :: a10 :: a11 :: a12 :: a13 :: a14 :: a15 :: a16 :: a17 :: a18 :: a19 :: a20 :: a21 :: a22 :: a23 :: a24 :: a25 :: a26 :: a27 :: a28 :: a29 :: a30 :: a31 :: a32 :: a33 :: a34 :: a35 :: a36 :: a37 :: a38 :: a39 :: a40 :: a41 :: a42 :: a43 :: a44 :: a45 :: a46 :: a47 :: a48 :: a49 :: a50 :: a51 :: a52 :: a53 :: a54 :: a55 :: a56 :: a57 :: []
theorem W5q {T : TypeId → Option VTy} {H : Zf} {op : Op} {ρ : Operand → VVal} {t : TypeId} {a : Operand} {y : VTy} {p v : VVal} (ho : op = .load t a) (ha : ρ a = p) (hy : T t = some y) (hd : Zo y.desc = false) (h : LdOk H p v := by exact XH53) : vop T ρ H op = some (v, H) := v_ld ho ha hy hd h
theorem W5s {T : TypeId → Option VTy} {H : Zf} {op : Op} {ρ : Operand → VVal} {t : TypeId} {a : Operand} {y : VTy} {p : VVal} {n : Nat} {vs : List VVal} (ho : op = .load t a) (ha : ρ a = p) (hy : T t = some y) (hd : Zo y.desc = true) (hn : y.size = n) (h : LdOkA H p n vs := by exact XH53) : vop T ρ H op = some (.agg vs, H) := v_ldA ho ha hy hd hn h
theorem W5x {P : Prop} (h : P := by first | exact ⟨by rw [erlA_no (k := k) (by omega) (by assumption)], rfl⟩ | exact ⟨by rw [erlA_all (by omega) hall], rfl⟩) : P := h
theorem myB_lt {p : Pb} {i u : Nat} (g : Go.V.Good p) (hi : i < p.who.length) (h : (wrd p i).getLsbD u = true) : u < p.users.toNat := by
  have h1 : myB p i (u : Nat) = true := myB_nat.2 h
  have g4 := g.u0
  by_cases hf : 0 ≤ p.fixed.getD i 0
  · rw [myB_f g hi hf, decide_eq_true_eq] at h1
    have := (okW_in g hi).1; omega
  · rw [myB_w g hi (by omega), Bool.and_eq_true, decide_eq_true_eq] at h1; omega
abbrev rwP (p : Pb) (a : List Nat) (i : Nat) : Nat → Bool := fun u => (bkL a i).all fun j => myB p j (u : Nat)
theorem row_is {p : Pb} {a : List Nat} {i : Nat} (g : Go.V.Good p) (ha : Pat a) (hl : a.length = p.who.length) (hi : i < szP a a.length) : wdP (rwP p a i) p.users.toNat = (Yb (wsP p) a a.length).getD i 0 := by
  refine YJ fun v hv => ?_
  rw [wdP_bit hv, Bool.eq_iff_iff, Bool.and_eq_true, decide_eq_true_eq, blk_bit ha hi, List.all_eq_true]
  constructor
  · rintro ⟨_, h⟩ j hj e
    have := h j (bkL_mem.2 ⟨hj, e⟩)
    rw [myB_nat] at this
    rw [wsP_get (by omega)]; exact this
  · intro h
    refine ⟨?_, fun j hj => ?_⟩
    · obtain ⟨j, hj, e⟩ := pat_onto ha hi
      have := h j hj e
      rw [wsP_get (by omega)] at this
      exact myB_lt g (by omega) this
    · obtain ⟨h1, h2⟩ := bkL_mem.1 hj
      have := h j h1 h2
      rw [wsP_get (by omega)] at this
      exact myB_nat.2 this
theorem allN_step {l : List Nat} {k : Nat} {f : Nat → Bool} (h : k < l.length) : (l.take (k + 1)).all f = ((l.take k).all f && f (l.getD k 0)) := by
  rw [Yh (d := 0) h, List.all_append, List.all_cons, List.all_nil, Bool.and_true]
theorem bkL_at {a : List Nat} {b k : Nat} (h : k < (bkL a b).length) : (bkL a b).getD k 0 < a.length := by
  have : (bkL a b).getD k 0 ∈ bkL a b := by rw [List.getD_eq_getElem?_getD, List.getElem?_eq_getElem h]; simp
  exact (bkL_mem.1 this).1
theorem rowR_is {p : Pb} (g : Go.V.Good (noR p)) {a : List Nat} {i : Nat} (ha : Pat a) (hl : a.length = p.who.length) (hi : i < szP a a.length) : wdP (rwP p a i) p.users.toNat = (Yb (wsP p) a a.length).getD i 0 := row_is (p := noR p) g ha hl hi
theorem Rows_R {x : SW} (H : Zf) (p : Pb) (g : Go.V.Good (noR p)) (a : List Nat) (ha : Pat a) (hl : a.length = p.who.length) : F (psys x) 96 [.agg (pbB p), fzN a] H fun v G => v = fzW (Yb (wsP p) a a.length) ∧ G = H := by
 have g1 := noR_n12 g; have g2 := noR_u64 g; have g4 := noR_u0 g
 have hz := @Yy a a.length
 have hbl := @YB (wsP p) a a.length
 refine Zq Tryd.func96 rfl u58 rfl ?_
 refine Zd (Za ?_)
 refine Lo u58 (ZJ rfl rfl rfl) ?_
 refine Lo u58 (Zg (VVal.slice none 0 0 true 0) (.inr rfl) rfl) ?_
 refine Ze (Zc (Zd ?_))
 refine Yu (Gh.freezePtrL (cs := pbB p) 2 0 rfl rfl rfl) ?_
 refine Za ?_
 refine Lo u58 (Zg (VVal.slice none 0 0 true 0) (.inr rfl) rfl) ?_
 refine Ze (Zc (Zd (Za ?_)))
 refine Lo u58 (Zb (.inl rfl) rfl) ?_
 refine Zp rfl rfl rfl (by exact Blocks_spec _ a ha (by omega)) ?_
 rintro _ _ ⟨rfl, rfl⟩
 refine Le u58 ?_
 refine Lo u58 (Zb (.inr rfl) rfl) ?_
 refine Ze (Zc (Zd (Zd (Za ?_))))
 refine Lo u58 (Zg (VVal.int .i64 0) (.inr rfl) rfl) ?_
 refine Ze (Zc (Zi ?_))
 refine Zt (mk 58 288230376151711515) (env' := u58) rfl ?_
 refine Zy (fun (⟨i, lv⟩ : Nat × VVal) => szP a a.length - i) (fun (⟨i, lv⟩ : Nat × VVal) => [(5, lv), (7, iI (i : Nat))]) (fun (⟨i, lv⟩ : Nat × VVal) G => (i ≤ szP a a.length) ∧ ∃ X, G = H ++ X ∧ LV H.length 1 X lv (((Yb (wsP p) a a.length).take i).map iW) ((Yb (wsP p) a a.length).take i).length) ⟨0, _⟩ rfl ?_ ?_
 ·refine ⟨?_, ⟨_, rfl, LV.nil _ _ _⟩⟩
  exact Nat.zero_le _
 rintro ⟨i, lv⟩ _ ⟨hi, ⟨X, rfl, hlv⟩⟩
 refine ZM (env' := u58) rfl ?_
 refine Zd (Zd (Za ?_))
 refine Lo u58 (Zb (.inl rfl) rfl) ?_
 refine Lo u58 (Zb (.inl rfl) rfl) ?_
 refine Lo u58 (rfl) ?_
 refine Lo u58 (rfl) ?_
 refine Ze (Zc ?_)
 refine Zk _ rfl (fun hc1 => ?_) (fun hc1 => ?_)
 ·try simp only [qB, qN] at hc1
  refine Zj (Zc (Zd (Zi (Zd (Za ?_)))))
  refine Lo u58 (Zg (VVal.int .u64 0) (.inr rfl) rfl) ?_
  refine Ze (Zc (Zd (Zd (Za ?_))))
  refine Lo u58 (Zg (VVal.int .i64 0) (.inr rfl) rfl) ?_
  refine Ze (Zc (Zi ?_))
  refine Zt (mk 58 288230376151710747) (env' := u58) rfl ?_
  refine Zy (fun (u : Nat) => p.users.toNat - u) (fun (u : Nat) => [(8, iW (wdP (rwP p a i) u)), (9, iI (u : Nat))]) (fun (u : Nat) G => (u ≤ p.users.toNat) ∧ G = H ++ X) 0 (by rw [show wdP (rwP p a i) 0 = 0#64 from wdP_0 _]; rfl) ?_ ?_
  ·refine ⟨?_, rfl⟩
   exact Nat.zero_le _
  rintro u _ ⟨hu, rfl⟩
  refine ZM (env' := u58) rfl ?_
  refine Zd (Zd (Za ?_))
  refine Lo u58 (Zb (.inl rfl) rfl) ?_
  refine Lo u58 (rfl) ?_
  refine Lo u58 (W5q rfl rfl rfl rfl) ?_
  refine Lo u58 (rfl) ?_
  refine Ze (Zc ?_)
  refine Zk _ rfl (fun hc2 => ?_) (fun hc2 => ?_)
  ·try simp only [qB, qN] at hc2
   refine Zj (Zc (Zd (Zi (Zd (Za ?_)))))
   refine Lo u58 (Zg (VVal.bool true) (.inr rfl) rfl) ?_
   refine Ze (Zc (Zd (Zd (Za ?_))))
   refine Lo u58 (Zg (VVal.int .i64 0) (.inr rfl) rfl) ?_
   refine Ze (Zc (Zi ?_))
   refine Zt (mk 58 288230376151707675) (env' := u58) rfl ?_
   refine Zy (fun (⟨k, okb⟩ : Nat × Bool) => (bkL a i).length - k) (fun (⟨k, okb⟩ : Nat × Bool) => [(10, .bool okb), (11, iI (k : Nat))]) (fun (⟨k, okb⟩ : Nat × Bool) G => (k ≤ (bkL a i).length ∧ okb = ((bkL a i).take k).all fun j => myB p j (u : Nat)) ∧ G = H ++ X) ⟨0, true⟩ rfl ?_ ?_
   ·refine ⟨?_, rfl⟩
    exact ⟨Nat.zero_le _, rfl⟩
   rintro ⟨k, okb⟩ _ ⟨⟨hk, hok⟩, rfl⟩
   refine ZM (env' := u58) rfl ?_
   refine Zd (Zd ?_)
   have hbk : (bkL a i).length ≤ a.length := bkK_len
   refine Za ?_
   refine Lo u58 (Zb (.inl rfl) rfl) ?_
   refine Lo u58 (Zb (.inl rfl) rfl) ?_
   refine Lo u58 (Zb (.inl rfl) rfl) ?_
   refine Lo u58 (W18 rfl rfl rfl rfl rfl rfl rfl) ?_
   refine Lo u58 (W5q rfl rfl rfl rfl) ?_
   refine Lo u58 (rfl) ?_
   refine Lo u58 (rfl) ?_
   refine Ze (Zc ?_)
   refine Zk _ rfl (fun hc3 => ?_) (fun hc3 => ?_)
   ·try simp only [qB, qN] at hc3
    refine Zj (Zc (Zd (Zi ?_)))
    refine ZS [0, 1, 2, 3, 4, 5, 6, 7, 8, 9, 10, 11, 12, 13] #[0, 1, 3, 3, 3, 27, 59, 3, 251, 507, 3, 2047, 4095, 8191] XH7 XH7 XH7 ?_
    refine Oo u58 .calm rfl (Zb (.inl rfl) rfl) ?_
    refine Oo u58 .calm rfl (Zb (.inl rfl) rfl) ?_
    refine O_split 36 (env1 := u58) (env2 := u58) rfl rfl rfl (fun hg4 => ?_) (fun hg4 => ?_)
    ·try simp only [qB, qN] at hg4
     refine Oo u58 .look rfl (W5s rfl rfl rfl rfl rfl) ?_
     refine Oo u58 .calm rfl (Zb (.inl rfl) rfl) ?_
     refine Oo u58 .calm rfl (Zb (.inl rfl) rfl) ?_
     refine Oo u58 .calm rfl (W18 rfl rfl rfl rfl rfl rfl rfl) ?_
     refine Oo u58 .look rfl (W5q rfl rfl rfl rfl) ?_
     refine Oo u58 .calm rfl (Zb (.inl rfl) rfl) ?_
     refine Oo u58 .calm rfl (W18 rfl rfl rfl rfl rfl rfl rfl) ?_
     refine Oo u58 .look rfl (W5q rfl rfl rfl rfl) ?_
     refine Oo u58 .calm rfl (Zb (.inl rfl) rfl) ?_
     refine Yj (env' := u58) rfl rfl rfl rfl rfl (by exact May_R _ p g ((bkL a i).getD k 0) (by have := bkL_at (a := a) (b := i) (k := k) (by omega); omega) (u : Nat)) XH9 rfl rfl ?_
     refine Oo u58 .calm rfl (ZN rfl rfl rfl) ?_
     refine Oo u58 .calm rfl (Zb (.inr rfl) rfl) ?_
     refine ZU [] XH7 (trivial) ?_
     refine Zs (Zc (Za ?_))
     refine Lo u58 (Zb (.inl rfl) rfl) ?_
     refine Lo u58 (W14 rfl rfl rfl) ?_
     refine Lo u58 (Zb (.inr rfl) rfl) ?_
     refine Ze ?_
     refine Zu (mk 58 288230376151707675) (env' := u58) rfl ⟨⟨k + 1, _⟩, ?_, rfl, ?_⟩
     ·first | omega | (simp only []; omega)
     ·first | exact ⟨⟨by omega, by rw [allN_step (by omega), ← hok, (show okb = true by assumption), Bool.true_and]⟩, rfl⟩ | exact ⟨⟨by omega, by rw [allN_step (by omega), ← hok, (show okb = false by simp_all), Bool.false_and]⟩, rfl⟩
    ·try simp only [qB, qN] at hg4
     refine Of u58 rfl ?_
     refine Of u58 rfl ?_
     refine Of u58 rfl ?_
     refine Of u58 rfl ?_
     refine Of u58 rfl ?_
     refine Of u58 rfl ?_
     refine Of u58 rfl ?_
     refine Of u58 rfl ?_
     refine Of u58 rfl ?_
     refine Of u58 rfl ?_
     refine Oo u58 .calm rfl (ZI (VVal.bool false) rfl rfl rfl) ?_
     refine Oo u58 .calm rfl (Zb (.inr rfl) rfl) ?_
     refine ZU [] XH7 (trivial) ?_
     refine Zs (Zc (Za ?_))
     refine Lo u58 (Zb (.inl rfl) rfl) ?_
     refine Lo u58 (W14 rfl rfl rfl) ?_
     refine Lo u58 (Zb (.inr rfl) rfl) ?_
     refine Ze ?_
     refine Zu (mk 58 288230376151707675) (env' := u58) rfl ⟨⟨k + 1, _⟩, ?_, rfl, ?_⟩
     ·first | omega | (simp only []; omega)
     ·first | exact ⟨⟨by omega, by rw [allN_step (by omega), ← hok, (show okb = true by assumption), Bool.true_and]⟩, rfl⟩ | exact ⟨⟨by omega, by rw [allN_step (by omega), ← hok, (show okb = false by simp_all), Bool.false_and]⟩, rfl⟩
   ·try simp only [qB, qN] at hc3
    refine ZB (ZD (Zv (ZA (Zc (Zd (Za ?_))))))
    refine Lo u58 (Zb (.inl rfl) rfl) ?_
    refine Ze (Zc ?_)
    refine Zk _ rfl (fun hc5 => ?_) (fun hc5 => ?_)
    ·try simp only [qB, qN] at hc5
     refine Za ?_
     refine Lo u58 (Zb (.inl rfl) rfl) ?_
     refine Lo u58 (Zb (.inl rfl) rfl) ?_
     refine Lo u58 (v_shl1 rfl rfl rfl XH2) ?_
     refine Lo u58 (v_orW rfl rfl rfl) ?_
     refine Lo u58 (Zb (.inr rfl) rfl) ?_
     refine Ze (Zs (Zc (Za ?_)))
     refine Lo u58 (Zb (.inl rfl) rfl) ?_
     refine Lo u58 (W14 rfl rfl rfl) ?_
     refine Lo u58 (Zb (.inr rfl) rfl) ?_
     refine Ze ?_
     obtain rfl : k = (bkL a i).length := by omega
     rw [List.take_length] at hok
     first
       | (have hE : (wdP (rwP p a i) u) ||| 1#64 <<< (u : Int).toNat = wdP (rwP p a i) (u + 1) := wdP_yes (hok.symm.trans (by assumption))); rw [hE]
       | (have hE : (wdP (rwP p a i) u) = wdP (rwP p a i) (u + 1) := wdP_no (hok.symm.trans (by assumption))); rw [hE]
     refine Zu (mk 58 288230376151710747) (env' := u58) rfl ⟨u + 1, ?_, rfl, ?_⟩
     ·first | omega | (simp only []; omega)
     ·exact ⟨by omega, rfl⟩
    ·try simp only [qB, qN] at hc5
     refine Zj (Zs (Zc (Za ?_)))
     refine Lo u58 (Zb (.inl rfl) rfl) ?_
     refine Lo u58 (W14 rfl rfl rfl) ?_
     refine Lo u58 (Zb (.inr rfl) rfl) ?_
     refine Ze ?_
     obtain rfl : k = (bkL a i).length := by omega
     rw [List.take_length] at hok
     first
       | (have hE : (wdP (rwP p a i) u) ||| 1#64 <<< (u : Int).toNat = wdP (rwP p a i) (u + 1) := wdP_yes (hok.symm.trans (by assumption))); rw [hE]
       | (have hE : (wdP (rwP p a i) u) = wdP (rwP p a i) (u + 1) := wdP_no (hok.symm.trans (by assumption))); rw [hE]
     refine Zu (mk 58 288230376151710747) (env' := u58) rfl ⟨u + 1, ?_, rfl, ?_⟩
     ·first | omega | (simp only []; omega)
     ·exact ⟨by omega, rfl⟩
  ·try simp only [qB, qN] at hc2
   refine ZB (ZD (Zv (ZA (Zc ?_))))
   obtain rfl : u = p.users.toNat := by omega
   rw [rowR_is g ha hl (by omega)]
   refine Za ?_
   refine Lo u58 (Zb (.inl rfl) rfl) ?_
   refine Lo u58 (Zb (.inl rfl) rfl) ?_
   refine Lo u58 (Zz rfl rfl (by decide) rfl) ?_
   refine L_opX rfl rfl (v_appX rfl rfl rfl rfl rfl rfl rfl hlv rfl rfl (by decide) XH27 (by decide)) ?_
   rintro _ _ ⟨Y1, rfl, rfl, hY1, hY2, hY3⟩
   refine Le u58 ?_
   refine Lo u58 (Zb (.inr rfl) rfl) ?_
   refine Ze (Zs (Zc (Za ?_)))
   refine Lo u58 (Zb (.inl rfl) rfl) ?_
   refine Lo u58 (W14 rfl rfl rfl) ?_
   refine Lo u58 (Zb (.inr rfl) rfl) ?_
   refine Ze ?_
   refine Zu (mk 58 288230376151711515) (env' := u58) rfl ⟨⟨i + 1, _⟩, ?_, rfl, ?_⟩
   ·first | omega | (simp only []; omega)
   ·exact ⟨by omega, _, rfl, by rw [Yh (d := 0) (by omega)]; exact LV.pushW hY3⟩
 ·try simp only [qB, qN] at hc1
  refine ZB (ZD (Zv (ZA (Zc (Zd (Za ?_))))))
  refine Lo u58 (Zb (.inl rfl) rfl) ?_
  refine Lo u58 (Zb (.inr rfl) rfl) ?_
  refine Ze (Zc (Zl ?_))
  refine E_gh (.inr rfl) (Zh rfl rfl) (Gh.ansLV (BaseOk.refl _) hlv (YC _ _)) ?_
  rw [List.take_of_length_le (by omega)]
  exact ⟨rfl, rfl⟩
theorem Rows_spec {x : SW} (H : Zf) (p : Pb) (g : Go.V.Good p) (a : List Nat) (ha : Pat a) (hl : a.length = p.who.length) : F (psys x) 96 [.agg (pbB p), fzN a] H fun v G => v = fzW (Yb (wsP p) a a.length) ∧ G = H := Rows_R H p (noR_good g) a ha hl
theorem fEarlyN {x : SW} (H : Zf) (r : Rul) (n : Int) (a : List Nat) (hl : r.steps.length ≤ 1000000) : F (psys x) 122 [.agg (rlB r), iI n, fzN a] H fun v G => v = .bool (erl r n (zI a)) ∧ G = H := by
  rw [fzN_is]; exact fEarly_spec H r n (zI a) hl
theorem erlA_no {n : Nat} {rs : List Rul} {a : List Nat} {k : Nat} (hk : k < rs.length) (h : erl (rs.getD k r0) n (zI a) = false) : erlA n rs a = false := all_bad (f := fun r => erl r n (zI a)) hk h
theorem erlA_all {n : Nat} {rs : List Rul} {a : List Nat} {k : Nat} (hk : rs.length ≤ k) (h : (rs.take k).all (fun r => erl r n (zI a)) = true) : erlA n rs a = true := all_full hk h
theorem early_spec {x : SW} (H : Zf) (p : Pb) (hp : PbL p) (a : List Nat) : F (psys x) 151 [.agg (pbB p), fzN a] H fun v G => v = .bool (erlA p.who.length p.rules a) ∧ G = H := by
 have h1 := hp.w; have h3 := hp.r; have h4 := hp.s
 refine Zq Tryd.func151 rfl u24 rfl ?_
 refine Zd (Za ?_)
 refine Lo u24 (ZJ rfl rfl rfl) ?_
 refine Lo u24 (Zg (VVal.bool false) (.inr rfl) rfl) ?_
 refine Ze (Zc (Zd (Zd ?_)))
 refine Yu (Gh.freezePtrL (cs := pbB p) 2 0 rfl rfl rfl) ?_
 refine Za ?_
 refine Lo u24 (Zg (VVal.int .i64 0) (.inr rfl) rfl) ?_
 refine Ze (Zc (Zi ?_))
 refine Zt (mk 24 16777177) (env' := u24) rfl ?_
 refine Zy (fun (k : Nat) => p.rules.length - k) (fun (k : Nat) => [(5, iI (k : Nat))]) (fun (k : Nat) G => (k ≤ p.rules.length ∧ (p.rules.take k).all (fun r => erl r p.who.length (zI a)) = true) ∧ G = H ++ [.dead]) 0 rfl ?_ ?_
 ·refine ⟨?_, rfl⟩
  exact ⟨Nat.zero_le _, rfl⟩
 rintro k _ ⟨⟨hk, hall⟩, rfl⟩
 refine ZM (env' := u24) rfl ?_
 refine Zd (Zd (Za ?_))
 refine Lo u24 (Zb (.inl rfl) rfl) ?_
 refine Lo u24 (rfl) ?_
 refine Lo u24 (W2r rfl rfl rfl rfl) ?_
 refine Lo u24 (rfl) ?_
 refine Lo u24 (rfl) ?_
 refine Ze (Zc ?_)
 refine Zk _ rfl (fun hc1 => ?_) (fun hc1 => ?_)
 ·try simp only [qB, qN] at hc1
  refine Zj (Zc (Zd (Zi (Zd ?_))))
  refine ZS [0, 1, 2, 3, 4, 5, 6, 7, 8, 9, 10] #[0, 1, 0, 7, 15, 0, 32, 96, 0, 511, 1023] XH7 XH7 XH7 ?_
  refine Oo u24 .calm rfl (rfl) ?_
  refine Oo u24 .look rfl (W2r rfl rfl rfl rfl) ?_
  refine Oo u24 .calm rfl (Zb (.inl rfl) rfl) ?_
  refine Oo u24 .calm rfl (W18 rfl rfl rfl rfl rfl rfl rfl) ?_
  refine Oo u24 .look rfl (W2p rfl rfl rfl rfl rfl) ?_
  refine Oo u24 .calm rfl (rfl) ?_
  refine Oo u24 .look rfl (W2r rfl rfl rfl rfl) ?_
  refine Oo u24 .look rfl (rfl) ?_
  refine Oo u24 .calm rfl (Zb (.inl rfl) rfl) ?_
  refine Yj (env' := u24) rfl rfl rfl rfl rfl (by exact fEarlyN _ _ _ _ (h4 _ (Y5 (by omega)))) XH9 rfl rfl ?_
  refine Oo u24 .calm rfl (rfl) ?_
  refine ZU [] XH7 (trivial) ?_
  refine Zc ?_
  refine Zk _ rfl (fun hc2 => ?_) (fun hc2 => ?_)
  ·try simp only [qB, qN] at hc2
   refine Zd (Za ?_)
   refine Lo u24 (Zg (VVal.bool false) (.inr rfl) rfl) ?_
   refine Ze (Zc (Zl (ZF (Zm (Yf (ZF (Zm ?_)))))))
   refine W10 (.inr rfl) (Zh rfl rfl) ?_
   exact W5x
  ·try simp only [qB, qN] at hc2
   refine Zj (Zs (Zc (Za ?_)))
   refine Lo u24 (Zb (.inl rfl) rfl) ?_
   refine Lo u24 (W14 rfl rfl rfl) ?_
   refine Lo u24 (Zb (.inr rfl) rfl) ?_
   refine Ze ?_
   refine Zu (mk 24 16777177) (env' := u24) rfl ⟨k + 1, ?_, rfl, ?_⟩
   ·first | omega | (simp only []; omega)
   ·exact ⟨⟨by omega, all_step (by omega) hall (by assumption)⟩, rfl⟩
 ·try simp only [qB, qN] at hc1
  refine ZB (ZD (Zv (ZA (Zc (Zd (Za ?_))))))
  refine Lo u24 (Zg (VVal.bool true) (.inr rfl) rfl) ?_
  refine Ze (Zc (Zl ?_))
  refine W10 (.inr rfl) (Zh rfl rfl) ?_
  exact W5x
abbrev u62 {a0 a1 a2 a3 a4 a5 a6 a7 a8 a9 a10 a11 a12 a13 a14 a15 a16 a17 a18 a19 a20 a21 a22 a23 a24 a25 a26 a27 a28 a29 a30 a31 a32 a33 a34 a35 a36 a37 a38 a39 a40 a41 a42 a43 a44 a45 a46 a47 a48 a49 a50 a51 a52 a53 a54 a55 a56 a57 a58 a59 a60 a61 : VVal} : VEnv := a0 :: a1 :: a2 :: a3 :: a4 :: a5 :: a6 :: a7 :: a8 :: a9 :: a10 :: a11 :: a12 :: a13 :: a14 :: a15 :: a16 :: a17 :: a18 :: a19 :: a20 :: a21 :: a22 :: a23 :: a24 :: a25 :: a26 :: a27 :: a28 :: a29 :: a30 :: a31 :: a32 :: a33 :: a34 :: a35 :: a36 :: a37 :: a38 :: a39 :: a40 :: a41 :: a42 :: a43 :: a44 :: a45 :: a46 :: a47 :: a48 :: a49 :: a50 :: a51 :: a52 :: a53 :: a54 :: a55 :: a56 :: a57 :: a58 :: a59 :: a60 :: a61 :: []
namespace MM
theorem YM (n : Nat) (l : List (BitVec 64)) : (fzW l).under n = true := VVal.underL_map fun _ => rfl
theorem YC (n : Nat) (l : List (BitVec 64)) : VVal.underL n (l.map iW) = true := VVal.underL_map fun _ => rfl
theorem Y3 (n : Nat) (l : List Int) : VVal.underL n (l.map iI) = true := VVal.underL_map fun _ => rfl
theorem mapW_one (l : List (BitVec 64)) : (l.map iW).all VVal.one = true := by rw [List.all_map]; exact List.all_eq_true.2 fun _ _ => rfl
theorem mapW_all {l : List (BitVec 64)} : Zx (l.map iW) 0 (l.length * 1) = some (l.map iW) := by
  unfold Zx; rw [if_pos XH20, List.drop_zero, List.take_of_length_le XH20]
theorem YK {L : Zf} {p : Nat} {k : VBlk} (h : L[p]? = some k) : L = L.set p k := by
  apply List.ext_getElem?
  intro i
  rw [List.getElem?_set]
  by_cases e : p = i
  · subst e; rw [h]; rw [if_pos rfl, if_pos (List.getElem?_eq_some_iff.1 h).1]
  · rw [if_neg e]
section
variable {T : TypeId → Option VTy} {ρ : Operand → VVal} {H : Zf} {op : Op}
theorem v_eqNilF {t : TypeId} {x y : Operand} {ty : TypeId} {cs : List VVal} {len es : Nat} {ex : Bool} {i : VTy} {e : TypeId} (ho : op = .binOp .eql t x y ty) (hx : ρ x = .fsl cs len es ex) (hy : ρ y = .slice none 0 0 true 0) (hT : T t = some i) (hd : i.desc = .slice e) (hl : len ≠ 0) : vop T ρ H op = some (.bool false, H) := by
  rw [ho]; simp [vop, vbin, hx, hy, veq, hT, hd, hl]
theorem v_wHi {t e : TypeId} {x hi : Operand} {y z : VTy} {l : List (BitVec 64)} {k : Nat} {kd : IntKind} (ho : op = .slice t x none (some hi) none) (hy : T t = some y) (hd : y.desc = .slice e) (hz : T e = some z) (hs : z.size = 1) (hx : ρ x = fzW l) (hh : ρ hi = .int kd (k : Nat)) (hk : k ≤ l.length) : vop T ρ H op = some (fzW (l.take k), H) := by
  rw [v_sliceHi ho hy hd hz hs hx hh hk XH20]
  simp [fzW, Nat.min_eq_left hk, List.map_take]
end
abbrev mtB (rows : List (BitVec 64)) (O : List Int) : VBlk := .cells (fzW rows :: O.map iI) true
abbrev seB (w : BitVec 64) : VBlk := .cells [iW w] true
def mtH (H : Zf) (p q : Nat) (rows : List (BitVec 64)) (s : GSt) : Zf := (H.set p (mtB rows s.1)).set q (seB s.2)
section
variable {H L : Zf} {p q : Nat} {rows : List (BitVec 64)} {s : GSt}
theorem mtH_len {n : Nat} (h : H.length = n) : (mtH H p q rows s).length = n := by unfold mtH; rw [List.length_set, List.length_set]; exact h
theorem mtH_id {O : List Int} {w : BitVec 64} (hp : H[p]? = some (mtB rows O)) (hq : H[q]? = some (seB w)) : mtH H p q rows (O, w) = H := by
  unfold mtH; rw [← YK hp, ← YK hq]
theorem mt_q (hq : q < H.length) : (mtH H p q rows s ++ L)[q]? = some (seB s.2) := by
  unfold mtH; exact Zw (List.getElem?_set_self (by rw [List.length_set]; exact hq))
theorem mt_p (hp : p < H.length) (hpq : p ≠ q) : (mtH H p q rows s ++ L)[p]? = some (mtB rows s.1) := by
  unfold mtH; exact Zw (by rw [List.getElem?_set_ne (Ne.symm hpq)]; exact List.getElem?_set_self hp)
theorem mt_setq {w : BitVec 64} (hq : q < H.length) : (mtH H p q rows s ++ L).set q (seB w) = mtH H p q rows (s.1, w) ++ L := by
  rw [Yx (by rw [mtH_len rfl]; exact hq)]; unfold mtH; rw [List.set_set]
theorem mt_setp0 {k : VBlk} (hp : p < H.length) (hpq : p ≠ q) : (mtH H p q rows s ++ L).set p k = (H.set p k).set q (seB s.2) ++ L := by
  rw [Yx (by rw [mtH_len rfl]; exact hp)]; unfold mtH
  rw [List.set_comm _ _ (Ne.symm hpq), List.set_set]
theorem mt_setp {u : Int} {r : Int} (hp : p < H.length) (hpq : p ≠ q) (hu : u.toNat < s.1.length) : (mtH H p q rows s ++ L).set p (.cells (ZH (fzW rows :: s.1.map iI) (0 + 1 + u.toNat * 1) [iI r]) true) = mtH H p q rows (s.1.set u.toNat r, s.2) ++ L := by
  have : ZH (fzW rows :: s.1.map iI) (0 + 1 + u.toNat * 1) [iI r] = fzW rows :: (s.1.set u.toNat r).map iI := by
    rw [show 0 + 1 + u.toNat * 1 = u.toNat + 1 by omega]
    unfold ZH
    rw [List.map_set, List.set_eq_take_append_cons_drop, if_pos (by rw [List.length_map]; exact hu)]; simp
  rw [this, mt_setp0 hp hpq]; rfl
theorem mt_mt {t : GSt} (hp : p < H.length) (hq : q < H.length) (hpq : p ≠ q) : mtH (mtH H p q rows s ++ L) p q rows t = mtH H p q rows t ++ L := by
  have : mtH (mtH H p q rows s ++ L) p q rows t = ((mtH H p q rows s ++ L).set p (mtB rows t.1)).set q (seB t.2) := rfl
  rw [this, mt_setp0 hp hpq, Yx (by simp; exact hq), List.set_set]; rfl
theorem mt_len6 {u : Int} {v : VVal} (h : u.toNat < s.1.length) : 0 + 1 + u.toNat * 1 + [v].length ≤ (fzW rows :: s.1.map iI).length := by
  show 0 + 1 + u.toNat * 1 + 1 ≤ (s.1.map iI).length + 1
  rw [List.length_map]; omega
theorem Ys {b : Bool} (h : b = false) : ¬ b = true := by rw [h]; decide
theorem mt_base (hl : True) : BaseOk H (mtH H p q rows s) := BaseOk.set (BaseOk.set (BaseOk.refl _) _ (by show VVal.underL _ (fzW rows :: s.1.map iI) = true; simp [VVal.underL, YM, Y3])) _ rfl
theorem own_cell {u : Int} (h : 0 ≤ u ∧ u < s.1.length) : (fzW rows :: s.1.map iI)[0 + 1 + u.toNat * 1]? = some (iI (s.1.getD u.toNat 0)) := by
  rw [show 0 + 1 + u.toNat * 1 = u.toNat + 1 by omega, List.getElem?_cons_succ]
  have : u.toNat < s.1.length := by omega
  simp [List.getElem?_eq_getElem this]
end
theorem mset_spec {x : SW} (H : Zf) (w : BitVec 64) : F (psys x) 100 [iW w] H fun v G => v = .agg [iW w] ∧ G = H := by
  refine Zq Tryd.func100 rfl u6 rfl ?_
  refine Zd (Za ?_)
  refine Zr (env' := u6) rfl rfl (ZR rfl rfl) rfl ?_
  refine Ze (Zc (Zd (Za ?_)))
  refine Zr (env' := u6) rfl rfl (rfl) rfl ?_
  refine Zr (env' := u6) rfl rfl (Zb (.inl rfl) rfl) rfl ?_
  refine Zp rfl rfl rfl (by exact Of_spec _ 0#64 _) ?_
  rintro _ _ ⟨rfl, rfl⟩
  refine L_env (env' := u6) rfl ?_
  refine Zr (env' := u6) rfl rfl (Z0 rfl rfl rfl rfl rfl rfl rfl XH8 XH6 XH22) rfl ?_
  refine Ze (Zc (Zl ?_))
  refine YA (.inr rfl) (YG rfl rfl rfl rfl XH8 XH3) XH11 XH14 ?_
  exact ⟨rfl, rfl⟩
theorem fits_spec {x : SW} (H : Zf) (l : List (BitVec 64)) : F (psys x) 93 [fzW l] H fun v G => v = .bool (decide ((l.length : Int) ≤ 12)) ∧ G = H := by
  refine Zq Tryd.func93 rfl u6 rfl ?_
  refine Zd (Za ?_)
  refine Zr (env' := u6) rfl rfl (Zg (VVal.bool false) (.inr rfl) rfl) rfl ?_
  refine Ze (Zc (Zd (Za ?_)))
  refine Zr (env' := u6) rfl rfl (Zb (.inl rfl) rfl) rfl ?_
  refine Zr (env' := u6) rfl rfl (rfl) rfl ?_
  refine Zr (env' := u6) rfl rfl (rfl) rfl ?_
  refine Zr (env' := u6) rfl rfl (Zb (.inr rfl) rfl) rfl ?_
  refine Ze (Zc (Zl ?_))
  refine YA (.inr rfl) (Zh rfl rfl) XH11 XH14 ?_
  exact ⟨rfl, rfl⟩
theorem grow_in {x : SW} {p q n : Nat} {rows : List (BitVec 64)} (hpq : p ≠ q) (ih : ∀ (H : Zf) (row : Int) (O : List Int) (S : BitVec 64), H[p]? = some (mtB rows O) → H[q]? = some (seB S) → 0 ≤ row → row < rows.length → Gok rows O → 64 - Yz 64 S < n → F (psys x) 150 [.ptr (some (p, 0)), iI row, .ptr (some (q, 0))] H fun v G => v = .bool (grw rows n row (O, S)).1 ∧ G = mtH H p q rows (grw rows n row (O, S)).2) (H L : Zf) (s : GSt) (hp : p < H.length) (hq : q < H.length) (row : Int) (h0 : 0 ≤ row) (h1 : row < rows.length) (hk : Gok rows s.1) (hm : 64 - Yz 64 s.2 < n) :
    F (psys x) 150 [.ptr (some (p, 0)), iI row, .ptr (some (q, 0))] (mtH H p q rows s ++ L) fun v G => v = .bool (grw rows n row s).1 ∧ G = mtH H p q rows (grw rows n row s).2 ++ L := by
  have := ih (mtH H p q rows s ++ L) row s.1 s.2 (mt_p hp hpq) (mt_q hq) h0 h1 hk hm
  rw [mt_mt hp hq hpq] at this
  exact this
theorem grow_s {x : SW} (p q n : Nat) (rows : List (BitVec 64)) (hpq : p ≠ q) (ih : ∀ (H : Zf) (row : Int) (O : List Int) (S : BitVec 64), H[p]? = some (mtB rows O) → H[q]? = some (seB S) → 0 ≤ row → row < rows.length → Gok rows O → 64 - Yz 64 S < n → F (psys x) 150 [.ptr (some (p, 0)), iI row, .ptr (some (q, 0))] H fun v G => v = .bool (grw rows n row (O, S)).1 ∧ G = mtH H p q rows (grw rows n row (O, S)).2) (H : Zf) (row : Int) (O : List Int) (S : BitVec 64) (hp : H[p]? = some (mtB rows O)) (hq : H[q]? = some (seB S)) (h0 : 0 ≤ row) (h1 : row < rows.length) (hO : Gok rows O) (hm : 64 - Yz 64 S < n + 1) (h62 : rows.length < 4611686018427387904) : F (psys x) 150 [.ptr (some (p, 0)), iI row, .ptr (some (q, 0))] H fun v G => v = .bool (grw rows (n + 1) row (O, S)).1 ∧ G = mtH H p q rows (grw rows (n + 1) row (O, S)).2 := by
  have hpH := ZY hp
  have hqH := ZY hq
  refine Zq Tryd.func150 rfl u62 rfl ?_
  refine Zd (Za ?_)
  refine Zr (env' := u62) rfl rfl (ZJ rfl rfl rfl) rfl ?_
  refine Zr (env' := u62) rfl rfl (ZJ rfl rfl rfl) rfl ?_
  refine Zr (env' := u62) rfl rfl (ZJ rfl rfl rfl) rfl ?_
  refine Zr (env' := u62) rfl rfl (ZR rfl rfl) rfl ?_
  refine Ze (Zc (Zd (Zd ?_)))
  refine ZS [0, 1, 2, 3, 4, 5, 6, 7, 8, 9, 10, 11, 12] #[0, 1, 3, 7, 0, 31, 63, 0, 128, 384, 1023, 2047, 4095] XH7 XH7 XH7 ?_
  refine Z6 (env' := u62) (c := .look) rfl rfl rfl XH5 rfl rfl rfl ?_
  refine Z6 (env' := u62) (c := .calm) rfl rfl rfl (rfl) rfl rfl rfl ?_
  refine Z6 (env' := u62) (c := .calm) rfl rfl rfl (rfl) rfl rfl rfl ?_
  refine Z6 (env' := u62) (c := .look) rfl rfl rfl XH5 rfl rfl rfl ?_
  refine Z6 (env' := u62) (c := .look) rfl rfl rfl XH5 rfl rfl rfl ?_
  refine Z6 (env' := u62) (c := .calm) rfl rfl rfl XH41 rfl rfl rfl ?_
  refine Z6 (env' := u62) (c := .look) rfl rfl rfl XH5 rfl rfl rfl ?_
  refine Z6 (env' := u62) (c := .look) rfl rfl rfl XH5 rfl rfl rfl ?_
  refine Z6 (env' := u62) (c := .calm) rfl rfl rfl (rfl) rfl rfl rfl ?_
  refine Z6 (env' := u62) (c := .look) rfl rfl rfl XH5 rfl rfl rfl ?_
  refine Z6 (env' := u62) (c := .calm) rfl rfl rfl (v_andNotW rfl rfl rfl) rfl rfl rfl ?_
  refine Yj (env' := u62) rfl rfl rfl rfl rfl (by exact mset_spec _ _) XH25 rfl rfl ?_
  refine Yj (env' := u62) rfl rfl rfl rfl rfl (by exact All_spec _ _) XH25 rfl rfl ?_
  refine ZU [] XH7 (trivial) ?_
  refine Zc (Zi ?_)
  refine Zt (true :: true :: true :: false :: false :: false :: false :: true :: true :: true :: true :: true :: true :: true :: true :: true :: true :: true :: true :: true :: false :: true :: true :: true :: true :: true :: true :: true :: true :: true :: true :: true :: true :: true :: true :: true :: true :: true :: true :: true :: true :: true :: true :: true :: true :: true :: true :: true :: true :: true :: true :: true :: true :: true :: true :: true :: true :: true :: true :: true :: true :: true :: []) (env' := u62) rfl ?_
  refine B_rangeM cI (pl (rows.getD row.toNat 0 &&& ~~~S) 0) (fun l0 h => by cases h) rfl (fun l G R h => All1_spec _ _ _ _ h) (σ := GSt × Bool) (fun k s => mtH H p q rows s.1 ++ [.cells [.ptr (some (p, 0))] true, .cells [iI row] true, .cells [.ptr (some (q, 0))] true, .cells [.bool s.2] true, k]) ((O, S), false) (fun k => by show _ = mtH H p q rows (O, S) ++ _; rw [mtH_id hp hq, List.append_assoc]; rfl) (fun k s => by rw [List.length_append]; exact ZL (mtH_len rfl) rfl) (fun k k1 s => by rw [List.length_append]; exact ZO (mtH_len rfl)) (fun pre s => ∃ z, (pl (rows.getD row.toNat 0 &&& ~~~S) 0) = pre ++ z ∧ grL (grw rows n) row (pl (rows.getD row.toNat 0 &&& ~~~S) 0) (O, S) = grL (grw rows n) row z s.1 ∧ s.1.1 = O ∧ 64 - Yz 64 s.1.2 ≤ n ∧ s.2 = false) ?_ (fun j pre c s => (j = Code.ret ∧ (grL (grw rows n) row (pl (rows.getD row.toNat 0 &&& ~~~S) 0) (O, S) = (true, s.1) ∧ s.2 = true))) rfl ?_ ?_ ?_
  · exact ⟨_, rfl, rfl, rfl, by show 64 - Yz 64 S ≤ n; omega, rfl⟩
  · intro pre c post s hx hI kr kb hkr hkb
    obtain ⟨s1, res⟩ := s
    try dsimp only at hI ⊢
    obtain ⟨z, hz, hg, hO1, hcm, hres⟩ := hI
    have hres : res = false := hres
    subst hres
    obtain rfl : z = c :: post := List.append_cancel_left (hz.symm.trans hx)
    have hO1 : s1.1 = O := hO1
    have hcm : 64 - Yz 64 s1.2 ≤ n := hcm
    have hg : grL (grw rows n) row (pl (rows.getD row.toNat 0 &&& ~~~S) 0) (O, S) = grL (grw rows n) row (c :: post) s1 := hg
    have hcx : c ∈ (pl (rows.getD row.toNat 0 &&& ~~~S) 0) := by rw [hx]; simp
    obtain ⟨_, hc64, _⟩ := mem_pl.1 hcx
    have hk1 : Gok rows s1.1 := by rw [hO1]; exact hO
    have hl1 : s1.1.length = 64 := hk1.len
    have hnn1 := hk1.nn c hc64
    refine ZM (env' := u62) rfl ?_
    refine Za ?_
    refine Zr (env' := u62) rfl rfl (Zb (.inr rfl) rfl) rfl ?_
    refine Ze ?_
    refine ⟨rfl, (s1, false), rfl, ?_⟩
    try dsimp only
    refine Zi (Zd (Zd (Za ?_)))
    refine Zr (env' := u62) rfl rfl XH5 rfl ?_
    refine Zr (env' := u62) rfl rfl (rfl) rfl ?_
    refine Zr (env' := u62) rfl rfl XH5 rfl ?_
    refine Zr (env' := u62) rfl rfl (Zb (.inl rfl) rfl) rfl ?_
    refine Zr (env' := u62) rfl rfl (v_shrW rfl rfl rfl XH2) rfl ?_
    refine Zr (env' := u62) rfl rfl (v_andW (b := 1#64) rfl rfl rfl) rfl ?_
    refine Zr (env' := u62) rfl rfl (rfl) rfl ?_
    refine Ze (Zc ?_)
    refine Zk _ rfl (fun hc1 => ?_) (fun hc1 => ?_)
    · try simp only [decide_eq_true_eq, decide_eq_false_iff_not, Bool.not_eq_true', Bool.not_eq_false', bne_iff_ne, beq_iff_eq, Bool.and_eq_true, Bool.or_eq_true, Bool.not_eq_true, ge_iff_le, gt_iff_lt, Int.not_le, Int.not_lt, beq_eq_false_iff_ne, bne_eq_false_iff_eq, ne_eq, Decidable.not_not, ZX, Yc, Ya] at hc1
      refine ZB (ZD (ZA ?_))
      have hseen : s1.2.getLsbD c = true := sh1.1 (by assumption)
      refine ⟨(s1, false), rfl, .inl ⟨rfl, ?_⟩⟩
      exact ⟨post, by rw [hx, List.append_assoc]; rfl, by rw [hg, grL, if_pos hseen], hO1, hcm, rfl⟩
    · try simp only [decide_eq_true_eq, decide_eq_false_iff_not, Bool.not_eq_true', Bool.not_eq_false', bne_iff_ne, beq_iff_eq, Bool.and_eq_true, Bool.or_eq_true, Bool.not_eq_true, ge_iff_le, gt_iff_lt, Int.not_le, Int.not_lt, beq_eq_false_iff_ne, bne_eq_false_iff_eq, ne_eq, Decidable.not_not, ZX, Yc, Ya] at hc1
      refine Zj (Zc (Zd ?_))
      refine ZS [0, 1, 2, 3, 4, 5, 6, 7] #[0, 1, 3, 0, 8, 31, 63, 127] XH7 XH7 XH7 ?_
      have hnseen : ¬ s1.2.getLsbD c = true := fun e => absurd (sh1.2 e) (by assumption)
      have hcg := come_grow (s := s1.2) (t := s1.2 ||| 1#64 <<< c) (fun a ha => (or1 hc64).2 (.inl ha)) ⟨c, (or1 hc64).2 (.inr rfl), bool_f hnseen⟩
      have hcl := come_le (s1.2 ||| 1#64 <<< c)
      refine Z6 (env' := u62) (c := .look) rfl rfl rfl XH5 rfl rfl rfl ?_
      refine Z6 (env' := u62) (c := .calm) rfl rfl rfl (rfl) rfl rfl rfl ?_
      refine Z6 (env' := u62) (c := .look) rfl rfl rfl XH5 rfl rfl rfl ?_
      refine Z6 (env' := u62) (c := .calm) rfl rfl rfl (Zb (.inl rfl) rfl) rfl rfl rfl ?_
      refine Z6 (env' := u62) (c := .calm) rfl rfl rfl (v_shl1 rfl rfl rfl XH2) rfl rfl rfl ?_
      refine Z6 (env' := u62) (c := .calm) rfl rfl rfl (v_orW rfl rfl rfl) rfl rfl rfl ?_
      refine Z6 (env' := u62) (c := .calm) rfl rfl rfl (rfl) rfl rfl rfl ?_
      refine Z6 (env' := u62) (c := .turn) rfl rfl rfl (Z0 rfl rfl rfl rfl rfl rfl rfl XH40 XH6 (by exact mt_setq hqH)) rfl rfl rfl ?_
      refine ZU [] XH7 (trivial) ?_
      refine Zc (Zd ?_)
      refine ZS [0, 1, 2, 3, 4, 5, 6, 7, 8, 9, 10, 11, 12, 13, 14, 15, 16, 17, 18] #[0, 0, 1, 5, 15, 31, 63, 127, 255, 255, 255, 767, 2815, 7935, 16127, 32511, 255, 131071, 262143] XH7 XH7 XH7 ?_
      refine Z6 (env' := u62) (c := .look) rfl rfl rfl XH10 rfl rfl rfl ?_
      refine Z6 (env' := u62) (c := .calm) rfl rfl rfl (Zb (.inl rfl) rfl) rfl rfl rfl ?_
      refine Z6 (env' := u62) (c := .calm) rfl rfl rfl (rfl) rfl rfl rfl ?_
      refine Z6 (env' := u62) (c := .calm) rfl rfl rfl (rfl) rfl rfl rfl ?_
      refine Z6 (env' := u62) (c := .calm) rfl rfl rfl XH39 rfl rfl rfl ?_
      refine Z6 (env' := u62) (c := .look) rfl rfl rfl XH18 rfl rfl rfl ?_
      refine Z6 (env' := u62) (c := .calm) rfl rfl rfl (rfl) rfl rfl rfl ?_
      refine Z6 (env' := u62) (c := .calm) rfl rfl rfl (Zb (.inl rfl) rfl) rfl rfl rfl ?_
      refine O_split 43 (env1 := u62) (env2 := u62) rfl rfl rfl (fun hg2 => ?_) (fun hg2 => ?_)
      · try simp only [decide_eq_true_eq, decide_eq_false_iff_not, Bool.not_eq_true', Bool.not_eq_false', bne_iff_ne, beq_iff_eq, Bool.and_eq_true, Bool.or_eq_true, Bool.not_eq_true, ge_iff_le, gt_iff_lt, Int.not_le, Int.not_lt, beq_eq_false_iff_ne, bne_eq_false_iff_eq, ne_eq, Decidable.not_not, ZX, Yc, Ya] at hg2
        refine O_off (env' := u62) rfl rfl rfl rfl ?_
        refine O_off (env' := u62) rfl rfl rfl rfl ?_
        refine O_off (env' := u62) rfl rfl rfl rfl ?_
        refine O_off (env' := u62) rfl rfl rfl rfl ?_
        refine O_off (env' := u62) rfl rfl rfl rfl ?_
        refine O_off (env' := u62) rfl rfl rfl rfl ?_
        refine O_off (env' := u62) rfl rfl rfl rfl ?_
        refine O_off (env' := u62) rfl rfl rfl rfl ?_
        refine O_off (env' := u62) rfl rfl rfl rfl ?_
        refine O_off (env' := u62) rfl rfl rfl rfl ?_
        refine Z6 (env' := u62) (c := .calm) rfl rfl rfl (ZK (VVal.bool true) rfl rfl rfl) rfl rfl rfl ?_
        refine ZU [] XH7 (trivial) ?_
        refine Zc ?_
        refine ZP rfl rfl ?_
        refine Zd ?_
        refine ZS [0, 1, 2, 3, 4, 5, 6, 7] #[0, 0, 0, 4, 1, 17, 63, 127] XH7 XH7 XH7 ?_
        refine Z6 (env' := u62) (c := .look) rfl rfl rfl XH10 rfl rfl rfl ?_
        refine Z6 (env' := u62) (c := .calm) rfl rfl rfl (Zb (.inl rfl) rfl) rfl rfl rfl ?_
        refine Z6 (env' := u62) (c := .look) rfl rfl rfl XH10 rfl rfl rfl ?_
        refine Z6 (env' := u62) (c := .calm) rfl rfl rfl (YX rfl rfl rfl XH2) rfl rfl rfl ?_
        refine Z6 (env' := u62) (c := .calm) rfl rfl rfl (rfl) rfl rfl rfl ?_
        refine Z6 (env' := u62) (c := .calm) rfl rfl rfl (rfl) rfl rfl rfl ?_
        refine Z6 (env' := u62) (c := .calm) rfl rfl rfl XH39 rfl rfl rfl ?_
        refine Z6 (env' := u62) (c := .turn) rfl rfl rfl (Z0 rfl rfl rfl rfl rfl rfl rfl XH40 XH35 XH36) rfl rfl rfl ?_
        refine ZU [] XH7 (trivial) ?_
        refine Zc (Zd (Za ?_))
        refine Zr (env' := u62) rfl rfl (Yg (VVal.bool true) rfl rfl rfl rfl rfl rfl rfl XH40 XH6 (by exact ZO (mtH_len rfl))) rfl ?_
        refine Ze (Zc (Zl (ZF ?_)))
        refine ⟨(_, true), rfl, .inr ⟨Code.ret, rfl, ⟨rfl, ?_⟩⟩⟩
        first
          | exact ⟨by rw [hg, grL, if_neg hnseen, if_pos (by assumption)]; rfl, rfl⟩
          | exact ⟨by rw [hg, grL, if_neg hnseen, if_neg hno, if_pos (by assumption)]; rfl, rfl⟩
      · try simp only [decide_eq_true_eq, decide_eq_false_iff_not, Bool.not_eq_true', Bool.not_eq_false', bne_iff_ne, beq_iff_eq, Bool.and_eq_true, Bool.or_eq_true, Bool.not_eq_true, ge_iff_le, gt_iff_lt, Int.not_le, Int.not_lt, beq_eq_false_iff_ne, bne_eq_false_iff_eq, ne_eq, Decidable.not_not, ZX, Yc, Ya] at hg2
        have hno : ¬ s1.1.getD c 0 = 0 := by assumption
        have hgr := grw_ok (rows := rows) (n := n) (row := s1.1.getD c 0 - 1) (s := (s1.1, s1.2 ||| 1#64 <<< c)) (by omega) (by omega) hk1 XH34
        refine Z6 (env' := u62) (c := .look) rfl rfl rfl XH10 rfl rfl rfl ?_
        refine Z6 (env' := u62) (c := .look) rfl rfl rfl XH10 rfl rfl rfl ?_
        refine Z6 (env' := u62) (c := .calm) rfl rfl rfl (Zb (.inl rfl) rfl) rfl rfl rfl ?_
        refine Z6 (env' := u62) (c := .calm) rfl rfl rfl (rfl) rfl rfl rfl ?_
        refine Z6 (env' := u62) (c := .calm) rfl rfl rfl (rfl) rfl rfl rfl ?_
        refine Z6 (env' := u62) (c := .calm) rfl rfl rfl XH39 rfl rfl rfl ?_
        refine Z6 (env' := u62) (c := .look) rfl rfl rfl XH18 rfl rfl rfl ?_
        refine Z6 (env' := u62) (c := .calm) rfl rfl rfl (v_subI rfl rfl rfl XH2) rfl rfl rfl ?_
        refine Z6 (env' := u62) (c := .look) rfl rfl rfl XH10 rfl rfl rfl ?_
        refine Yj (env' := u62) rfl rfl rfl rfl rfl (by exact grow_in hpq ih H _ (s1.1, s1.2 ||| 1#64 <<< c) hpH hqH _ (show (0 : Int) ≤ s1.1.getD c 0 - 1 by omega) (show s1.1.getD c 0 - 1 < (rows.length : Int) by omega) hk1 XH34) XH25 rfl rfl ?_
        refine Z6 (env' := u62) (c := .calm) rfl rfl rfl (ZT rfl rfl rfl) rfl rfl rfl ?_
        refine ZU [] XH7 (trivial) ?_
        refine Zc ?_
        refine Zk _ rfl (fun hc3 => ?_) (fun hc3 => ?_)
        · try simp only [decide_eq_true_eq, decide_eq_false_iff_not, Bool.not_eq_true', Bool.not_eq_false', bne_iff_ne, beq_iff_eq, Bool.and_eq_true, Bool.or_eq_true, Bool.not_eq_true, ge_iff_le, gt_iff_lt, Int.not_le, Int.not_lt, beq_eq_false_iff_ne, bne_eq_false_iff_eq, ne_eq, Decidable.not_not, ZX, Yc, Ya] at hc3
          refine Zd ?_
          refine ZS [0, 1, 2, 3, 4, 5, 6, 7] #[0, 0, 0, 4, 1, 17, 63, 127] XH7 XH7 XH7 ?_
          refine Z6 (env' := u62) (c := .look) rfl rfl rfl XH10 rfl rfl rfl ?_
          refine Z6 (env' := u62) (c := .calm) rfl rfl rfl (Zb (.inl rfl) rfl) rfl rfl rfl ?_
          refine Z6 (env' := u62) (c := .look) rfl rfl rfl XH10 rfl rfl rfl ?_
          refine Z6 (env' := u62) (c := .calm) rfl rfl rfl (YX rfl rfl rfl XH2) rfl rfl rfl ?_
          refine Z6 (env' := u62) (c := .calm) rfl rfl rfl (rfl) rfl rfl rfl ?_
          refine Z6 (env' := u62) (c := .calm) rfl rfl rfl (rfl) rfl rfl rfl ?_
          refine Z6 (env' := u62) (c := .calm) rfl rfl rfl XH39 rfl rfl rfl ?_
          refine Z6 (env' := u62) (c := .turn) rfl rfl rfl (Z0 rfl rfl rfl rfl rfl rfl rfl XH40 XH35 XH36) rfl rfl rfl ?_
          refine ZU [] XH7 (trivial) ?_
          refine Zc (Zd (Za ?_))
          refine Zr (env' := u62) rfl rfl (Yg (VVal.bool true) rfl rfl rfl rfl rfl rfl rfl XH40 XH6 (by exact ZO (mtH_len rfl))) rfl ?_
          refine Ze (Zc (Zl (ZF ?_)))
          refine ⟨(_, true), rfl, .inr ⟨Code.ret, rfl, ⟨rfl, ?_⟩⟩⟩
          first
            | exact ⟨by rw [hg, grL, if_neg hnseen, if_pos (by assumption)]; rfl, rfl⟩
            | exact ⟨by rw [hg, grL, if_neg hnseen, if_neg hno, if_pos (by assumption)]; rfl, rfl⟩
        · try simp only [decide_eq_true_eq, decide_eq_false_iff_not, Bool.not_eq_true', Bool.not_eq_false', bne_iff_ne, beq_iff_eq, Bool.and_eq_true, Bool.or_eq_true, Bool.not_eq_true, ge_iff_le, gt_iff_lt, Int.not_le, Int.not_lt, beq_eq_false_iff_ne, bne_eq_false_iff_eq, ne_eq, Decidable.not_not, ZX, Yc, Ya] at hc3
          refine Zj (Zs ?_)
          have hcg2 : Yz 64 (s1.2 ||| 1#64 <<< c) ≤ Yz 64 (grw rows n (s1.1.getD c 0 - 1) (s1.1, s1.2 ||| 1#64 <<< c)).2.2 := come_le2 hgr.sub
          refine ⟨(_, false), rfl, .inl ⟨rfl, ?_⟩⟩
          exact ⟨post, by rw [hx, List.append_assoc]; rfl, by rw [hg, grL, if_neg hnseen, if_neg hno, if_neg (Ys (by assumption))]; rfl, ((hgr.no (by assumption)).1).trans hO1, (by show 64 - Yz 64 (grw rows n (s1.1.getD c 0 - 1) (s1.1, s1.2 ||| 1#64 <<< c)).2.2 ≤ n; omega), rfl⟩
  · intro s k hk hI
    obtain ⟨s1, res⟩ := s
    try dsimp only at hI ⊢
    obtain ⟨z, hz, hg, hO1, hcm, hres⟩ := hI
    have hres : res = false := hres
    subst hres
    obtain rfl : z = [] := by simpa using hz
    refine Zs (Zc (Zd (Za ?_)))
    refine Zr (env' := u62) rfl rfl (Yg (VVal.bool false) rfl rfl rfl rfl rfl rfl rfl XH40 XH6 (by exact ZO (mtH_len rfl))) rfl ?_
    refine Ze (Zc (Zl ?_))
    refine YA (.inr rfl) (vres_cell rfl rfl rfl rfl (by exact ZL (mtH_len rfl) rfl) (by first | rfl | assumption | exact own_cell (by omega) | exact fget (α := BitVec 64) 0 (by omega))) (by exact mt_base trivial) XH14 ?_
    exact ⟨by rw [show grw rows (n + 1) row (O, S) = (false, s1) from hg], by rw [show grw rows (n + 1) row (O, S) = (false, s1) from hg]⟩
  · rintro j pre c post s k hk hx (⟨rfl, hX⟩)
    obtain ⟨s1, res⟩ := s
    try dsimp only
    obtain ⟨hX1, hX2⟩ := hX
    have hX2 : res = true := hX2
    subst hX2
    refine J_ret ?_
    refine ZF (Zm ?_)
    refine YA (.inr rfl) (vres_cell rfl rfl rfl rfl (by exact ZL (mtH_len rfl) rfl) (by first | rfl | assumption | exact own_cell (by omega) | exact fget (α := BitVec 64) 0 (by omega))) (by exact mt_base trivial) XH14 ?_
    exact ⟨by rw [show grw rows (n + 1) row (O, S) = (true, s1) from hX1], by rw [show grw rows (n + 1) row (O, S) = (true, s1) from hX1]⟩
end MM
open Go Go.V Go.RowKit
namespace MM
theorem grow_spec {x : SW} (p q : Nat) (rows : List (BitVec 64)) (hpq : p ≠ q) (h62 : rows.length < 4611686018427387904) : ∀ (n : Nat) (H : Zf) (row : Int) (O : List Int) (S : BitVec 64), H[p]? = some (mtB rows O) → H[q]? = some (seB S) → 0 ≤ row → row < rows.length → Gok rows O → 64 - Yz 64 S < n → F (psys x) 150 [.ptr (some (p, 0)), iI row, .ptr (some (q, 0))] H fun v G => v = .bool (grw rows n row (O, S)).1 ∧ G = mtH H p q rows (grw rows n row (O, S)).2
  | 0, _, _, _, _, _, _, _, _, _, h => absurd h (by omega)
  | n + 1, H, row, O, S, hp, hq, h0, h1, hO, hm => grow_s p q n rows hpq (fun H row O S a b c d e f => grow_spec p q rows hpq h62 n H row O S a b c d e f) H row O S hp hq h0 h1 hO hm h62
theorem grow_at {x : SW} (H : Zf) (rows : List (BitVec 64)) (O : List Int) (row : Int) (h0 : 0 ≤ row) (h1 : row < rows.length) (hO : Gok rows O) (h62 : rows.length < 4611686018427387904) : F (psys x) 150 [.ptr (some (H.length + 0, 0)), iI row, .ptr (some (H.length + 1, 0))] (H ++ [mtB rows O, seB 0#64]) fun v G => v = .bool (grw rows 65 row (O, 0#64)).1 ∧ G = H ++ [mtB rows (grw rows 65 row (O, 0#64)).2.1, seB (grw rows 65 row (O, 0#64)).2.2] := by
  have := grow_spec (x := x) (H.length + 0) (H.length + 1) rows (by omega) h62 65 (H ++ [mtB rows O, seB 0#64]) row O 0#64 (ZL rfl rfl) (ZL rfl rfl) h0 h1 hO (by rw [come_0]; omega)
  unfold mtH at this
  rw [ZO rfl, ZO rfl] at this
  exact this
theorem mtB_under {n : Nat} {rows : List (BitVec 64)} {O : List Int} : (mtB rows O).under n = true := by
  show VVal.underL n (fzW rows :: O.map iI) = true
  simp [VVal.underL, YM, Y3]
def mskT (l : List (BitVec 64)) (t : BitVec 64) (k : Nat) : List (BitVec 64) := msk (l.take k) t ++ l.drop k
theorem beq_nat {a b : Nat} : ((a : Int) == (b : Int)) = (a == b) := Bool.eq_iff_iff.2 (by rw [beq_iff_eq, beq_iff_eq]; omega)
theorem mskT_len {l : List (BitVec 64)} {t : BitVec 64} {k : Nat} : (mskT l t k).length = l.length := by
  unfold mskT; rw [List.length_append, Ye, List.length_take, List.length_drop]; omega
theorem mskT_0 {l : List (BitVec 64)} {t : BitVec 64} : mskT l t 0 = l := by unfold mskT msk; simp
theorem mskT_all {l : List (BitVec 64)} {t : BitVec 64} : mskT l t l.length = msk l t := by unfold mskT; simp
theorem mskT_get {l : List (BitVec 64)} {t : BitVec 64} {k : Nat} (h : k < l.length) : (mskT l t k).getD k 0 = l.getD k 0 := by
  unfold mskT
  rw [List.getD_eq_getElem?_getD, List.getElem?_append_right (by rw [Ye, List.length_take]; omega), Ye, List.length_take, Nat.min_eq_left (by omega), Nat.sub_self, List.getElem?_drop, Nat.add_zero, List.getD_eq_getElem?_getD]
theorem mskT_set {l : List (BitVec 64)} {t : BitVec 64} {k : Nat} (h : k < l.length) : (mskT l t k).set k (l.getD k 0 &&& ~~~t) = mskT l t (k + 1) := by
  unfold mskT
  rw [List.set_append_right _ _ (by rw [Ye, List.length_take]; omega), Ye, List.length_take, Nat.min_eq_left (by omega), Nat.sub_self, List.take_succ_eq_append_getElem h, List.drop_eq_getElem_cons h, List.getD_eq_getElem?_getD, List.getElem?_eq_getElem h]
  show msk (l.take k) t ++ ((l[k] &&& ~~~t) :: l.drop (k + 1)) = _
  unfold msk
  rw [List.map_append, List.append_assoc]; rfl
theorem splice_w {l : List (BitVec 64)} {k : Nat} {w : BitVec 64} (h : k < l.length) : ZH (l.map iW) (0 + k * 1) [iW w] = (l.set k w).map iW := by
  rw [show 0 + k * 1 = k by omega]
  unfold ZH
  rw [List.map_set, List.set_eq_take_append_cons_drop, if_pos (by rw [List.length_map]; exact h)]; simp
theorem size_spec {x : SW} (H : Zf) (rows : List (BitVec 64)) (h62 : rows.length < 4611686018427387904) : F (psys x) 130 [fzW rows] H fun v G => v = iI (szN rows : Nat) ∧ G = H := by
  refine Zq Tryd.func130 rfl u22 rfl ?_
  refine Zd (Za ?_)
  refine Zr (env' := u22) rfl rfl (Zg (VVal.int .i64 0) (.inr rfl) rfl) rfl ?_
  refine Ze (Zc (Zd (Za ?_)))
  refine Zr (env' := u22) rfl rfl (Zb (.inl rfl) rfl) rfl ?_
  refine Zr (env' := u22) rfl rfl (rfl) rfl ?_
  refine Zr (env' := u22) rfl rfl (ZJ rfl rfl rfl) rfl ?_
  refine Zr (env' := u22) rfl rfl (Zb (.inr rfl) rfl) rfl ?_
  refine Zr (env' := u22) rfl rfl (Zg (VVal.int .i64 0) (.inr rfl) rfl) rfl ?_
  refine Ze (Zc (Zd (Zd (Za ?_))))
  refine Zr (env' := u22) rfl rfl (Zb (.inl rfl) rfl) rfl ?_
  refine Zr (env' := u22) rfl rfl (rfl) rfl ?_
  refine Zr (env' := u22) rfl rfl (Zg (VVal.int .i64 0) (.inl rfl) rfl) rfl ?_
  refine Ze (Zc (Zi ?_))
  refine Zt [true,true,true,false,false,true,true,true,true,true,true,false,false,true,true,true,true,true,true,true,true,true] (env' := u22) rfl ?_
  refine Zy (fun (k : Nat) => rows.length - k) (fun (k : Nat) => [(4, iI ((szO rows k).2 : Nat)), (12, iI (k : Nat))]) (fun (k : Nat) G => (k ≤ rows.length) ∧ G = H ++ [mtB rows (szO rows k).1]) 0 rfl ?_ ?_
  · refine ⟨?_, rfl⟩
    exact Nat.zero_le _
  rintro k _ ⟨hk, rfl⟩
  refine ZM (env' := u22) rfl ?_
  refine Zd (Za ?_)
  refine Zr (env' := u22) rfl rfl (rfl) rfl ?_
  refine Ze (Zc (Zd ?_))
  refine Zk _ rfl (fun hc1 => ?_) (fun hc1 => ?_)
  · try simp only [decide_eq_true_eq, decide_eq_false_iff_not, Bool.not_eq_true', Bool.not_eq_false', bne_iff_ne, beq_iff_eq, Bool.and_eq_true, Bool.or_eq_true, Bool.not_eq_true, ge_iff_le, gt_iff_lt, Int.not_le, Int.not_lt, beq_eq_false_iff_ne, bne_eq_false_iff_eq, ne_eq, Decidable.not_not, ZX, Yc, Ya] at hc1
    refine Zj (Zc (Zd (Zi (Zd (Za ?_)))))
    refine Zr (env' := u22) rfl rfl (Zb (.inl rfl) rfl) rfl ?_
    refine Zr (env' := u22) rfl rfl (Zb (.inr rfl) rfl) rfl ?_
    refine Ze (Zc (Zd (Za ?_)))
    refine Zr (env' := u22) rfl rfl (ZR rfl rfl) rfl ?_
    refine Zr (env' := u22) rfl rfl (Yg (VVal.int .u64 0) rfl rfl rfl rfl rfl rfl rfl XH8 XH6 XH22) rfl ?_
    refine Ze (Zc (Zd (Za ?_)))
    refine Zr (env' := u22) rfl rfl (Zb (.inl rfl) rfl) rfl ?_
    refine Zr (env' := u22) rfl rfl (Zb (.inl rfl) rfl) rfl ?_
    refine Zp rfl rfl rfl (by exact grow_at H rows (szO rows k).1 k (by omega) (by omega) (szO_ok (by omega)) h62) ?_
    rintro _ _ ⟨rfl, rfl⟩
    refine L_env (env' := u22) rfl ?_
    refine Ze (Zc ?_)
    refine Zk _ rfl (fun hc2 => ?_) (fun hc2 => ?_)
    · try simp only [decide_eq_true_eq, decide_eq_false_iff_not, Bool.not_eq_true', Bool.not_eq_false', bne_iff_ne, beq_iff_eq, Bool.and_eq_true, Bool.or_eq_true, Bool.not_eq_true, ge_iff_le, gt_iff_lt, Int.not_le, Int.not_lt, beq_eq_false_iff_ne, bne_eq_false_iff_eq, ne_eq, Decidable.not_not, ZX, Yc, Ya] at hc2
      refine Za ?_
      refine Zr (env' := u22) rfl rfl (Zb (.inl rfl) rfl) rfl ?_
      refine Zr (env' := u22) rfl rfl (YX rfl rfl rfl (by have := @szO_le rows k; omega)) rfl ?_
      refine Zr (env' := u22) rfl rfl (Zb (.inr rfl) rfl) rfl ?_
      refine Ze (Zs (Zc (Za ?_)))
      refine Zr (env' := u22) rfl rfl (YX rfl rfl rfl XH2) rfl ?_
      refine Zr (env' := u22) rfl rfl (Zb (.inl rfl) rfl) rfl ?_
      refine Ze ?_
      first
        | (have hE : (((szO rows k).2 : Nat) : Int) + 1 = ((szO rows (k + 1)).2 : Nat) := by rw [szO, if_pos (by assumption)]; rfl); rw [hE]
        | (have hE : (szO rows k).2 = (szO rows (k + 1)).2 := by rw [szO]; simp only; rw [if_neg (Ys (by assumption))]); rw [hE]
      refine K_loopG [true,true,true,false,false,true,true,true,true,true,true,false,false,true,true,true,true,true,true,true,true,true] (env' := u22) rfl (Gh.dropTo (L := [mtB rows (szO rows (k + 1)).1]) (X := [seB _]) 1 rfl (BaseOk.refl _) XH21 (by simp [mtB_under])) ⟨k + 1, ?_, rfl, ?_⟩
      · first | omega | (simp only []; omega)
      · exact ⟨by omega, rfl⟩
    · try simp only [decide_eq_true_eq, decide_eq_false_iff_not, Bool.not_eq_true', Bool.not_eq_false', bne_iff_ne, beq_iff_eq, Bool.and_eq_true, Bool.or_eq_true, Bool.not_eq_true, ge_iff_le, gt_iff_lt, Int.not_le, Int.not_lt, beq_eq_false_iff_ne, bne_eq_false_iff_eq, ne_eq, Decidable.not_not, ZX, Yc, Ya] at hc2
      refine Zj (Zs (Zc (Za ?_)))
      refine Zr (env' := u22) rfl rfl (YX rfl rfl rfl XH2) rfl ?_
      refine Zr (env' := u22) rfl rfl (Zb (.inl rfl) rfl) rfl ?_
      refine Ze ?_
      first
        | (have hE : (((szO rows k).2 : Nat) : Int) + 1 = ((szO rows (k + 1)).2 : Nat) := by rw [szO, if_pos (by assumption)]; rfl); rw [hE]
        | (have hE : (szO rows k).2 = (szO rows (k + 1)).2 := by rw [szO]; simp only; rw [if_neg (Ys (by assumption))]); rw [hE]
      refine K_loopG [true,true,true,false,false,true,true,true,true,true,true,false,false,true,true,true,true,true,true,true,true,true] (env' := u22) rfl (Gh.dropTo (L := [mtB rows (szO rows (k + 1)).1]) (X := [seB _]) 1 rfl (BaseOk.refl _) XH21 (by simp [mtB_under])) ⟨k + 1, ?_, rfl, ?_⟩
      · first | omega | (simp only []; omega)
      · exact ⟨by omega, rfl⟩
  · try simp only [decide_eq_true_eq, decide_eq_false_iff_not, Bool.not_eq_true', Bool.not_eq_false', bne_iff_ne, beq_iff_eq, Bool.and_eq_true, Bool.or_eq_true, Bool.not_eq_true, ge_iff_le, gt_iff_lt, Int.not_le, Int.not_lt, beq_eq_false_iff_ne, bne_eq_false_iff_eq, ne_eq, Decidable.not_not, ZX, Yc, Ya] at hc1
    refine ZB (ZD (Zv (ZA (Zc (Zd (Za ?_))))))
    refine Zr (env' := u22) rfl rfl (Zb (.inl rfl) rfl) rfl ?_
    refine Zr (env' := u22) rfl rfl (Zb (.inr rfl) rfl) rfl ?_
    refine Ze (Zc (Zl ?_))
    refine YA (.inr rfl) (Zh rfl rfl) XH11 (by first | rfl | simp [VVal.under, VVal.underL, YM, *]) ?_
    obtain rfl : k = rows.length := by omega
    exact ⟨rfl, rfl⟩
theorem size_m {x : SW} {n : Nat} (H : Zf) (l : List (BitVec 64)) (t : BitVec 64) (hn : n = (msk l t).length) (h62 : (msk l t).length < 4611686018427387904) : F (psys x) 130 [.fsl ((msk l t).map iW) n 1 false] H fun v G => v = iI (szN (msk l t) : Nat) ∧ G = H := by
  subst hn; exact size_spec H (msk l t) h62
theorem Clone_nil {x : SW} (H : Zf) : F (psys x) 99 [.slice none 0 0 true 0] H fun v G => v = .fsl [] 0 1 false ∧ G = H := by
  refine Zq Tryd.func99 rfl u8 rfl ?_
  refine Zd (Za ?_)
  refine Zr (env' := u8) rfl rfl (Zg (VVal.slice none 0 0 true 0) (.inr rfl) rfl) rfl ?_
  refine Ze (Zc (Zd (Zd (Za ?_))))
  refine Zr (env' := u8) rfl rfl (Zb (.inl rfl) rfl) rfl ?_
  refine Zr (env' := u8) rfl rfl (rfl) rfl ?_
  refine Ze (Zc ?_)
  refine ZP rfl rfl ?_
  refine Zd (Za ?_)
  refine Zr (env' := u8) rfl rfl (Zg (VVal.slice none 0 0 true 0) (.inr rfl) rfl) rfl ?_
  refine Ze (Zc (Zl (Zm ?_)))
  refine E_gh (.inr rfl) (Zh rfl rfl) (Gh.ansLV (BaseOk.refl _) (LV.nil H.length 1 []) rfl) ?_
  exact ⟨rfl, rfl⟩
theorem Clone_emp {x : SW} (H : Zf) : F (psys x) 99 [.slice none 0 0 false 0] H fun v G => v = .fsl [] 0 1 false ∧ G = H := by
  refine Zq Tryd.func99 rfl u8 rfl ?_
  refine Zd (Za ?_)
  refine Zr (env' := u8) rfl rfl (Zg (VVal.slice none 0 0 true 0) (.inr rfl) rfl) rfl ?_
  refine Ze (Zc (Zd (Zd (Za ?_))))
  refine Zr (env' := u8) rfl rfl (Zb (.inl rfl) rfl) rfl ?_
  refine Zr (env' := u8) rfl rfl (rfl) rfl ?_
  refine Ze (Zc ?_)
  refine Yi rfl rfl ?_
  refine Zj (Zc (Zd (Za ?_)))
  refine Zr (env' := u8) rfl rfl (Zz rfl rfl (by decide) rfl) rfl ?_
  refine Zr (env' := u8) rfl rfl (Zb (.inl rfl) rfl) rfl ?_
  refine Zr (env' := u8) rfl rfl (v_appIn rfl rfl rfl rfl rfl rfl rfl (ZL rfl rfl) rfl rfl rfl rfl (by decide) (by decide) (by decide)) rfl ?_
  refine L_heap (H' := H ++ [.cells [] true]) (by rw [ZO rfl]; rfl) ?_
  refine Zr (env' := u8) rfl rfl (Zb (.inr rfl) rfl) rfl ?_
  refine Ze (Zc (Zl ?_))
  refine E_gh (.inr rfl) (Zh rfl rfl) (Gh.fsl (j := 0) (off := 0) (len := 0) (l := []) (BaseOk.refl _) rfl rfl (Nat.le_refl _) rfl) ?_
  exact ⟨rfl, rfl⟩
theorem Clone_c {x : SW} (H : Zf) (l : List (BitVec 64)) (hne : l ≠ []) (hl : l.length ≤ 1000000) : F (psys x) 99 [fzW l] H fun v G => v = .slice (some (H.length, 0)) l.length l.length (decide (l.length = 0)) 1 ∧ G = H ++ [.cells (l.map iW) true] := by
  refine Zq Tryd.func99 rfl u8 rfl ?_
  refine Zd (Za ?_)
  refine Zr (env' := u8) rfl rfl (Zg (VVal.slice none 0 0 true 0) (.inr rfl) rfl) rfl ?_
  refine Ze (Zc (Zd (Zd (Za ?_))))
  refine Zr (env' := u8) rfl rfl (Zb (.inl rfl) rfl) rfl ?_
  refine Zr (env' := u8) rfl rfl (v_eqNilF rfl rfl rfl rfl rfl (fun e => hne (List.eq_nil_of_length_eq_zero e))) rfl ?_
  refine Ze (Zc ?_)
  refine Yi rfl rfl ?_
  refine Zj (Zc (Zd (Za ?_)))
  refine Zr (env' := u8) rfl rfl (Zz rfl rfl (by decide) rfl) rfl ?_
  refine Zr (env' := u8) rfl rfl (Zb (.inl rfl) rfl) rfl ?_
  refine L_opX rfl rfl (v_appE rfl rfl rfl rfl rfl rfl rfl rfl XH28 (mapW_one _) (by decide) (by show l.length * 8 ≤ _ ∧ l.length ≤ _; omega)) ?_
  rintro _ _ ⟨Z, i, rfl, rfl, hi⟩
  refine L_env (env' := u8) rfl ?_
  refine Zr (env' := u8) rfl rfl (Zb (.inr rfl) rfl) rfl ?_
  refine Ze (Zc (Zl ?_))
  refine E_gh (.inr rfl) (Zh rfl rfl) (Gh.pack (BaseOk.refl _) hi (YC _ _)) ?_
  exact ⟨rfl, rfl⟩
theorem Clone_0 {x : SW} (H : Zf) : F (psys x) 99 [fzW []] H fun v G => v = .fsl [] 0 1 false ∧ G = H := F_split0 (Clone_nil H) (Clone_emp H)
theorem Clone_L {x : SW} (H L : Zf) (l : List (BitVec 64)) (hne : l ≠ []) (hl : l.length ≤ 1000000) : F (psys x) 99 [fzW l] (H ++ L) fun v G => v = .slice (some (H.length + L.length, 0)) l.length l.length (decide (l.length = 0)) 1 ∧ G = H ++ (L ++ [.cells (l.map iW) true]) := by
  have := Clone_c (x := x) (H ++ L) l hne hl
  rw [List.length_append, List.append_assoc] at this
  exact this
theorem full_0 {x : SW} (H : Zf) (t : BitVec 64) : F (psys x) 102 [fzW [], iW t] H fun v G => v = .bool (Yp [] t) ∧ G = H := by
  refine Zq Tryd.func102 rfl u27 rfl ?_
  refine Zd (Za ?_)
  refine Zr (env' := u27) rfl rfl (Zg (VVal.bool false) (.inr rfl) rfl) rfl ?_
  refine Ze (Zc (Zd (Za ?_)))
  refine Zr (env' := u27) rfl rfl (Zb (.inl rfl) rfl) rfl ?_
  refine Zp rfl rfl rfl (by exact Clone_0 _) ?_
  rintro _ _ ⟨rfl, rfl⟩
  refine L_env (env' := u27) rfl ?_
  refine Zr (env' := u27) rfl rfl (Zb (.inr rfl) rfl) rfl ?_
  refine Ze (Zc (Zd (Zd (Za ?_))))
  refine Zr (env' := u27) rfl rfl (Zb (.inl rfl) rfl) rfl ?_
  refine Zr (env' := u27) rfl rfl (rfl) rfl ?_
  refine Zr (env' := u27) rfl rfl (Zg (VVal.int .i64 0) (.inl rfl) rfl) rfl ?_
  refine Ze (Zc (Zi ?_))
  refine Zt [false,false,true,true,true,false,true,true,true,true,false,false,true,true,true,true,true,true,true,true,true,true,true,true,true,true,true] (env' := u27) rfl ?_
  refine Zy (fun (k : Nat) => 0) (fun (k : Nat) => [(11, iI (k : Nat))]) (fun (k : Nat) G => (True) ∧ G = H ++ []) 0 rfl ?_ ?_
  · refine ⟨?_, rfl⟩
    trivial
  rintro k _ ⟨_, rfl⟩
  refine ZM (env' := u27) rfl ?_
  refine Zd (Za ?_)
  refine Zr (env' := u27) rfl rfl (rfl) rfl ?_
  refine Ze (Zc (Zd ?_))
  refine Zk _ rfl (fun hc1 => ?_) (fun hc1 => ?_)
  · try simp only [decide_eq_true_eq, decide_eq_false_iff_not, Bool.not_eq_true', Bool.not_eq_false', bne_iff_ne, beq_iff_eq, Bool.and_eq_true, Bool.or_eq_true, Bool.not_eq_true, ge_iff_le, gt_iff_lt, Int.not_le, Int.not_lt, beq_eq_false_iff_ne, bne_eq_false_iff_eq, ne_eq, Decidable.not_not, ZX, Yc, Ya] at hc1
    exfalso; omega
  · try simp only [decide_eq_true_eq, decide_eq_false_iff_not, Bool.not_eq_true', Bool.not_eq_false', bne_iff_ne, beq_iff_eq, Bool.and_eq_true, Bool.or_eq_true, Bool.not_eq_true, ge_iff_le, gt_iff_lt, Int.not_le, Int.not_lt, beq_eq_false_iff_ne, bne_eq_false_iff_eq, ne_eq, Decidable.not_not, ZX, Yc, Ya] at hc1
    refine ZB (ZD (Zv (ZA (Zc (Zd (Za ?_))))))
    refine Zr (env' := u27) rfl rfl (Zb (.inl rfl) rfl) rfl ?_
    refine Zp rfl rfl rfl (by exact size_spec _ [] (by decide)) ?_
    rintro _ _ ⟨rfl, rfl⟩
    refine L_env (env' := u27) rfl ?_
    refine Zr (env' := u27) rfl rfl (Zb (.inl rfl) rfl) rfl ?_
    refine Zr (env' := u27) rfl rfl (rfl) rfl ?_
    refine Zr (env' := u27) rfl rfl (rfl) rfl ?_
    refine Zr (env' := u27) rfl rfl (Zb (.inr rfl) rfl) rfl ?_
    refine Ze (Zc (Zl ?_))
    refine YA (.inr rfl) (Zh rfl rfl) XH11 XH14 ?_
    exact ⟨rfl, rfl⟩
theorem full_c {x : SW} (H : Zf) (l : List (BitVec 64)) (t : BitVec 64) (hne : l ≠ []) (hl : l.length ≤ 1000000) : F (psys x) 102 [fzW l, iW t] H fun v G => v = .bool (Yp l t) ∧ G = H := by
  refine Zq Tryd.func102 rfl u27 rfl ?_
  refine Zd (Za ?_)
  refine Zr (env' := u27) rfl rfl (Zg (VVal.bool false) (.inr rfl) rfl) rfl ?_
  refine Ze (Zc (Zd (Za ?_)))
  refine Zr (env' := u27) rfl rfl (Zb (.inl rfl) rfl) rfl ?_
  refine Zp rfl rfl rfl (by exact Clone_L _ _ _ hne hl) ?_
  rintro _ _ ⟨rfl, rfl⟩
  refine L_env (env' := u27) rfl ?_
  refine Zr (env' := u27) rfl rfl (Zb (.inr rfl) rfl) rfl ?_
  refine Ze (Zc (Zd (Zd (Za ?_))))
  refine Zr (env' := u27) rfl rfl (Zb (.inl rfl) rfl) rfl ?_
  refine Zr (env' := u27) rfl rfl (rfl) rfl ?_
  refine Zr (env' := u27) rfl rfl (Zg (VVal.int .i64 0) (.inl rfl) rfl) rfl ?_
  refine Ze (Zc (Zi ?_))
  refine Zt [false,false,true,true,true,false,true,true,true,true,false,false,true,true,true,true,true,true,true,true,true,true,true,true,true,true,true] (env' := u27) rfl ?_
  refine Zy (fun (k : Nat) => l.length - k) (fun (k : Nat) => [(11, iI (k : Nat))]) (fun (k : Nat) G => (k ≤ l.length) ∧ G = H ++ [.cells ((mskT l t k).map iW) true]) 0 rfl ?_ ?_
  · refine ⟨?_, (by rw [mskT_0]; rfl)⟩
    exact Nat.zero_le _
  rintro k _ ⟨hk, rfl⟩
  refine ZM (env' := u27) rfl ?_
  refine Zd (Za ?_)
  refine Zr (env' := u27) rfl rfl (rfl) rfl ?_
  refine Ze (Zc (Zd ?_))
  refine Zk _ rfl (fun hc1 => ?_) (fun hc1 => ?_)
  · try simp only [decide_eq_true_eq, decide_eq_false_iff_not, Bool.not_eq_true', Bool.not_eq_false', bne_iff_ne, beq_iff_eq, Bool.and_eq_true, Bool.or_eq_true, Bool.not_eq_true, ge_iff_le, gt_iff_lt, Int.not_le, Int.not_lt, beq_eq_false_iff_ne, bne_eq_false_iff_eq, ne_eq, Decidable.not_not, ZX, Yc, Ya] at hc1
    refine Zj (Zc (Zd (Zi (Zd (Za ?_)))))
    refine Zr (env' := u27) rfl rfl (Zb (.inl rfl) rfl) rfl ?_
    refine Zr (env' := u27) rfl rfl (Zb (.inr rfl) rfl) rfl ?_
    refine Ze (Zc (Za ?_))
    refine Zr (env' := u27) rfl rfl (Zb (.inl rfl) rfl) rfl ?_
    refine Zr (env' := u27) rfl rfl (Zb (.inl rfl) rfl) rfl ?_
    refine Zr (env' := u27) rfl rfl XH41 rfl ?_
    refine Zr (env' := u27) rfl rfl (by first | exact v_loadF rfl rfl rfl rfl (by first | exact fget0 (α := BitVec 64) 0 (by rw [mskT_len]; omega) | rfl) | exact v_load rfl rfl rfl rfl XH8 (by first | exact fget0 (α := BitVec 64) 0 (by rw [mskT_len]; omega) | rfl)) rfl ?_
    refine Zr (env' := u27) rfl rfl (Zb (.inl rfl) rfl) rfl ?_
    refine Zr (env' := u27) rfl rfl (v_andNotW rfl rfl rfl) rfl ?_
    refine Zr (env' := u27) rfl rfl XH41 rfl ?_
    refine Zr (env' := u27) rfl rfl (Z0 rfl rfl rfl rfl rfl rfl rfl XH8 (by first | (simp [mskT_len]; done) | (simp [mskT_len]; omega)) (by exact (ZO rfl).trans (by rw [splice_w (by rw [mskT_len]; omega)]))) rfl ?_
    refine Ze (Zs (Zc (Za ?_)))
    refine Zr (env' := u27) rfl rfl (YX rfl rfl rfl XH2) rfl ?_
    refine Zr (env' := u27) rfl rfl (Zb (.inl rfl) rfl) rfl ?_
    refine Ze ?_
    have hE : (mskT l t k).set (k : Int).toNat ((mskT l t k).getD (k : Int).toNat 0 &&& ~~~t) = mskT l t (k + 1) := by rw [Int.toNat_natCast, mskT_get (by omega), mskT_set (by omega)]
    refine Zu [false,false,true,true,true,false,true,true,true,true,false,false,true,true,true,true,true,true,true,true,true,true,true,true,true,true,true] (env' := u27) rfl ⟨k + 1, ?_, rfl, ?_⟩
    · first | omega | (simp only []; omega)
    · exact ⟨by omega, by rw [← hE]; rfl⟩
  · try simp only [decide_eq_true_eq, decide_eq_false_iff_not, Bool.not_eq_true', Bool.not_eq_false', bne_iff_ne, beq_iff_eq, Bool.and_eq_true, Bool.or_eq_true, Bool.not_eq_true, ge_iff_le, gt_iff_lt, Int.not_le, Int.not_lt, beq_eq_false_iff_ne, bne_eq_false_iff_eq, ne_eq, Decidable.not_not, ZX, Yc, Ya] at hc1
    refine ZB (ZD (Zv (ZA (Zc (Zd ?_)))))
    obtain rfl : k = l.length := by omega
    rw [mskT_all]
    refine Za ?_
    refine Zr (env' := u27) rfl rfl (Zb (.inl rfl) rfl) rfl ?_
    refine L_gh (Gh.freezeL (l := (msk l t).map iW) 22 0 rfl rfl (by rw [show l.length * 1 = (msk l t).length * 1 by rw [Ye]]; exact mapW_all) (Nat.le_refl _) rfl) ?_
    refine Zp rfl rfl rfl (by exact size_m _ _ _ (by rw [Ye]) (by rw [Ye]; omega)) ?_
    rintro _ _ ⟨rfl, rfl⟩
    refine L_env (env' := u27) rfl ?_
    refine Zr (env' := u27) rfl rfl (Zb (.inl rfl) rfl) rfl ?_
    refine Zr (env' := u27) rfl rfl (rfl) rfl ?_
    refine Zr (env' := u27) rfl rfl (rfl) rfl ?_
    refine Zr (env' := u27) rfl rfl (Zb (.inr rfl) rfl) rfl ?_
    refine Ze (Zc (Zl ?_))
    refine YA (.inr rfl) (Zh rfl rfl) XH11 XH14 ?_
    exact ⟨by unfold Yp; rw [beq_nat], rfl⟩
end MM
open Go Go.V Go.RowKit
abbrev u43 {a0 a1 a2 a3 a4 a5 a6 a7 a8 a9 a10 a11 a12 a13 a14 a15 a16 a17 a18 a19 a20 a21 a22 a23 a24 a25 a26 a27 a28 a29 a30 a31 a32 a33 a34 a35 a36 a37 a38 a39 a40 a41 a42 : VVal} : VEnv := a0 :: a1 :: a2 :: a3 :: a4 :: a5 :: a6 :: a7 :: a8 :: a9 :: a10 :: a11 :: a12 :: a13 :: a14 :: a15 :: a16 :: a17 :: a18 :: a19 :: a20 :: a21 :: a22 :: a23 :: a24 :: a25 :: a26 :: a27 :: a28 :: a29 :: a30 :: a31 :: a32 :: a33 :: a34 :: a35 :: a36 :: a37 :: a38 :: a39 :: a40 :: a41 :: a42 :: []
namespace MM
theorem full_spec {x : SW} (H : Zf) (l : List (BitVec 64)) (t : BitVec 64) (hl : l.length ≤ 1000000) : F (psys x) 102 [fzW l, iW t] H fun v G => v = .bool (Yp l t) ∧ G = H := by
  by_cases h : l = []
  · subst h; exact full_0 H t
  · exact full_c H l t h hl
theorem del_cells {l : List (BitVec 64)} {i : Nat} (hi : i < l.length) : ZH (ZH (l.map iW) i ((l.map iW).drop (i + 1))) (0 + (l.length - 1)) (ZG [VVal.int .u64 0] (l.length - (l.length - 1))) = (l.eraseIdx i ++ [0#64]).map iW := by
  rw [show l.length - (l.length - 1) = 1 by omega, show 0 + (l.length - 1) = l.length - 1 by omega]
  have hlen : ((l.eraseIdx i).map iW).length = l.length - 1 := by rw [List.length_map, List.length_eraseIdx_of_lt hi]
  have h1 : ZH (l.map iW) i ((l.map iW).drop (i + 1)) = (l.eraseIdx i).map iW ++ (l.map iW).drop (l.length - 1) := by
    unfold ZH
    rw [List.length_drop, List.length_map, show i + (l.length - (i + 1)) = l.length - 1 by omega, List.eraseIdx_eq_take_drop_succ, List.map_append, List.map_take, List.map_drop]
  rw [h1]
  unfold ZH
  rw [List.take_append_of_le_length (by omega), List.take_of_length_le (by omega), List.drop_of_length_le (by
    rw [List.length_append, hlen, List.length_drop, List.length_map]
    show _ ≤ l.length - 1 + 1
    omega), List.append_nil, List.map_append]
  rfl
theorem erase_all {l : List (BitVec 64)} {i : Nat} : Zx ((l.eraseIdx i ++ [0#64]).map iW) 0 ((l.eraseIdx i).length * 1) = some ((l.eraseIdx i).map iW) := by
  unfold Zx
  rw [if_pos (by rw [List.length_map, List.length_append]; omega), List.drop_zero, List.map_append, List.take_append_of_le_length XH20, List.take_of_length_le XH20]
theorem Delete_spec {x : SW} (H : Zf) (p : Nat) (l : List (BitVec 64)) (i : Nat) (ex : Bool) (hp : H[p]? = some (.cells (l.map iW) true)) (hi : i < l.length) (hl : l.length ≤ 1000000) : F (psys x) 98 [.slice (some (p, 0)) l.length l.length ex 1, iI (i : Nat), iI ((i : Int) + 1)] H fun v G => v = .slice (some (p, 0)) (l.length - 1) l.length ex 1 ∧ G = H.set p (.cells ((l.eraseIdx i ++ [0#64]).map iW) true) := by
  have hpl := ZY hp
  refine Zq Tryd.func98 rfl u33 rfl ?_
  refine Zd (Za ?_)
  refine Zr (env' := u33) rfl rfl (Zg (VVal.slice none 0 0 true 0) (.inr rfl) rfl) rfl ?_
  refine Ze (Zc (Zd (Za ?_)))
  refine Zr (env' := u33) rfl rfl (Zb (.inl rfl) rfl) rfl ?_
  refine Zr (env' := u33) rfl rfl (Zb (.inl rfl) rfl) rfl ?_
  refine Zr (env' := u33) rfl rfl (Zb (.inl rfl) rfl) rfl ?_
  refine Zr (env' := u33) rfl rfl (Zb (.inl rfl) rfl) rfl ?_
  refine Zr (env' := u33) rfl rfl (rfl) rfl ?_
  refine Zr (env' := u33) rfl rfl (v_slLH (l := i) (h := i + 1) (m := l.length) rfl rfl rfl rfl rfl rfl (vb_lhm (l := i) (h := i + 1) (m := l.length) (len := l.length) (cap := l.length) (by omega) (by omega) (by omega)) rfl (Nat.le_refl _) (by omega)) rfl ?_
  refine Ze (Zc (Zd (Zd (Za ?_))))
  refine Zr (env' := u33) rfl rfl (Zb (.inl rfl) rfl) rfl ?_
  refine Zr (env' := u33) rfl rfl (Zb (.inl rfl) rfl) rfl ?_
  refine Zr (env' := u33) rfl rfl (v_is false rfl (by rw [beq_eq_false_iff_ne]; omega)) rfl ?_
  refine Ze (Zc ?_)
  refine Yi rfl rfl ?_
  refine Zj (Zc (Zd (Za ?_)))
  refine Zr (env' := u33) rfl rfl (Zb (.inl rfl) rfl) rfl ?_
  refine Zr (env' := u33) rfl rfl (rfl) rfl ?_
  refine Zr (env' := u33) rfl rfl (Zb (.inr rfl) rfl) rfl ?_
  refine Ze (Zc (Zd ?_))
  refine ZS [0, 1, 2, 3, 4, 5, 6, 7] #[0, 0, 3, 0, 0, 24, 63, 127] XH7 XH7 XH7 ?_
  refine Z6 (env' := u33) (c := .calm) rfl rfl rfl (Zb (.inl rfl) rfl) rfl rfl rfl ?_
  refine Z6 (env' := u33) (c := .calm) rfl rfl rfl (Zb (.inl rfl) rfl) rfl rfl rfl ?_
  refine Z6 (env' := u33) (c := .calm) rfl rfl rfl (v_val (v_slLH (l := 0) (h := i) (m := l.length) rfl rfl rfl rfl rfl rfl (vb_hi (by omega)) rfl (Nat.le_refl _) (by omega)) (show _ = VVal.slice (some (p, 0)) i l.length ex 1 by simp)) rfl rfl rfl ?_
  refine Z6 (env' := u33) (c := .calm) rfl rfl rfl (Zb (.inl rfl) rfl) rfl rfl rfl ?_
  refine Z6 (env' := u33) (c := .calm) rfl rfl rfl (Zb (.inl rfl) rfl) rfl rfl rfl ?_
  refine O_opX .calm rfl rfl rfl (v_slTail (l := i + 1) rfl rfl rfl rfl rfl rfl rfl (by omega) (get_out hp) (by rw [List.length_map])) rfl rfl ?_
  rintro v2 _ ⟨rfl, hsl, hsc⟩
  refine O_env (env' := u33) rfl ?_
  refine Z6 (env' := u33) (c := .turn) rfl rfl rfl (v_appIn rfl rfl rfl rfl rfl rfl rfl (get_out hp) hsl hsc (by rw [List.length_drop, List.length_map]) (by rw [← List.map_drop]; exact mapW_one _) (by show (i + (l.length - (i + 1))) * 8 ≤ _ ∧ _; omega) (by omega) XH20) rfl rfl rfl ?_
  refine Z6 (env' := u33) (c := .calm) rfl rfl rfl (Zb (.inr rfl) rfl) rfl rfl rfl ?_
  refine ZU [] XH7 (trivial) ?_
  refine Zc (Zd ?_)
  rw [Yx hpl, show i + (l.length - (i + 1)) = l.length - 1 by omega]
  refine Za ?_
  refine Zr (env' := u33) rfl rfl (Zb (.inl rfl) rfl) rfl ?_
  refine Zr (env' := u33) rfl rfl (Zb (.inl rfl) rfl) rfl ?_
  refine Zr (env' := u33) rfl rfl (rfl) rfl ?_
  refine Zr (env' := u33) rfl rfl (Zb (.inl rfl) rfl) rfl ?_
  refine Zr (env' := u33) rfl rfl (v_slLH (l := l.length - 1) (h := l.length) (m := l.length) rfl rfl rfl rfl rfl rfl (vb_lh (by omega) (Nat.le_refl _)) rfl (by omega) (by omega)) rfl ?_
  refine Zr (env' := u33) rfl rfl (v_clear1 rfl rfl rfl rfl rfl rfl rfl (get_out (List.getElem?_set_self hpl)) (by unfold ZH; simp; omega)) rfl ?_
  refine L_heap (H' := H.set p (.cells ((l.eraseIdx i ++ [0#64]).map iW) true) ++ []) (by rw [Yx (by rw [List.length_set]; exact hpl), List.set_set]; exact congrArg (fun c => H.set p (.cells c true) ++ []) (del_cells hi)) ?_
  refine Ze (Zc (Zd (Za ?_)))
  refine Zr (env' := u33) rfl rfl (Zb (.inl rfl) rfl) rfl ?_
  refine Zr (env' := u33) rfl rfl (Zb (.inr rfl) rfl) rfl ?_
  refine Ze (Zc (Zl ?_))
  refine YA (.inr rfl) (Zh rfl rfl) (by exact BaseOk.set (BaseOk.refl _) _ (YC _ _)) XH14 ?_
  exact ⟨rfl, rfl⟩
theorem Del_at {x : SW} (H : Zf) (l : List (BitVec 64)) (i : Nat) (ex : Bool) (hi : i < l.length) (hl : l.length ≤ 1000000) : F (psys x) 98 [.slice (some (H.length + 0, 0)) l.length l.length ex 1, iI (i : Nat), iI ((i : Int) + 1)] (H ++ [.cells (l.map iW) true]) fun v G => v = fzW (l.eraseIdx i) ∧ G = H ++ [.dead] := by
  refine F.gh (Delete_spec (H ++ [.cells (l.map iW) true]) (H.length + 0) l i ex (ZL rfl rfl) hi hl) fun v G h => ?_
  obtain ⟨rfl, rfl⟩ := h
  refine ⟨fzW (l.eraseIdx i), H ++ [.dead], ?_, rfl, rfl⟩
  rw [ZO rfl, show l.length - 1 = (l.eraseIdx i).length by rw [List.length_eraseIdx_of_lt hi]]
  exact Gh.freezeL 0 0 rfl rfl erase_all (by rw [List.length_eraseIdx_of_lt hi]; omega) rfl
theorem Del_atI {x : SW} (H : Zf) (l : List (BitVec 64)) (i : Int) (ex : Bool) (h0 : 0 ≤ i) (hi : i < l.length) (hl : l.length ≤ 1000000) : F (psys x) 98 [.slice (some (H.length + 0, 0)) l.length l.length ex 1, iI i, iI (i + 1)] (H ++ [.cells (l.map iW) true]) fun v G => v = fzW (l.eraseIdx i.toNat) ∧ G = H ++ [.dead] := by
  have := Del_at (x := x) H l i.toNat ex (by omega) hl
  rw [show ((i.toNat : Nat) : Int) = i by omega] at this
  exact this
def freeV (l : List (BitVec 64)) (i : Int) : BitVec 64 := if l.length ≤ 12 ∧ 0 ≤ i ∧ i < l.length then frW l i.toNat else 0#64
theorem Free_spec {x : SW} (H : Zf) (l : List (BitVec 64)) (i : Int) (hl : l.length ≤ 1000000) : F (psys x) 61 [fzW l, iI i] H fun v G => v = iW (freeV l i) ∧ G = H := by
  refine Zq Tryd.func61 rfl u43 rfl ?_
  refine Zd (Za ?_)
  refine Zr (env' := u43) rfl rfl (Zg (VVal.int .u64 0) (.inr rfl) rfl) rfl ?_
  refine Ze (Zc (Zd (Zd (Za ?_))))
  refine Zr (env' := u43) rfl rfl (Zb (.inl rfl) rfl) rfl ?_
  refine Zp rfl rfl rfl (by exact fits_spec _ _) ?_
  rintro _ _ ⟨rfl, rfl⟩
  refine L_env (env' := u43) rfl ?_
  refine Zr (env' := u43) rfl rfl (rfl) rfl ?_
  refine Zr (env' := u43) rfl rfl (Zb (.inl rfl) rfl) rfl ?_
  refine ZE 11 (env1 := u43) (env2 := u43) rfl rfl rfl (fun hg1 => ?_) (fun hg1 => ?_)
  · try simp only [decide_eq_true_eq, decide_eq_false_iff_not, Bool.not_eq_true', Bool.not_eq_false', bne_iff_ne, beq_iff_eq, Bool.and_eq_true, Bool.or_eq_true, Bool.not_eq_true, ge_iff_le, gt_iff_lt, Int.not_le, Int.not_lt, beq_eq_false_iff_ne, bne_eq_false_iff_eq, ne_eq, Decidable.not_not, ZX, Yc, Ya] at hg1
    refine L_off (env' := u43) rfl rfl ?_
    refine L_off (env' := u43) rfl rfl ?_
    refine Zr (env' := u43) rfl rfl (ZK (VVal.bool true) rfl rfl rfl) rfl ?_
    refine Zr (env' := u43) rfl rfl (Zb (.inl rfl) rfl) rfl ?_
    refine L_off (env' := u43) rfl rfl ?_
    refine L_off (env' := u43) rfl rfl ?_
    refine L_off (env' := u43) rfl rfl ?_
    refine L_off (env' := u43) rfl rfl ?_
    refine Zr (env' := u43) rfl rfl (ZK (VVal.bool true) rfl rfl rfl) rfl ?_
    refine Ze (Zc ?_)
    refine ZP rfl rfl ?_
    refine Zd (Za ?_)
    refine Zr (env' := u43) rfl rfl (Zg (VVal.int .u64 0) (.inr rfl) rfl) rfl ?_
    refine Ze (Zc (Zl (Zm ?_)))
    refine YA (.inr rfl) (Zh rfl rfl) XH11 XH14 ?_
    first
      | exact ⟨by rw [freeV, if_neg (by omega)]; rfl, rfl⟩
      | exact ⟨by rw [freeV, if_pos (by omega)]; rfl, rfl⟩
  · try simp only [decide_eq_true_eq, decide_eq_false_iff_not, Bool.not_eq_true', Bool.not_eq_false', bne_iff_ne, beq_iff_eq, Bool.and_eq_true, Bool.or_eq_true, Bool.not_eq_true, ge_iff_le, gt_iff_lt, Int.not_le, Int.not_lt, beq_eq_false_iff_ne, bne_eq_false_iff_eq, ne_eq, Decidable.not_not, ZX, Yc, Ya] at hg1
    refine Zr (env' := u43) rfl rfl (Zb (.inl rfl) rfl) rfl ?_
    refine Zr (env' := u43) rfl rfl (rfl) rfl ?_
    refine Zr (env' := u43) rfl rfl (ZT rfl rfl rfl) rfl ?_
    refine Zr (env' := u43) rfl rfl (Zb (.inl rfl) rfl) rfl ?_
    refine ZE 15 (env1 := u43) (env2 := u43) rfl rfl rfl (fun hg2 => ?_) (fun hg2 => ?_)
    · try simp only [decide_eq_true_eq, decide_eq_false_iff_not, Bool.not_eq_true', Bool.not_eq_false', bne_iff_ne, beq_iff_eq, Bool.and_eq_true, Bool.or_eq_true, Bool.not_eq_true, ge_iff_le, gt_iff_lt, Int.not_le, Int.not_lt, beq_eq_false_iff_ne, bne_eq_false_iff_eq, ne_eq, Decidable.not_not, ZX, Yc, Ya] at hg2
      refine L_off (env' := u43) rfl rfl ?_
      refine L_off (env' := u43) rfl rfl ?_
      refine L_off (env' := u43) rfl rfl ?_
      refine L_off (env' := u43) rfl rfl ?_
      refine Zr (env' := u43) rfl rfl (ZK (VVal.bool true) rfl rfl rfl) rfl ?_
      refine Ze (Zc ?_)
      refine ZP rfl rfl ?_
      refine Zd (Za ?_)
      refine Zr (env' := u43) rfl rfl (Zg (VVal.int .u64 0) (.inr rfl) rfl) rfl ?_
      refine Ze (Zc (Zl (Zm ?_)))
      refine YA (.inr rfl) (Zh rfl rfl) XH11 XH14 ?_
      first
        | exact ⟨by rw [freeV, if_neg (by omega)]; rfl, rfl⟩
        | exact ⟨by rw [freeV, if_pos (by omega)]; rfl, rfl⟩
    · try simp only [decide_eq_true_eq, decide_eq_false_iff_not, Bool.not_eq_true', Bool.not_eq_false', bne_iff_ne, beq_iff_eq, Bool.and_eq_true, Bool.or_eq_true, Bool.not_eq_true, ge_iff_le, gt_iff_lt, Int.not_le, Int.not_lt, beq_eq_false_iff_ne, bne_eq_false_iff_eq, ne_eq, Decidable.not_not, ZX, Yc, Ya] at hg2
      refine Zr (env' := u43) rfl rfl (Zb (.inl rfl) rfl) rfl ?_
      refine Zr (env' := u43) rfl rfl (Zb (.inl rfl) rfl) rfl ?_
      refine Zr (env' := u43) rfl rfl (rfl) rfl ?_
      refine Zr (env' := u43) rfl rfl (rfl) rfl ?_
      refine Zr (env' := u43) rfl rfl (ZT rfl rfl rfl) rfl ?_
      refine Ze (Zc ?_)
      refine Zk _ rfl (fun hc3 => ?_) (fun hc3 => ?_)
      · try simp only [decide_eq_true_eq, decide_eq_false_iff_not, Bool.not_eq_true', Bool.not_eq_false', bne_iff_ne, beq_iff_eq, Bool.and_eq_true, Bool.or_eq_true, Bool.not_eq_true, ge_iff_le, gt_iff_lt, Int.not_le, Int.not_lt, beq_eq_false_iff_ne, bne_eq_false_iff_eq, ne_eq, Decidable.not_not, ZX, Yc, Ya] at hc3
        refine Zd (Za ?_)
        refine Zr (env' := u43) rfl rfl (Zg (VVal.int .u64 0) (.inr rfl) rfl) rfl ?_
        refine Ze (Zc (Zl (Zm ?_)))
        refine YA (.inr rfl) (Zh rfl rfl) XH11 XH14 ?_
        first
          | exact ⟨by rw [freeV, if_neg (by omega)]; rfl, rfl⟩
          | exact ⟨by rw [freeV, if_pos (by omega)]; rfl, rfl⟩
      · try simp only [decide_eq_true_eq, decide_eq_false_iff_not, Bool.not_eq_true', Bool.not_eq_false', bne_iff_ne, beq_iff_eq, Bool.and_eq_true, Bool.or_eq_true, Bool.not_eq_true, ge_iff_le, gt_iff_lt, Int.not_le, Int.not_lt, beq_eq_false_iff_ne, bne_eq_false_iff_eq, ne_eq, Decidable.not_not, ZX, Yc, Ya] at hc3
        refine Zj (Zc (Zd (Za ?_)))
        have hne : l ≠ [] := fun e => by have h9 := congrArg List.length e; simp only [List.length_nil] at h9; omega
        refine Zr (env' := u43) rfl rfl (Zb (.inl rfl) rfl) rfl ?_
        refine Zp rfl rfl rfl (by exact Clone_L _ _ _ hne hl) ?_
        rintro _ _ ⟨rfl, rfl⟩
        refine L_env (env' := u43) rfl ?_
        refine Zr (env' := u43) rfl rfl (Zb (.inl rfl) rfl) rfl ?_
        refine Zr (env' := u43) rfl rfl (Zb (.inl rfl) rfl) rfl ?_
        refine Zr (env' := u43) rfl rfl (YX rfl rfl rfl XH2) rfl ?_
        refine Zp rfl rfl rfl (by exact Del_atI _ _ i _ (by omega) (by omega) hl) ?_
        rintro _ _ ⟨rfl, rfl⟩
        refine L_env (env' := u43) rfl ?_
        refine Zr (env' := u43) rfl rfl (ZR rfl rfl) rfl ?_
        refine Zr (env' := u43) rfl rfl (ZR rfl rfl) rfl ?_
        refine Zr (env' := u43) rfl rfl (Z0 rfl rfl rfl rfl rfl rfl rfl XH8 XH6 XH22) rfl ?_
        refine Zr (env' := u43) rfl rfl (Yg (VVal.int .u64 0) rfl rfl rfl rfl rfl rfl rfl XH8 XH6 XH22) rfl ?_
        refine Ze (Zc (Zd (Zd (Za ?_))))
        refine Zr (env' := u43) rfl rfl (Zb (.inl rfl) rfl) rfl ?_
        refine Zr (env' := u43) rfl rfl (Zb (.inl rfl) rfl) rfl ?_
        refine Zr (env' := u43) rfl rfl XH41 rfl ?_
        refine Zr (env' := u43) rfl rfl XH42 rfl ?_
        refine Zp rfl rfl rfl (by exact mset_spec _ _) ?_
        rintro _ _ ⟨rfl, rfl⟩
        refine L_env (env' := u43) rfl ?_
        refine Zp rfl rfl rfl (by exact All_spec _ _) ?_
        rintro _ _ ⟨rfl, rfl⟩
        refine L_env (env' := u43) rfl ?_
        refine Ze (Zc (Zi ?_))
        refine Zt [true,true,true,true,true,false,false,true,true,true,true,true,true,true,true,true,true,true,true,true,true,true,true,true,true,true,true,true,true,true,true,true,false,true,true,true,true,true,true,true,true,true,true] (env' := u43) rfl ?_
        refine B_rangeM cI (pl (l.getD i.toNat 0) 0) (fun l0 h => by cases h) rfl (fun l G R h => All1_spec _ _ _ _ h) (σ := BitVec 64) (fun k s => H ++ [.dead, .cells [fzW (l.eraseIdx i.toNat)] true, .cells [iW s] true, k]) 0#64 (fun k => by rw [List.append_assoc]; rfl) (fun k s => by rw [List.length_append]; exact ZL rfl rfl) (fun k k1 s => by rw [List.length_append]; exact ZO rfl) (fun pre s => s = frF l i.toNat pre) ?_ (fun j pre c s => False) rfl ?_ ?_ ?_
        · rfl
        · intro pre c post s hx hI kr kb hkr hkb
          try dsimp only at hI ⊢
          subst hI
          have hc : c ∈ pl (l.getD i.toNat 0) 0 := by rw [hx]; simp
          obtain ⟨_, hc64, hcb⟩ := mem_pl.1 hc
          refine ZM (env' := u43) rfl ?_
          refine Za ?_
          refine Zr (env' := u43) rfl rfl (Zb (.inr rfl) rfl) rfl ?_
          refine Ze ?_
          refine ⟨rfl, (frF l i.toNat pre), rfl, ?_⟩
          try dsimp only
          refine Zi (Zd ?_)
          refine ZS [0, 1, 2, 3] #[0, 0, 2, 7] XH7 XH7 XH7 ?_
          refine Z6 (env' := u43) (c := .look) rfl rfl rfl XH42 rfl rfl rfl ?_
          refine Z6 (env' := u43) (c := .calm) rfl rfl rfl (Zb (.inl rfl) rfl) rfl rfl rfl ?_
          refine Z6 (env' := u43) (c := .calm) rfl rfl rfl (v_shl1 rfl rfl rfl XH2) rfl rfl rfl ?_
          refine Yj (env' := u43) rfl rfl rfl rfl rfl (by exact full_spec _ _ _ (by first | assumption | (rw [List.length_eraseIdx_of_lt (by omega)]; omega))) XH9 rfl rfl ?_
          refine ZU [] XH7 (trivial) ?_
          refine Zc ?_
          refine Zk _ rfl (fun hc4 => ?_) (fun hc4 => ?_)
          · try simp only [decide_eq_true_eq, decide_eq_false_iff_not, Bool.not_eq_true', Bool.not_eq_false', bne_iff_ne, beq_iff_eq, Bool.and_eq_true, Bool.or_eq_true, Bool.not_eq_true, ge_iff_le, gt_iff_lt, Int.not_le, Int.not_lt, beq_eq_false_iff_ne, bne_eq_false_iff_eq, ne_eq, Decidable.not_not, ZX, Yc, Ya] at hc4
            refine ZS [0, 1, 2, 3, 4] #[0, 0, 2, 7, 15] XH7 XH7 XH7 ?_
            refine Z6 (env' := u43) (c := .look) rfl rfl rfl XH42 rfl rfl rfl ?_
            refine Z6 (env' := u43) (c := .calm) rfl rfl rfl (Zb (.inl rfl) rfl) rfl rfl rfl ?_
            refine Z6 (env' := u43) (c := .calm) rfl rfl rfl (v_shl1 rfl rfl rfl XH2) rfl rfl rfl ?_
            refine Z6 (env' := u43) (c := .calm) rfl rfl rfl (v_orW rfl rfl rfl) rfl rfl rfl ?_
            refine Z6 (env' := u43) (c := .turn) rfl rfl rfl (Z0 rfl rfl rfl rfl rfl rfl rfl XH8 XH6 XH22) rfl rfl rfl ?_
            refine ZU [] XH7 (trivial) ?_
            refine Zs ?_
            refine ⟨_, rfl, .inl ⟨rfl, ?_⟩⟩
            rw [frF_snoc]
            first
              | rw [if_pos (by assumption)]; rfl
              | rw [if_neg (Ys (by assumption))]
          · try simp only [decide_eq_true_eq, decide_eq_false_iff_not, Bool.not_eq_true', Bool.not_eq_false', bne_iff_ne, beq_iff_eq, Bool.and_eq_true, Bool.or_eq_true, Bool.not_eq_true, ge_iff_le, gt_iff_lt, Int.not_le, Int.not_lt, beq_eq_false_iff_ne, bne_eq_false_iff_eq, ne_eq, Decidable.not_not, ZX, Yc, Ya] at hc4
            refine Zj (Zs ?_)
            refine ⟨_, rfl, .inl ⟨rfl, ?_⟩⟩
            rw [frF_snoc]
            first
              | rw [if_pos (by assumption)]; rfl
              | rw [if_neg (Ys (by assumption))]
        · intro s k hk hI
          try dsimp only at hI ⊢
          subst hI
          refine Zs (Zc (Zd (Za ?_)))
          refine Zr (env' := u43) rfl rfl XH42 rfl ?_
          refine Zr (env' := u43) rfl rfl (Zb (.inr rfl) rfl) rfl ?_
          refine Ze (Zc (Zl ?_))
          refine YA (.inr rfl) (Zh rfl rfl) XH11 XH14 ?_
          first
            | exact ⟨by rw [freeV, if_neg (by omega)]; rfl, rfl⟩
            | exact ⟨by rw [freeV, if_pos (by omega)]; rfl, rfl⟩
        · rintro j pre c post s k hk hx ⟨⟩
end MM
end Go.Proofs.YtenkjadobkjaeaaDoor.VT
