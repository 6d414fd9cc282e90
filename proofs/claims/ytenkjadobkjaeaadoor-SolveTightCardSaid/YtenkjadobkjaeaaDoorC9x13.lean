/- Proved: Rows.SolveTightCardSaid, the statement SolveTight with its card, of the given program at the commit; no conditions beyond those in the statement. -/
import Derived.Test.YtenkjadobkjaeaaDoorC9x12
set_option autoImplicit false
set_option linter.unusedVariables false
set_option linter.unusedSimpArgs false
set_option maxHeartbeats 4000000
set_option maxRecDepth 100000
namespace Go.Proofs.YtenkjadobkjaeaaDoor.VT
open Go Go.V Go.RowKit
abbrev u44 {a0 a1 a2 a3 a4 a5 a6 a7 a8 a9 a10 a11 a12 a13 a14 a15 a16 a17 a18 a19 a20 a21 a22 a23 a24 a25 a26 a27 a28 a29 a30 a31 a32 a33 a34 a35 a36 a37 a38 a39 a40 a41 a42 a43 : VVal} : VEnv := a0 :: a1 :: a2 :: a3 :: a4 :: a5 :: a6 :: a7 :: a8 :: a9 :: a10 :: a11 :: a12 :: a13 :: a14 :: a15 :: a16 :: a17 :: a18 :: a19 :: a20 :: a21 :: a22 :: a23 :: a24 :: a25 :: a26 :: a27 :: a28 :: a29 :: a30 :: a31 :: a32 :: a33 :: a34 :: a35 :: a36 :: a37 :: a38 :: a39 :: a40 :: a41 :: a42 :: a43 :: []
theorem W2r {T : TypeId → Option VTy} {H : Zc} {op : Op} {ρ : Operand → VVal} {t : TypeId} {a : Operand} {y : VTy} {p v : VVal} (ho : op = .load t a) (ha : ρ a = p) (hy : T t = some y) (hd : Zj y.desc = false) (h : LdOk H p v := by first | exact .inl ⟨_, _, rfl, by first | rfl | assumption | exact fgetN (α := Nat) 0 (by omega) | exact fgetN (α := BitVec 64) 0 (by omega)⟩ | exact .inr ⟨_, _, _, _, rfl, XH28, by first | rfl | assumption | exact fgetN (α := Nat) 0 (by omega) | exact fgetN (α := BitVec 64) 0 (by omega)⟩) : vop T ρ H op = some (v, H) := v_ld ho ha hy hd h
theorem W2t {T : TypeId → Option VTy} {H : Zc} {op : Op} {ρ : Operand → VVal} {t : TypeId} {a : Operand} {y : VTy} {p v : VVal} (ho : op = .load t a) (ha : ρ a = p) (hy : T t = some y) (hd : Zj y.desc = false) (h : LdOk H p v := by first | exact .inl ⟨_, _, rfl, by exact fget0N (f := iW) (l := ZQ ws a k) (k := a.getD k 0) 0 hlt⟩ | exact .inr ⟨_, _, _, _, rfl, by exact Zx rfl hbX, by exact fget0N (f := iW) (l := ZQ ws a k) (k := a.getD k 0) 0 hlt⟩) : vop T ρ H op = some (v, H) := v_ld ho ha hy hd h
theorem W2u {T : TypeId → Option VTy} {H : Zc} {op : Op} {ρ : VEnv} {H' : Zc} {t : TypeId} {a : Operand} {i : Nat} {v : VVal} {y : VTy} {b off : Nat} {cs new : List VVal} (ho : op = .store t a (.tmp i)) (hv : ρ[i]? = some v) (ha : ρ.eval a = .ptr (some (b, off))) (hy : T t = some y) (hx : v.cells = some new) (hn : new.length = y.size) (h1 : new.all VVal.one = true) (hb : H[b]? = some (.cells cs true) := by exact XH28) (hl : off + new.length ≤ cs.length := by show 0 + ((a.getD k 0 : Nat) : Int).toNat * 1 + 1 ≤ (List.map iW (ZQ ws a k)).length; rw [List.length_map]; omega) (hH : H.set b (.cells (Zv cs off new) true) = H' := by exact (ZP rfl).trans (by show H ++ X.set b (VBlk.cells (Zv ((ZQ ws a k).map iW) (0 + ((a.getD k 0 : Nat) : Int).toNat * 1) [_]) true) = _; rw [Int.toNat_natCast, spl_w hlt])) : vop T ρ.eval H op = some (.skip, H') := ZX ho hv ha hy hx hn h1 hb hl hH
theorem hfull_spec {x : SW} {u : Int} {ws rs : VVal} (H : Zc) (y : Nat) (g : Gz) (hs : H[y]? = some (gaB g)) (l : List (BitVec 64)) (t : BitVec 64) (hl : l.length ≤ 1000000) : F (psys x) 87 [huP u ws rs y, fzW l, iW t] H fun v G => v = .bool (Yf l t) ∧ G = H.set y (gaB (g + fuG l t)) := by
  by_cases h : l = []
  · subst h
    refine (hfull_0 H y g hs t).mono ?_
    rintro v G ⟨rfl, rfl⟩
    exact ⟨rfl, by rw [show fuG [] t = 0 from rfl, Gz.add_zero, ← set_keep hs]⟩
  · exact hfull_c H y g hs l t h hl
theorem hBlocks_spec {x : SW} {u : Int} {rs : VVal} {y : Nat} (H : Zc) (ws : List (BitVec 64)) (a : List Nat) (ha : Pat a) (hw : a.length ≤ ws.length) (hn : ws.length ≤ 1000000) : F (psys x) 85 [huP u (fzW ws) rs y, fzN a] H fun v G => v = fzW (ZQ ws a a.length) ∧ G = H := by
 refine Zs Tryd.func85 rfl u44 rfl ?_
 refine Ze (Za ?_)
 refine Lo u44 (Zh (VVal.slice none 0 0 true 0) (.inr rfl) rfl) ?_
 refine Zf (Zd (Ze (Za ?_)))
 refine Lo u44 (Zh (VVal.slice none 0 0 true 0) (.inr rfl) rfl) ?_
 refine Zf (Zd (Ze (Ze (Za ?_))))
 refine Lo u44 (Zb (.inl rfl) rfl) ?_
 refine Lo u44 (rfl) ?_
 refine Lo u44 (Zh (VVal.int .i64 0) (.inl rfl) rfl) ?_
 refine Zf (Zd (Zn ?_))
 refine ZD (mk 44 17592186042590) (env' := u44) rfl ?_
 refine ZH (fun (⟨k, lv⟩ : Nat × VVal) => a.length - k) (fun (⟨k, lv⟩ : Nat × VVal) => [(5, lv), (10, iI (k : Nat))]) (fun (⟨k, lv⟩ : Nat × VVal) G => (k ≤ a.length) ∧ ∃ X, G = H ++ X ∧ LV H.length 1 X lv ((ZQ ws a k).map iW) (ZQ ws a k).length) ⟨0, _⟩ rfl ?_ ?_
 ·refine ⟨?_, ⟨_, rfl, LV.nil _ _ _⟩⟩
  exact Nat.zero_le _
 rintro ⟨k, lv⟩ _ ⟨hk, ⟨X, rfl, hl⟩⟩
 refine Z4 (env' := u44) rfl ?_
 refine Ze (Za ?_)
 refine Lo u44 (rfl) ?_
 refine Zf (Zd (Ze ?_))
 refine Zp _ rfl (fun hc1 => ?_) (fun hc1 => ?_)
 ·try simp only [qB, qN] at hc1
  refine Zo (Zd (Ze (Zn (Ze (Za ?_)))))
  refine Lo u44 (Zb (.inl rfl) rfl) ?_
  refine Lo u44 (W18 rfl rfl rfl rfl rfl rfl rfl) ?_
  refine Lo u44 (W2r rfl rfl rfl rfl) ?_
  refine Lo u44 (Zb (.inr rfl) rfl) ?_
  refine Lo u44 (Zb (.inr rfl) rfl) ?_
  refine Zf (Zd (Ze (Za ?_)))
  refine Lo u44 (Zb (.inl rfl) rfl) ?_
  refine Lo u44 (Zb (.inl rfl) rfl) ?_
  refine Lo u44 (v_len rfl rfl rfl rfl hl) ?_
  refine Lo u44 (rfl) ?_
  refine Zf (Zd ?_)
  refine Zp _ rfl (fun hc2 => ?_) (fun hc2 => ?_)
  ·try simp only [qB, qN] at hc2
   refine Za ?_
   refine Lo u44 (Zb (.inl rfl) rfl) ?_
   refine Lo u44 (Zb (.inl rfl) rfl) ?_
   refine Lo u44 (rfl) ?_
   refine Lo u44 (rfl) ?_
   refine Lo u44 (W2r rfl rfl rfl rfl) ?_
   refine Lo u44 (Zb (.inl rfl) rfl) ?_
   refine Lo u44 (W18 rfl rfl rfl rfl rfl rfl rfl) ?_
   refine Lo u44 (W2r rfl rfl rfl rfl) ?_
   refine Lo u44 (Zt rfl rfl (by decide) rfl) ?_
   refine L_opX rfl rfl (v_appX rfl rfl rfl rfl rfl rfl rfl hl rfl rfl (by decide) (by have := @Yt ws a k; have := @szP_le a k; show (_ + 1) * 8 ≤ _ ∧ _ + 1 ≤ _; omega) (by decide)) ?_
   rintro _ _ ⟨Y1, rfl, rfl, hY1, hY2, hY3⟩
   refine Le u44 ?_
   refine Lo u44 (Zb (.inr rfl) rfl) ?_
   refine Zf (ZB (Zd (Za ?_)))
   refine Lo u44 (W14 rfl rfl rfl) ?_
   refine Lo u44 (Zb (.inl rfl) rfl) ?_
   refine Zf ?_
   refine ZR (mk 44 17592186042590) (env' := u44) rfl ⟨⟨k + 1, _⟩, ?_, rfl, ?_⟩
   ·first | omega | (simp only []; omega)
   ·first | exact ⟨by omega, _, rfl, by rw [blkN_new (by assumption)]; exact LV.pushW hY3⟩ | exact ⟨by omega, _, rfl, by rw [blkN_old (by assumption), List.length_set]; exact LV.upW hl h0 (Zw hbX) (by rw [List.length_set])⟩
  ·try simp only [qB, qN] at hc2
   have hak := ha k (by omega)
   have hbl := @Yt ws a k
   have hlt : a.getD k 0 < (ZQ ws a k).length := by omega
   have h0 : 0 < (ZQ ws a k).length := by omega
   obtain ⟨b, rfl, hbX⟩ := LV.pos hl h0
   refine ZZ [0, 1, 2, 3, 4, 5, 6, 7, 8, 9, 10, 11, 12, 13] #[0, 0, 3, 7, 0, 16, 48, 112, 0, 496, 1008, 2047, 4095, 8191] XH2 XH2 XH2 ?_
   refine Oo u44 .calm rfl (Zb (.inl rfl) rfl) ?_
   refine Oo u44 .calm rfl (Zb (.inl rfl) rfl) ?_
   refine Oo u44 .calm rfl (W18 rfl rfl rfl rfl rfl rfl rfl) ?_
   refine Oo u44 .look rfl (W2t rfl rfl rfl rfl) ?_
   refine Oo u44 .calm rfl (Zb (.inl rfl) rfl) ?_
   refine Oo u44 .calm rfl (rfl) ?_
   refine Oo u44 .calm rfl (rfl) ?_
   refine Oo u44 .look rfl (W2r rfl rfl rfl rfl) ?_
   refine Oo u44 .calm rfl (Zb (.inl rfl) rfl) ?_
   refine Oo u44 .calm rfl (W18 rfl rfl rfl rfl rfl rfl rfl) ?_
   refine Oo u44 .look rfl (W2r rfl rfl rfl rfl) ?_
   refine Oo u44 .calm rfl (v_andW rfl rfl rfl) ?_
   refine Oo u44 .calm rfl (W18 rfl rfl rfl rfl rfl rfl rfl) ?_
   refine Oo u44 .turn rfl (W2u rfl rfl rfl rfl rfl rfl rfl) ?_
   refine ZU [] XH2 (trivial) ?_
   refine ZB (Zd (Za ?_))
   refine Lo u44 (W14 rfl rfl rfl) ?_
   refine Lo u44 (Zb (.inl rfl) rfl) ?_
   refine Zf ?_
   refine ZR (mk 44 17592186042590) (env' := u44) rfl ⟨⟨k + 1, _⟩, ?_, rfl, ?_⟩
   ·first | omega | (simp only []; omega)
   ·first | exact ⟨by omega, _, rfl, by rw [blkN_new (by assumption)]; exact LV.pushW hY3⟩ | exact ⟨by omega, _, rfl, by rw [blkN_old (by assumption), List.length_set]; exact LV.upW hl h0 (Zw hbX) (by rw [List.length_set])⟩
 ·try simp only [qB, qN] at hc1
  refine ZO (ZM (ZE (ZN (Zd (Ze (Za ?_))))))
  refine Lo u44 (Zb (.inl rfl) rfl) ?_
  refine Lo u44 (Zb (.inr rfl) rfl) ?_
  refine Zf (Zd (Zk ?_))
  refine E_gh (.inr rfl) (Zi rfl rfl) (Gh.ansLV (BaseOk.refl _) hl (mapW_under _ _)) ?_
  obtain rfl : k = a.length := by omega
  exact ⟨rfl, rfl⟩
abbrev u22 {a0 a1 a2 a3 a4 a5 a6 a7 a8 a9 a10 a11 a12 a13 a14 a15 a16 a17 a18 a19 a20 a21 : VVal} : VEnv := a0 :: a1 :: a2 :: a3 :: a4 :: a5 :: a6 :: a7 :: a8 :: a9 :: a10 :: a11 :: a12 :: a13 :: a14 :: a15 :: a16 :: a17 :: a18 :: a19 :: a20 :: a21 :: []
abbrev u73 {a0 a1 a2 a3 a4 a5 a6 a7 a8 a9 a10 a11 a12 a13 a14 a15 a16 a17 a18 a19 a20 a21 a22 a23 a24 a25 a26 a27 a28 a29 a30 a31 a32 a33 a34 a35 a36 a37 a38 a39 a40 a41 a42 a43 a44 a45 a46 a47 a48 a49 a50 a51 a52 a53 a54 a55 a56 a57 a58 a59 a60 a61 a62 a63 a64 a65 a66 a67 a68 a69 a70 a71 a72 : VVal} : VEnv := a0 :: a1 :: a2 :: a3 :: a4 :: a5 :: a6 :: a7 :: a8 :: a9 :: a10 :: a11 :: a12 :: a13 :: a14 :: a15 :: a16 :: a17 :: a18 :: a19 :: a20 :: a21 :: a22 :: a23 :: a24 :: a25 :: a26 :: a27 :: a28 :: a29 :: a30 :: a31 :: a32 :: a33 :: a34 :: a35 :: a36 :: a37 :: a38 :: a39 :: a40 :: a41 :: a42 :: a43 :: a44 :: a45 :: a46 :: a47 :: a48 :: a49 :: a50 :: a51 :: a52 :: a53 :: a54 :: a55 :: a56 :: a57 :: a58 :: a59 :: a60 :: a61 :: a62 :: a63 :: a64 :: a65 :: a66 :: a67 :: a68 :: a69 :: a70 :: a71 :: a72 :: []
theorem W2x {P : Prop} (h : P := by first | exact ⟨by unfold erl; rw [hck, decide_eq_true hg2]; rfl, rfl⟩ | exact ⟨by unfold erl; rw [hck, decide_eq_false (by omega)]; rfl, rfl⟩ | exact ⟨by unfold erl; rw [hck]; rfl, rfl⟩) : P := h
theorem W2y {T : TypeId → Option VTy} {H : Zc} {op : Op} {ρ : Operand → VVal} {t : TypeId} {a : Operand} {y : VTy} {p v : VVal} (ho : op = .load t a) (ha : ρ a = p) (hy : T t = some y) (hd : Zj y.desc = false) (h : LdOk H p v := by first | exact .inl ⟨_, _, rfl, XH34⟩ | exact .inr ⟨_, _, _, _, rfl, XH28, XH34⟩) : vop T ρ H op = some (v, H) := v_ld ho ha hy hd h
theorem W2z {T : TypeId → Option VTy} {H : Zc} {op : Op} {ρ : VEnv} {H' : Zc} {t : TypeId} {a : Operand} {i : Nat} {v : VVal} {y : VTy} {b off : Nat} {cs new : List VVal} (ho : op = .store t a (.tmp i)) (hv : ρ[i]? = some v) (ha : ρ.eval a = .ptr (some (b, off))) (hy : T t = some y) (hx : v.cells = some new) (hn : new.length = y.size) (h1 : new.all VVal.one = true) (hb : H[b]? = some (.cells cs true) := by exact XH28) (hl : off + new.length ≤ cs.length := by exact XH30) (hH : H.set b (.cells (Zv cs off new) true) = H' := by exact ga_n0 hs) : vop T ρ.eval H op = some (.skip, H') := ZX ho hv ha hy hx hn h1 hb hl hH
theorem W30 {T : TypeId → Option VTy} {H : Zc} {op : Op} {ρ : Operand → VVal} {t : TypeId} {a : Operand} {y : VTy} {p v : VVal} (ho : op = .load t a) (ha : ρ a = p) (hy : T t = some y) (hd : Zj y.desc = false) (h : LdOk H p v := by first | exact .inl ⟨_, _, rfl, XH34⟩ | exact .inr ⟨_, _, _, _, rfl, by exact get_out (List.getElem?_set_self hy), XH34⟩) : vop T ρ H op = some (v, H) := v_ld ho ha hy hd h
theorem W31 {T : TypeId → Option VTy} {H : Zc} {op : Op} {ρ : VEnv} {H' : Zc} {t : TypeId} {a : Operand} {i : Nat} {v : VVal} {y : VTy} {b off : Nat} {cs new : List VVal} (ho : op = .store t a (.tmp i)) (hv : ρ[i]? = some v) (ha : ρ.eval a = .ptr (some (b, off))) (hy : T t = some y) (hx : v.cells = some new) (hn : new.length = y.size) (h1 : new.all VVal.one = true) (hb : H[b]? = some (.cells cs true) := by exact get_out (List.getElem?_set_self hy)) (hl : off + new.length ≤ cs.length := by exact XH30) (hH : H.set b (.cells (Zv cs off new) true) = H' := by exact ga_p hy) : vop T ρ.eval H op = some (.skip, H') := ZX ho hv ha hy hx hn h1 hb hl hH
theorem W35 {P : Prop} (h : P := by first | exact ⟨by rw [(kpK_0 (u := u) (by assumption)).1], by rw [(kpK_0 (by assumption)).2]; rfl⟩ | exact ⟨by rw [(kpK_1 (u := u) (by assumption) (all_bad (k := k) (d := r0) (by omega) (by first | assumption | exact Bool.eq_false_iff.2 ‹_›))).1], by rw [(kpK_1 (by assumption) (all_bad (k := k) (d := r0) (by omega) (by first | assumption | exact Bool.eq_false_iff.2 ‹_›))).2]; rfl⟩ | exact ⟨by rw [(kpK_2 (u := u) (by assumption) (all_full (by omega) hall)).1], by rw [(kpK_2 (by assumption) (all_full (by omega) hall)).2, ← Gz.assoc]; rfl⟩) : P := h
theorem W36 {T : TypeId → Option VTy} {H : Zc} {op : Op} {ρ : Operand → VVal} {t : TypeId} {a : Operand} {y : VTy} {p v : VVal} (ho : op = .load t a) (ha : ρ a = p) (hy : T t = some y) (hd : Zj y.desc = false) (h : LdOk H p v := by first | exact .inl ⟨_, _, rfl, by exact fgetN (f := fzR) (l := rss) (k := a.length - 1) [] (by omega)⟩ | exact .inr ⟨_, _, _, _, rfl, XH28, by exact fgetN (f := fzR) (l := rss) (k := a.length - 1) [] (by omega)⟩) : vop T ρ H op = some (v, H) := v_ld ho ha hy hd h
theorem W37 {T : TypeId → Option VTy} {H : Zc} {op : Op} {ρ : Operand → VVal} {t : TypeId} {a : Operand} {y : VTy} {p : VVal} {n : Nat} {vs : List VVal} (ho : op = .load t a) (ha : ρ a = p) (hy : T t = some y) (hd : Zj y.desc = true) (hn : y.size = n) (h : LdOkA H p n vs := by first | exact .inl ⟨_, _, rfl, XH34⟩ | exact .inr ⟨_, _, _, _, rfl, XH28, XH34⟩) : vop T ρ H op = some (.agg vs, H) := v_ldA ho ha hy hd hn h
abbrev fzRR (rss : List (List Rul)) : VVal := .fsl (rss.map fzR) rss.length 1 false
theorem fzR_und (n : Nat) (l : List Rul) : (fzR l).under n = true := VVal.underL_all (n := n) (vs := l.flatMap rlB) fun v hv => by
  obtain ⟨r, _, h⟩ := List.mem_flatMap.1 hv
  simp only [List.mem_cons, List.not_mem_nil, or_false] at h
  rcases h with rfl | rfl | rfl
  · rfl
  · rfl
  · exact VVal.underL_map fun _ => rfl
theorem mapN_under (n : Nat) (l : List Nat) : VVal.underL n (l.map fun (m : Nat) => iI (m : Nat)) = true := VVal.underL_map fun _ => rfl
theorem rss_under (n : Nat) (rss : List (List Rul)) : VVal.underL n (rss.map fzR) = true := VVal.underL_map fun l => fzR_und n l
theorem huUnder {H : Zc} {y : Nat} (hy : y < H.length) (u : Int) (ws : List (BitVec 64)) (rss : List (List Rul)) : (huP u (fzW ws) (fzRR rss) y).under H.length = true := by
  show VVal.underL _ [iI u, fzW ws, fzRR rss, .ptr (some (y, 0))] = true
  simp only [VVal.underL, VVal.under, fzW_under, mapW_under, rss_under, hy, decide_true, Bool.and_true]
theorem rEarly_spec {x : SW} (H : Zc) (r : Rul) (n : Int) (l : List Int) (hl : r.steps.length ≤ 1000000) : F (psys x) 86 [.agg (rlB r), iI n, fzI l] H fun v G => v = .bool (erl r n l) ∧ G = H := by
 refine Zs Tryd.func86 rfl u22 rfl ?_
 refine Ze (Za ?_)
 refine Lo u22 (Zy rfl rfl rfl) ?_
 refine Lo u22 (Zh (VVal.bool false) (.inr rfl) rfl) ?_
 refine Zf (Zd (Ze (Za ?_)))
 refine Lo u22 (Zb (.inl rfl) rfl) ?_
 refine Lo u22 (W11 rfl rfl rfl rfl rfl) ?_
 refine Zl rfl rfl rfl (by exact rCheck_spec _ _ _ (by omega)) ?_
 rintro _ _ ⟨rfl, rfl⟩
 refine Le u22 ?_
 refine Lo u22 (rfl) ?_
 refine Lo u22 (Zb (.inl rfl) rfl) ?_
 refine ZT 11 (env1 := u22) (env2 := u22) rfl rfl rfl (fun hg1 => ?_) (fun hg1 => ?_)
 ·try simp only [qB] at hg1
  have hck : rck n r = true := rcE_eq.1 hg1
  refine Lo u22 (Zb (.inl rfl) rfl) ?_
  refine Lo u22 (rfl) ?_
  refine Lo u22 (Zb (.inl rfl) rfl) ?_
  refine Lo u22 (rfl) ?_
  refine Lo u22 (ZA rfl rfl rfl) ?_
  refine Lo u22 (Zb (.inl rfl) rfl) ?_
  refine ZT 17 (env1 := u22) (env2 := u22) rfl rfl rfl (fun hg2 => ?_) (fun hg2 => ?_)
  ·try simp only [qB] at hg2
   refine Lo u22 (W11 rfl rfl rfl rfl rfl) ?_
   refine Lo u22 (Zb (.inl rfl) rfl) ?_
   refine Zl rfl rfl rfl (by exact keeps_spec _ _ _ (rck_kind hck) (rck_pos hck) (Nat.le_trans (rck_len hck) (by decide))) ?_
   rintro _ _ ⟨rfl, rfl⟩
   refine Le u22 ?_
   refine Lo u22 (ZA rfl rfl rfl) ?_
   refine Lo u22 (Zb (.inr rfl) rfl) ?_
   refine Zf (Zd (Zk ?_))
   refine W10 (.inr rfl) (Zi rfl rfl) ?_
   exact W2x
  ·try simp only [qB] at hg2
   refine Lf u22 ?_
   refine Lf u22 ?_
   refine Lf u22 ?_
   refine Lo u22 (ZF (VVal.bool false) rfl rfl rfl) ?_
   refine Lo u22 (Zb (.inr rfl) rfl) ?_
   refine Zf (Zd (Zk ?_))
   refine W10 (.inr rfl) (Zi rfl rfl) ?_
   exact W2x
 ·try simp only [qB] at hg1
  have hck : rck n r = false := bool_f fun e => hg1 (rcE_eq.2 e)
  refine Lf u22 ?_
  refine Lf u22 ?_
  refine Lf u22 ?_
  refine Lf u22 ?_
  refine Lo u22 (ZF (VVal.bool false) rfl rfl rfl) ?_
  refine Lo u22 (Zb (.inl rfl) rfl) ?_
  refine Lf u22 ?_
  refine Lf u22 ?_
  refine Lf u22 ?_
  refine Lo u22 (ZF (VVal.bool false) rfl rfl rfl) ?_
  refine Lo u22 (Zb (.inr rfl) rfl) ?_
  refine Zf (Zd (Zk ?_))
  refine W10 (.inr rfl) (Zi rfl rfl) ?_
  exact W2x
theorem rEarlyN {x : SW} (H : Zc) (r : Rul) (n : Int) (a : List Nat) (hl : r.steps.length ≤ 1000000) : F (psys x) 86 [.agg (rlB r), iI n, fzN a] H fun v G => v = .bool (erl r n (zI a)) ∧ G = H := by
  rw [fzN_is]; exact rEarly_spec H r n (zI a) hl
theorem hKeep_spec {x : SW} {u : Nat} (H : Zc) (y : Nat) (g : Gz) (hs : H[y]? = some (gaB g)) (ws : List (BitVec 64)) (rss : List (List Rul)) (a : List Nat) (ha : Pat a) (h0 : 0 < a.length) (hw : a.length ≤ ws.length) (hn : ws.length ≤ 1000000) (hr : rss.length = ws.length) (hR : ∀ i, (rss.getD i []).length ≤ 1000000 ∧ ∀ r, r ∈ rss.getD i [] → r.steps.length ≤ 1000000) : F (psys x) 53 [huP (u : Nat) (fzW ws) (fzRR rss) y, fzN a] H fun v G => v = .bool (kpB ws rss a) ∧ G = H.set y (gaB (g + kpG u ws rss a)) := by
 have hy := Zw hs
 have hbl := @Yt ws a a.length
 have hla := ha (a.length - 1) (by omega)
 have hsl : a.getD (a.length - 1) 0 < szP a a.length := by
    obtain ⟨m, hm⟩ : ∃ m, a.length = m + 1 := ⟨a.length - 1, by omega⟩
    rw [hm] at hla ⊢; rw [szP]; rw [Nat.add_sub_cancel] at hla ⊢; split <;> omega
 have hR1 := hR (a.length - 1)
 refine Zs Tryd.func53 rfl u73 rfl ?_
 refine Ze (Za ?_)
 refine Lo u73 (Zh (VVal.bool false) (.inr rfl) rfl) ?_
 refine Zf (Zd (Ze (Za ?_)))
 refine Lo u73 (Zb (.inl rfl) rfl) ?_
 refine Lo u73 (rfl) ?_
 refine Lo u73 (rfl) ?_
 refine Lo u73 (W2y rfl rfl rfl rfl) ?_
 refine Lo u73 (rfl) ?_
 refine Lo u73 (rfl) ?_
 refine Lo u73 (W2y rfl rfl rfl rfl) ?_
 refine Lo u73 (v_addW (b := 1#64) rfl rfl rfl) ?_
 refine Lo u73 (rfl) ?_
 refine Lo u73 (rfl) ?_
 refine Lo u73 (W2z rfl rfl rfl rfl rfl rfl rfl) ?_
 refine Zf (Zd (Ze ?_))
 refine ZZ [0, 1, 2, 3, 4, 5, 6, 7, 8, 9, 10, 11, 12, 13, 14, 15] #[0, 1, 3, 7, 15, 31, 63, 0, 128, 384, 896, 1920, 4095, 8191, 16383, 32767] XH2 XH2 XH2 ?_
 refine Oo u73 .calm rfl (Zb (.inl rfl) rfl) ?_
 refine Oo u73 .calm rfl (rfl) ?_
 refine Oo u73 .calm rfl (rfl) ?_
 refine Oo u73 .look rfl (W2y rfl rfl rfl rfl) ?_
 refine Oo u73 .calm rfl (rfl) ?_
 refine Oo u73 .calm rfl (rfl) ?_
 refine Oo u73 .look rfl (W30 rfl rfl rfl rfl) ?_
 refine Oo u73 .calm rfl (Zb (.inl rfl) rfl) ?_
 refine Oo u73 .calm rfl (rfl) ?_
 refine Oo u73 .calm rfl (rfl) ?_
 refine Oo u73 .look rfl (W2y rfl rfl rfl rfl) ?_
 refine Oo u73 .calm rfl (v_cvW rfl rfl rfl rfl rfl) ?_
 refine Oo u73 .calm rfl (v_addW rfl rfl rfl) ?_
 refine Oo u73 .calm rfl (rfl) ?_
 refine Oo u73 .calm rfl (rfl) ?_
 refine Oo u73 .turn rfl (W31 rfl rfl rfl rfl rfl rfl rfl) ?_
 refine ZU [] XH2 (trivial) ?_
 refine Zd (Ze (Za ?_))
 refine Lo u73 (Zb (.inl rfl) rfl) ?_
 refine Lo u73 (Zb (.inl rfl) rfl) ?_
 refine Zl rfl rfl rfl (by exact hBlocks_spec _ _ _ ha hw hn) ?_
 rintro _ _ ⟨rfl, rfl⟩
 refine Le u73 ?_
 refine Lo u73 (Zb (.inl rfl) rfl) ?_
 refine Lo u73 (rfl) ?_
 refine Lo u73 (W2g rfl rfl rfl) ?_
 refine Lo u73 (Zb (.inr rfl) rfl) ?_
 refine Lo u73 (Zb (.inr rfl) rfl) ?_
 refine Zf (Zd (Ze (Ze ?_)))
 rw [show ((a.length : Nat) : Int) - 1 = ((a.length - 1 : Nat) : Int) by omega]
 refine Za ?_
 refine Lo u73 (Zb (.inl rfl) rfl) ?_
 refine Lo u73 (Zb (.inl rfl) rfl) ?_
 refine Lo u73 (Zb (.inl rfl) rfl) ?_
 refine Lo u73 (W18 rfl rfl rfl rfl rfl rfl rfl) ?_
 refine Lo u73 (W2y rfl rfl rfl rfl) ?_
 refine Lo u73 (W18 rfl rfl rfl rfl rfl rfl rfl) ?_
 refine Lo u73 (W2y rfl rfl rfl rfl) ?_
 refine Lo u73 (rfl) ?_
 refine Zf (Zd ?_)
 refine Zp _ rfl (fun hc1 => ?_) (fun hc1 => ?_)
 ·try simp only [qB, qN] at hc1
  refine Ze (Za ?_)
  refine Lo u73 (Zh (VVal.bool false) (.inr rfl) rfl) ?_
  refine Zf (Zd (Zk (Zq ?_)))
  refine W2o (.inr rfl) (Zi rfl rfl) ?_
  exact W35
 ·try simp only [qB, qN] at hc1
  refine Zo (Zd (Ze (Ze (Za ?_))))
  refine Lo u73 (Zb (.inl rfl) rfl) ?_
  refine Lo u73 (rfl) ?_
  refine Lo u73 (rfl) ?_
  refine Lo u73 (W2y rfl rfl rfl rfl) ?_
  refine Lo u73 (Zb (.inl rfl) rfl) ?_
  refine Lo u73 (W18 rfl rfl rfl rfl rfl rfl rfl) ?_
  refine Lo u73 (W36 rfl rfl rfl rfl) ?_
  refine Lo u73 (rfl) ?_
  refine Lo u73 (Zh (VVal.int .i64 0) (.inl rfl) rfl) ?_
  refine Zf (Zd (Zn ?_))
  refine ZD (mk 73 9444606864949724053468) (env' := u73) rfl ?_
  refine ZH (fun (k : Nat) => (rss.getD (a.length - 1) []).length - k) (fun (k : Nat) => [(56, iI (k : Nat))]) (fun (k : Nat) G => (k ≤ (rss.getD (a.length - 1) []).length ∧ ((rss.getD (a.length - 1) []).take k).all (fun r => erl r ws.length (zI a)) = true) ∧ G = H.set y (gaB (⟨g.n + 1, g.p + u, g.e⟩ : Gz)) ++ []) 0 rfl ?_ ?_
  ·refine ⟨?_, rfl⟩
   exact ⟨Nat.zero_le _, rfl⟩
  rintro k _ ⟨⟨hk, hall⟩, rfl⟩
  refine Z4 (env' := u73) rfl ?_
  refine Ze (Za ?_)
  refine Lo u73 (rfl) ?_
  refine Zf (Zd (Ze ?_))
  refine Zp _ rfl (fun hc2 => ?_) (fun hc2 => ?_)
  ·try simp only [qB, qN] at hc2
   refine Zo (Zd (Ze (Zn (Ze (Za ?_)))))
   refine Lo u73 (W18 rfl rfl rfl rfl rfl rfl rfl) ?_
   refine Lo u73 (W37 rfl rfl rfl rfl rfl) ?_
   refine Lo u73 (ZG rfl rfl) ?_
   refine Lo u73 (W13 rfl rfl rfl rfl rfl rfl rfl) ?_
   refine Zf (Zd (Ze ?_))
   refine ZZ [0, 1, 2, 3, 4, 5, 6, 7, 8] #[0, 0, 2, 6, 14, 30, 0, 127, 255] XH2 XH2 XH2 ?_
   refine Oo u73 .look rfl (W37 rfl rfl rfl rfl rfl) ?_
   refine Oo u73 .calm rfl (Zb (.inl rfl) rfl) ?_
   refine Oo u73 .calm rfl (rfl) ?_
   refine Oo u73 .calm rfl (rfl) ?_
   refine Oo u73 .look rfl (W2y rfl rfl rfl rfl) ?_
   refine Oo u73 .look rfl (rfl) ?_
   refine Oo u73 .calm rfl (Zb (.inl rfl) rfl) ?_
   refine Z7 (env' := u73) rfl rfl rfl rfl rfl (by exact rEarlyN _ _ _ _ (hR1.2 _ (rul_mem (by omega)))) XH9 rfl rfl ?_
   refine Oo u73 .calm rfl (rfl) ?_
   refine ZU [] XH2 (trivial) ?_
   refine Zd ?_
   refine Zp _ rfl (fun hc3 => ?_) (fun hc3 => ?_)
   ·try simp only [qB, qN] at hc3
    refine Ze (Za ?_)
    refine Lo u73 (Zh (VVal.bool false) (.inr rfl) rfl) ?_
    refine Zf (Zd (Zk (ZJ (Zq (Yw (ZJ (Zq ?_)))))))
    refine W2o (.inr rfl) (Zi rfl rfl) ?_
    exact W35
   ·try simp only [qB, qN] at hc3
    refine Zo (ZB (Zd (Za ?_)))
    refine Lo u73 (W14 rfl rfl rfl) ?_
    refine Lo u73 (Zb (.inl rfl) rfl) ?_
    refine Zf ?_
    refine K_loopG (mk 73 9444606864949724053468) (env' := u73) rfl (Gh.dropTo (L := []) (X := [_]) 0 rfl (BaseOk.set (BaseOk.refl _) _ rfl) (by first | (simp [VVal.underL, VVal.under, fzW_under]; done) | (simp [VVal.underL, VVal.under, fzW_under, rss_under, mapW_under, mapN_under, fzR_und, List.length_set, hy]; done) | (simp [VVal.underL, VVal.under, fzW_under]; omega)) rfl) ⟨k + 1, ?_, rfl, ?_⟩
    ·first | omega | (simp only []; omega)
    ·exact ⟨⟨by omega, all_step (by omega) hall (by assumption)⟩, rfl⟩
  ·try simp only [qB, qN] at hc2
   refine ZO (ZM (ZE (ZN (Zd (Ze (Za ?_))))))
   refine Lo u73 (Zb (.inl rfl) rfl) ?_
   refine Lo u73 (Zb (.inl rfl) rfl) ?_
   refine Zl rfl rfl rfl (by exact hfull_spec (H.set y (gaB (⟨g.n + 1, g.p + u, g.e⟩ : Gz)) ++ []) y (⟨g.n + 1, g.p + u, g.e⟩ : Gz) (Zm (List.getElem?_set_self hy)) (ZQ ws a a.length) 0#64 (by have := @szP_le a a.length; omega)) ?_
   rintro v _ ⟨rfl, rfl⟩; rw [Yh XH23, List.set_set]
   refine Le u73 ?_
   refine Lo u73 (Zb (.inr rfl) rfl) ?_
   refine Zf (Zd (Zk ?_))
   refine W2o (.inr rfl) (Zi rfl rfl) ?_
   exact W35
theorem W3a {T : TypeId → Option VTy} {H : Zc} {op : Op} {ρ : Operand → VVal} {t : TypeId} {a : Operand} {y : VTy} {p v : VVal} (ho : op = .load t a) (ha : ρ a = p) (hy : T t = some y) (hd : Zj y.desc = false) (h : LdOk H p v := by first | exact .inl ⟨_, _, rfl, XH29⟩ | exact .inr ⟨_, _, _, _, rfl, by exact get_out hq, XH29⟩) : vop T ρ H op = some (v, H) := v_ld ho ha hy hd h
theorem W3b {T : TypeId → Option VTy} {H : Zc} {op : Op} {ρ : VEnv} {H' : Zc} {t : TypeId} {a : Operand} {i : Nat} {v : VVal} {y : VTy} {b off : Nat} {cs new : List VVal} (ho : op = .store t a (.tmp i)) (hv : ρ[i]? = some v) (ha : ρ.eval a = .ptr (some (b, off))) (hy : T t = some y) (hx : v.cells = some new) (hn : new.length = y.size) (h1 : new.all VVal.one = true) (hb : H[b]? = some (.cells cs true) := by exact get_out hq) (hl : off + new.length ≤ cs.length := by exact XH30) (hH : H.set b (.cells (Zv cs off new) true) = H' := by exact Yh hql) : vop T ρ.eval H op = some (.skip, H') := ZX ho hv ha hy hx hn h1 hb hl hH
theorem W3c {T : TypeId → Option VTy} {H : Zc} {op : Op} {ρ : Operand → VVal} {t : TypeId} {a : Operand} {y : VTy} {p v : VVal} (ho : op = .load t a) (ha : ρ a = p) (hy : T t = some y) (hd : Zj y.desc = false) (h : LdOk H p v := by first | exact .inl ⟨_, _, rfl, by rfl⟩ | exact .inr ⟨_, _, _, _, rfl, by exact get_out (List.getElem?_set_self hql), by rfl⟩) : vop T ρ H op = some (v, H) := v_ld ho ha hy hd h
theorem W3d {T : TypeId → Option VTy} {H : Zc} {op : Op} {ρ : Operand → VVal} {t : TypeId} {a : Operand} {y : VTy} {p v : VVal} (ho : op = .load t a) (ha : ρ a = p) (hy : T t = some y) (hd : Zj y.desc = false) (h : LdOk H p v := by first | exact .inl ⟨_, _, rfl, XH29⟩ | exact .inr ⟨_, _, _, _, rfl, by exact get_out ((List.getElem?_set_ne (Ne.symm hqm)).trans hm), XH29⟩) : vop T ρ H op = some (v, H) := v_ld ho ha hy hd h
theorem Found_spec {x : SW} (H : Zc) (q m : Nat) (hq : H[q]? = some (.cells [.slice none 0 0 true 0] true)) (hm : H[m]? = some (.cells [iI 1] true)) (a : List Nat) : F (psys x) 83 [fzN a, .ptr (some (q, 0)), .ptr (some (m, 0))] H fun v G => v = .bool false ∧ ∃ X w, G = H.set q (.cells [w] true) ++ X ∧ LV H.length 1 X w [fzN a] 1 := by
 have hql := Zw hq
 have hqm : m ≠ q := fun e => by subst e; rw [hm] at hq; cases hq
 refine Zs Tryd.func83 rfl u13 rfl ?_
 refine Ze (Za ?_)
 refine Lo u13 (Zh (VVal.bool false) (.inr rfl) rfl) ?_
 refine Zf (Zd (Ze (Za ?_)))
 refine Lo u13 (W3a rfl rfl rfl rfl) ?_
 refine Lo u13 (Zb (.inl rfl) rfl) ?_
 refine Lo u13 (Zt rfl rfl (by decide) rfl) ?_
 refine L_opX rfl rfl (v_appX rfl rfl rfl rfl rfl rfl rfl (LV.nil _ _ _) rfl rfl (by decide) (by decide) (by decide)) ?_
 rintro _ _ ⟨Y1, rfl, rfl, hY1, hY2, hY3⟩
 refine Le u13 ?_
 refine Lo u13 (W3b rfl rfl rfl rfl rfl rfl rfl) ?_
 refine Zf (Zd (Ze (Za ?_)))
 refine Lo u13 (W3c rfl rfl rfl rfl) ?_
 refine Lo u13 (v_len rfl rfl rfl rfl hY3) ?_
 refine Lo u13 (W3d rfl rfl rfl rfl) ?_
 refine Lo u13 (rfl) ?_
 refine Lo u13 (Zb (.inr rfl) rfl) ?_
 refine Zf (Zd (Zk ?_))
 refine E_keep (.inr rfl) (Zi rfl rfl) ?_
 exact ⟨rfl, _, _, rfl, hY3⟩
theorem CloI_nil {x : SW} (H : Zc) : F (psys x) 109 [.slice none 0 0 true 0] H fun v G => v = .fsl [] 0 1 false ∧ G = H := by
 refine Zs Tryd.func109 rfl u8 rfl ?_
 refine Ze (Za ?_)
 refine Lo u8 (Zh (VVal.slice none 0 0 true 0) (.inr rfl) rfl) ?_
 refine Zf (Zd (Ze (Ze (Za ?_))))
 refine Lo u8 (Zb (.inl rfl) rfl) ?_
 refine Lo u8 (rfl) ?_
 refine Zf (Zd ?_)
 refine ZV rfl rfl ?_
 refine Ze (Za ?_)
 refine Lo u8 (Zh (VVal.slice none 0 0 true 0) (.inr rfl) rfl) ?_
 refine Zf (Zd (Zk (Zq ?_)))
 refine E_gh (.inr rfl) (Zi rfl rfl) (Gh.ansLV (BaseOk.refl _) (LV.nil H.length 1 []) rfl) ?_
 exact ⟨rfl, rfl⟩
theorem CloI_b {x : SW} (H : Zc) (b cap : Nat) (cs l : List VVal) (hb : H[b]? = some (.cells cs true)) (hc : cs.take l.length = l) (hl : l.length ≤ cs.length) (h0 : 0 < l.length) (hm : l.length ≤ 1000000) (h1 : l.all VVal.one = true) (hu : VVal.underL H.length l = true) : F (psys x) 109 [.slice (some (b, 0)) l.length cap false 1] H fun v G => v = .fsl l l.length 1 false ∧ G = H := by
 refine Zs Tryd.func109 rfl u8 rfl ?_
 refine Ze (Za ?_)
 refine Lo u8 (Zh (VVal.slice none 0 0 true 0) (.inr rfl) rfl) ?_
 refine Zf (Zd (Ze (Ze (Za ?_))))
 refine Lo u8 (Zb (.inl rfl) rfl) ?_
 refine Lo u8 (rfl) ?_
 refine Zf (Zd ?_)
 refine Yb rfl rfl ?_
 refine Zo (Zd (Ze (Za ?_)))
 refine Lo u8 (Zt rfl rfl (by decide) rfl) ?_
 refine Lo u8 (Zb (.inl rfl) rfl) ?_
 refine L_opX rfl rfl (v_appEs rfl rfl rfl rfl rfl rfl rfl rfl (srcLive hb hc hl) (by exact (Nat.mul_one _).symm) h1 (by decide) (by show l.length * 8 ≤ _ ∧ l.length ≤ _; omega)) ?_
 rintro _ _ ⟨Z, i, rfl, rfl, hi⟩
 refine Le u8 ?_
 refine Lo u8 (Zb (.inr rfl) rfl) ?_
 refine Zf (Zd (Zk ?_))
 refine E_gh (.inr rfl) (Zi rfl rfl) (Gh.fsl (BaseOk.refl _) hi (by show Zr l 0 (l.length * 1) = some l; unfold Zr; rw [if_pos (by omega), List.drop_zero, Nat.mul_one, List.take_length]) (Nat.le_refl _) hu) ?_
 exact ⟨rfl, rfl⟩
theorem rc_under (n : Nat) (row : List Nat) : VVal.underL n (rcN row) = true := VVal.underL_map fun _ => rfl
theorem rc_one (row : List Nat) : (rcN row).all VVal.one = true := List.all_eq_true.2 fun v hv => by
  obtain ⟨n, _, rfl⟩ := List.mem_map.1 hv; rfl
theorem CloR {x : SW} (B X : Zc) (rv : VVal) (row : List Nat) (r : RV B.length X rv (rcN row)) (h : row = [] → rv = .slice none 0 0 true 0) (hm : row.length ≤ 1000000) : F (psys x) 109 [rv] (B ++ X) fun v G => v = fzN row ∧ G = B ++ X := by
  rcases r with ⟨h1, rfl⟩ | ⟨b, cap, cs, rfl, h2, h3, h4, h5⟩
  · obtain rfl : row = [] := by simpa using h1
    exact CloI_nil _
  · by_cases h0 : row = []
    · exact absurd (h h0) (by simp)
    · have hlen : (rcN row).length = row.length := by simp
      have hpos : 0 < row.length := List.length_pos_iff.2 h0
      have := CloI_b (x := x) (B ++ X) (B.length + b) cap cs (rcN row) (Zx rfl h2) h5 (by omega) (by omega) (by omega) (rc_one _) (rc_under _ _)
      rw [hlen] at this ⊢
      exact this
abbrev kpV (u : Nat) (ws : List (BitVec 64)) (rss : List (List Rul)) (y : Nat) : VVal := .func 53 [huP (u : Nat) (fzW ws) (fzRR rss) y] []
abbrev fdV (H : Zc) : VVal := .func 83 [] [.ptr (some (H.length + 1, 0)), .ptr (some (H.length, 0))]
abbrev niS : VVal := .slice none 0 0 true 0
def wkH (H : Zc) (y : Nat) (kv rv fnd : VVal) (g : Gz) : Zc := H.set y (gaB g) ++ [.cells [iI 1] true, .cells [fnd] true, .cells [rv, kv, fdV H] true]
section
variable {H X : Zc} {y : Nat} {kv rv fnd : VVal} {g : Gz}
theorem wk_len : (wkH H y kv rv fnd g).length = H.length + 3 := by unfold wkH; rw [List.length_append, List.length_set]; rfl
theorem wk_at {n : Nat} {k : VBlk} (h : n < 3) (hk : [VBlk.cells [iI 1] true, .cells [fnd] true, .cells [rv, kv, fdV H] true][n]? = some k) : (wkH H y kv rv fnd g ++ X)[H.length + n]? = some k := by
  unfold wkH; rw [List.append_assoc]; exact Zx (List.length_set) (by rw [List.getElem?_append_left h]; exact hk)
theorem wk_ga (hy : y < H.length) : (wkH H y kv rv fnd g ++ X)[y]? = some (gaB g) := by
  unfold wkH; rw [List.append_assoc]; exact get_out (List.getElem?_set_self hy)
theorem wk_setg {g' : Gz} (hy : y < H.length) : (wkH H y kv rv fnd g ++ X).set y (gaB g') = wkH H y kv rv fnd g' ++ X := by
  unfold wkH; rw [List.append_assoc, Yh XH23, List.set_set, List.append_assoc]
theorem wk_setf {w : VVal} : (wkH H y kv rv fnd g ++ X).set (H.length + 1) (.cells [w] true) = wkH H y kv rv w g ++ X := by
  unfold wkH; rw [List.append_assoc, ZP (List.length_set), List.append_assoc]; rfl
theorem wk_setr {w : VVal} : (wkH H y kv rv fnd g ++ X).set (H.length + 2) (.cells (Zv [rv, kv, fdV H] (0 + 0) [w]) true) = wkH H y kv w fnd g ++ X := by
  unfold wkH; rw [List.append_assoc, ZP (List.length_set), List.append_assoc]; rfl
end
def frPost (H : Zc) (y : Nat) (kv : VVal) (g : Gz) (row : List Nat) (r : Gz × Option (List Nat)) (v : VVal) (G : Zc) : Prop :=
  ∃ rv X, RV (H.length + 3) X rv (rcN row) ∧ ((r.2 = none ∧ v = .bool true ∧ G = wkH H y kv rv niS (g + r.1) ++ X) ∨ ∃ s w, r.2 = some s ∧ v = .bool false ∧ G = wkH H y kv rv w (g + r.1) ++ X ∧ LV (H.length + 3) 1 X w [fzN s] 1)
theorem hKeep_in {x : SW} {H X : Zc} {u y : Nat} {ws : List (BitVec 64)} {rss : List (List Rul)} {rv fnd : VVal} {g : Gz} (hy : y < H.length) (a : List Nat) (ha : Pat a) (h0 : 0 < a.length) (hw : a.length ≤ ws.length) (hn : ws.length ≤ 1000000) (hr : rss.length = ws.length) (hR : ∀ i, (rss.getD i []).length ≤ 1000000 ∧ ∀ r, r ∈ rss.getD i [] → r.steps.length ≤ 1000000) :
    F (psys x) 53 [huP (u : Nat) (fzW ws) (fzRR rss) y, fzN a] (wkH H y (kpV u ws rss y) rv fnd g ++ X) fun v G => (v = .bool true ∧ kpB ws rss a = true ∧ G = wkH H y (kpV u ws rss y) rv fnd (g + kpG u ws rss a) ++ X) ∨ (v = .bool false ∧ kpB ws rss a = false ∧ G = wkH H y (kpV u ws rss y) rv fnd (g + kpG u ws rss a) ++ X) := by
  refine (hKeep_spec _ y g (wk_ga hy) ws rss a ha h0 hw hn hr hR).mono ?_
  rintro v G ⟨rfl, rfl⟩
  rw [wk_setg hy]
  cases h : kpB ws rss a
  · exact .inr ⟨rfl, rfl, rfl⟩
  · exact .inl ⟨rfl, rfl, rfl⟩
abbrev u84 {a0 a1 a2 a3 a4 a5 a6 a7 a8 a9 a10 a11 a12 a13 a14 a15 a16 a17 a18 a19 a20 a21 a22 a23 a24 a25 a26 a27 a28 a29 a30 a31 a32 a33 a34 a35 a36 a37 a38 a39 a40 a41 a42 a43 a44 a45 a46 a47 a48 a49 a50 a51 a52 a53 a54 a55 a56 a57 a58 a59 a60 a61 a62 a63 a64 a65 a66 a67 a68 a69 a70 a71 a72 a73 a74 a75 a76 a77 a78 a79 a80 a81 a82 a83 : VVal} : VEnv := a0 :: a1 :: a2 :: a3 :: a4 :: a5 :: a6 :: a7 :: a8 :: a9 :: a10 :: a11 :: a12 :: a13 :: a14 :: a15 :: a16 :: a17 :: a18 :: a19 :: a20 :: a21 :: a22 :: a23 :: a24 :: a25 :: a26 :: a27 :: a28 :: a29 :: a30 :: a31 :: a32 :: a33 :: a34 :: a35 :: a36 :: a37 :: a38 :: a39 :: a40 :: a41 :: a42 :: a43 :: a44 :: a45 :: a46 :: a47 :: a48 :: a49 :: a50 :: a51 :: a52 :: a53 :: a54 :: a55 :: a56 :: a57 :: a58 :: a59 :: a60 :: a61 :: a62 :: a63 :: a64 :: a65 :: a66 :: a67 :: a68 :: a69 :: a70 :: a71 :: a72 :: a73 :: a74 :: a75 :: a76 :: a77 :: a78 :: a79 :: a80 :: a81 :: a82 :: a83 :: []
theorem W3e {T : TypeId → Option VTy} {H : Zc} {op : Op} {ρ : Operand → VVal} {t : TypeId} {a : Operand} {y : VTy} {p v : VVal} (ho : op = .load t a) (ha : ρ a = p) (hy : T t = some y) (hd : Zj y.desc = false) (h : LdOk H p v := by first | exact .inl ⟨_, _, rfl, by first | rfl | assumption⟩ | exact .inr ⟨_, _, _, _, rfl, by exact wk_at (n := 2) (by decide) rfl, by first | rfl | assumption⟩) : vop T ρ H op = some (v, H) := v_ld ho ha hy hd h
theorem W3g {T : TypeId → Option VTy} {H : Zc} {op : Op} {ρ : Operand → VVal} {t ty : TypeId} {x y : Operand} {n m : Int} (ho : op = .binOp .sub t x y ty) (hx : ρ x = .int .i64 n) (hy : ρ y = .int .i64 m) (h : -9223372036854775808 ≤ n - m ∧ n - m < 9223372036854775808 := by simp; omega) : vop T ρ H op = some (.int .i64 (n - m), H) := v_subI ho hx hy h
theorem W3h {P : Prop} (h : P := by first | exact ⟨_, _, hr4, .inr ⟨s, w, by rw [frm_R, hx, frR_hit (by omega) hk1 ho], rfl, by rw [frm_R, hx, frR_hit (by omega) hk1 ho]; simp only [Gz.assoc], hw⟩⟩ | exact ⟨_, _, hr1, .inl ⟨by rw [frm_R, hx, frR_end (by omega)], rfl, by rw [frm_R, hx, frR_end (by omega)]; show _ = wkH _ _ _ _ _ (g + (d + 0)) ++ _; rw [Gz.add_zero]⟩⟩) : P := h
theorem from_0 {x : SW} (H : Zc) {u y : Nat} {ws : List (BitVec 64)} {rss : List (List Rul)} (hy : y < H.length) (hn : ws.length ≤ 1000000) (hr : rss.length = ws.length) (hR : ∀ i, (rss.getD i []).length ≤ 1000000 ∧ ∀ r, r ∈ rss.getD i [] → r.steps.length ≤ 1000000) (row : List Nat) (rv : VVal) (X : Zc) (g : Gz) (hp : Pat row) (hrv : RV (H.length + 3) X rv (rcN row)) (h0 : row = [] → rv = niS) (hl : row.length = ws.length) : F (psys x) 84 [.ptr (some (H.length + 2, 0)), iI (ws.length : Nat), iI (szP row row.length : Nat)] (wkH H y (kpV u ws rss y) rv niS g ++ X) (frPost H y (kpV u ws rss y) g row (frm (kpB ws rss) (kpG u ws rss) 0 row (szP row row.length))) := by
 refine Zs Tryd.func84 rfl u84 rfl ?_
 refine Ze (Za ?_)
 refine Lo u84 (Zh (VVal.bool false) (.inr rfl) rfl) ?_
 refine Zf (Zd (Ze (Ze ?_)))
 rw [List.append_nil]
 refine Za ?_
 refine Lo u84 (Zb (.inl rfl) rfl) ?_
 refine Lo u84 (rfl) ?_
 refine Lo u84 (rfl) ?_
 refine Lo u84 (W3e rfl rfl rfl rfl) ?_
 refine Lo u84 (v_lenN rfl rfl rfl rfl hrv) ?_
 refine Lo u84 (Zb (.inl rfl) rfl) ?_
 refine Lo u84 (v_is true rfl (by rw [hl]; simp)) ?_
 refine Zf (Zd ?_)
 refine ZV rfl rfl ?_
 refine Ze ?_
 refine B_drawP #[0, 1, 3, 7, 0, 16, 48, 112, 240, 511, 1023] XH2 ?_
 refine P_seg [0, 1, 2, 3, 4, 5, 6, 7, 8] (bef := #[0, 1, 3, 7, 0, 16, 48, 112, 240, 511, 1023]) XH2 XH2 XH2 ?_
 refine Oo u84 .calm rfl (Zb (.inl rfl) rfl) ?_
 refine Oo u84 .calm rfl (rfl) ?_
 refine Oo u84 .calm rfl (rfl) ?_
 refine Yg (env' := u84) (x := .look _ _) rfl rfl rfl (W3e rfl rfl rfl rfl) rfl rfl rfl ?_
 refine Oo u84 .calm rfl (Zb (.inl rfl) rfl) ?_
 refine Oo u84 .calm rfl (rfl) ?_
 refine Oo u84 .calm rfl (rfl) ?_
 refine Oo u84 .look rfl (W3e rfl rfl rfl rfl) ?_
 refine Z7 (env' := u84) rfl rfl rfl rfl rfl (by exact CloR _ _ _ _ (by rw [wk_len]; exact hrv) h0 (by omega)) XH9 rfl rfl ?_
 refine ZU [_] (by rfl) (And.intro (And.intro (W3e rfl rfl rfl rfl) (W3e rfl rfl rfl rfl)) trivial) ?_
 refine P_call 9 (bef := #[0, 1, 3, 7, 0, 16, 48, 112, 240, 511, 1023]) XH2 XH2 rfl rfl rfl rfl (by exact Found_spec _ (H.length + 1) H.length (wk_at (n := 1) (by decide) rfl) (wk_at (n := 0) (by decide) rfl) row) ?_
 rintro _ _ ⟨rfl, X2, w, rfl, hw⟩; rw [wk_setf, List.append_assoc]
 refine P_env (env' := u84) rfl ?_
 refine P_seg [10] (bef := #[0, 1, 3, 7, 0, 16, 48, 112, 240, 511, 1023]) XH2 XH2 XH2 ?_
 refine Oo u84 .calm rfl (Zb (.inr rfl) rfl) ?_
 refine ZU [] XH2 (trivial) ?_
 refine P_end XH2 ?_
 refine Zd (Zk (Zq ?_))
 refine E_keep (.inr rfl) (Zi rfl rfl) ?_
 exact ⟨rv, X ++ X2, hrv.app _, .inr ⟨row, w, rfl, rfl, by rw [show (frm (kpB ws rss) (kpG u ws rss) 0 row (szP row row.length)).1 = 0 from rfl, Gz.add_zero, List.append_assoc], LV.behind (by rw [List.length_append, wk_len]) hw⟩⟩
theorem from_s {x : SW} (H : Zc) {u y : Nat} {ws : List (BitVec 64)} {rss : List (List Rul)} (hy : y < H.length) (hn : ws.length ≤ 1000000) (hr : rss.length = ws.length) (hR : ∀ i, (rss.getD i []).length ≤ 1000000 ∧ ∀ r, r ∈ rss.getD i [] → r.steps.length ≤ 1000000) (n : Nat) (ih : ∀ (row : List Nat) (rv : VVal) (X : Zc) (g : Gz) (hp : Pat row) (hrv : RV (H.length + 3) X rv (rcN row)) (h0 : row = [] → rv = niS), row.length + n = ws.length → F (psys x) 84 [.ptr (some (H.length + 2, 0)), iI (ws.length : Nat), iI (szP row row.length : Nat)] (wkH H y (kpV u ws rss y) rv niS g ++ X) (frPost H y (kpV u ws rss y) g row (frm (kpB ws rss) (kpG u ws rss) n row (szP row row.length)))) (row : List Nat) (rv : VVal) (X : Zc) (g : Gz) (hp : Pat row) (hrv : RV (H.length + 3) X rv (rcN row)) (h0 : row = [] → rv = niS) (hl : row.length + (n + 1) = ws.length) : F (psys x) 84 [.ptr (some (H.length + 2, 0)), iI (ws.length : Nat), iI (szP row row.length : Nat)] (wkH H y (kpV u ws rss y) rv niS g ++ X) (frPost H y (kpV u ws rss y) g row (frm (kpB ws rss) (kpG u ws rss) (n + 1) row (szP row row.length))) := by
 refine Zs Tryd.func84 rfl u84 rfl ?_
 refine Ze (Za ?_)
 refine Lo u84 (Zh (VVal.bool false) (.inr rfl) rfl) ?_
 refine Zf (Zd (Ze (Ze ?_)))
 rw [List.append_nil]
 refine Za ?_
 refine Lo u84 (Zb (.inl rfl) rfl) ?_
 refine Lo u84 (rfl) ?_
 refine Lo u84 (rfl) ?_
 refine Lo u84 (W3e rfl rfl rfl rfl) ?_
 refine Lo u84 (v_lenN rfl rfl rfl rfl hrv) ?_
 refine Lo u84 (Zb (.inl rfl) rfl) ?_
 refine Lo u84 (v_is false rfl (by simp; omega)) ?_
 refine Zf (Zd ?_)
 refine Yb rfl rfl ?_
 refine Zo (Zd (Ze (Ze (Za ?_))))
 refine Lo u84 (Zh (VVal.int .i64 0) (.inr rfl) rfl) ?_
 refine Zf (Zd (Zn ?_))
 refine ZD (mk 84 19342813113834066795298680) (env' := u84) rfl ?_
 refine ZH (fun (k : Nat) => szP row row.length + 1 - k) (fun (k : Nat) => [(7, iI (k : Nat))]) (fun (k : Nat) G => (k ≤ szP row row.length + 1) ∧ ∃ X1 rv1 d, G = wkH H y (kpV u ws rss y) rv1 niS (g + d) ++ X1 ∧ RV (H.length + 3) X1 rv1 (rcN row) ∧ frR (kpB ws rss) (kpG u ws rss) (frm (kpB ws rss) (kpG u ws rss) n) row (szP row row.length) 0 = (d + (frR (kpB ws rss) (kpG u ws rss) (frm (kpB ws rss) (kpG u ws rss) n) row (szP row row.length) k).1, (frR (kpB ws rss) (kpG u ws rss) (frm (kpB ws rss) (kpG u ws rss) n) row (szP row row.length) k).2)) 0 rfl ?_ ?_
 ·refine ⟨?_, ⟨X, rv, 0, by rw [Gz.add_zero], hrv, by rw [Gz.zero_add]⟩⟩
  exact Nat.zero_le _
 rintro k _ ⟨hk, ⟨X1, rv1, d, rfl, hr1, hx⟩⟩
 refine Z4 (env' := u84) rfl ?_
 have hsz := @szP_le row row.length
 refine Ze (Ze (Za ?_))
 refine Lo u84 (Zb (.inl rfl) rfl) ?_
 refine Lo u84 (Zb (.inl rfl) rfl) ?_
 refine Lo u84 (rfl) ?_
 refine Zf (Zd ?_)
 refine Zp _ rfl (fun hc1 => ?_) (fun hc1 => ?_)
 ·try simp only [qB, qN] at hc1
  refine Zo (Zd (Ze (Zn (Ze (Za ?_)))))
  refine Lo u84 (Zb (.inl rfl) rfl) ?_
  refine Lo u84 (Zb (.inl rfl) rfl) ?_
  refine Lo u84 (rfl) ?_
  refine Lo u84 (rfl) ?_
  refine Lo u84 (W3e rfl rfl rfl rfl) ?_
  refine Lo u84 (Zb (.inl rfl) rfl) ?_
  refine Lo u84 (Zt rfl rfl (by decide) rfl) ?_
  refine L_opX rfl rfl (v_rvApp rfl rfl rfl rfl rfl rfl rfl rfl (by rw [wk_len]; exact hr1) rfl (by rw [List.length_map]; show (row.length + 1) * 8 ≤ _ ∧ _; omega)) ?_
  rintro v2 _ ⟨Y1, rfl, hY⟩; have hY : RV (H.length + 3) Y1 v2 (rcN (row ++ [k])) := by rw [rcN_snoc]; rw [wk_len] at hY; exact hY
  refine Le u84 ?_
  refine Lo u84 (rfl) ?_
  refine Lo u84 (rfl) ?_
  refine Lo u84 (ZX rfl rfl rfl rfl hY.cells rfl (by simp [hY.one]) (wk_at (n := 2) (by decide) rfl) (Nat.le_of_ble_eq_true rfl) wk_setr) ?_
  refine Zf (Zd (Ze ?_))
  refine B_drawP #[0, 1, 3, 7, 15, 31, 63, 127, 255, 511, 63, 1087, 3135, 7231, 15423, 32767, 65535, 131071, 262143, 524287, 524287, 524287, 524287, 4718591, 15204351, 33554431, 67108863, 134217727] XH2 ?_
  refine P_seg [0, 1, 2, 3, 4, 5, 6, 7, 8, 9, 10, 11, 12, 13, 14] (bef := #[0, 1, 3, 7, 15, 31, 63, 127, 255, 511, 63, 1087, 3135, 7231, 15423, 32767, 65535, 131071, 262143, 524287, 524287, 524287, 524287, 4718591, 15204351, 33554431, 67108863, 134217727]) XH2 XH2 XH2 ?_
  refine Oo u84 .calm rfl (Zb (.inl rfl) rfl) ?_
  refine Oo u84 .calm rfl (rfl) ?_
  refine Oo u84 .calm rfl (rfl) ?_
  refine Oo u84 .look rfl (W3e rfl rfl rfl rfl) ?_
  refine Oo u84 .calm rfl (rfl) ?_
  refine Oo u84 .calm rfl (Zb (.inl rfl) rfl) ?_
  refine Oo u84 .calm rfl (Zb (.inl rfl) rfl) ?_
  refine Oo u84 .calm rfl (rfl) ?_
  refine Oo u84 .calm rfl (rfl) ?_
  refine Yg (env' := u84) (x := .look _ _) rfl rfl rfl (W3e rfl rfl rfl rfl) rfl rfl rfl ?_
  refine Oo u84 .calm rfl (Zb (.inl rfl) rfl) ?_
  refine Oo u84 .calm rfl (rfl) ?_
  refine Oo u84 .calm rfl (rfl) ?_
  refine Oo u84 .look rfl (W3e rfl rfl rfl rfl) ?_
  refine Z7 (env' := u84) rfl rfl rfl rfl rfl (by exact CloR _ _ _ (row ++ [k]) (by rw [wk_len]; exact hY) (by simp) (by simp; omega)) XH9 rfl rfl ?_
  refine ZU [_] (by rfl) (And.intro (And.intro (W3e rfl rfl rfl rfl) (W3e rfl rfl rfl rfl)) trivial) ?_
  refine P_call 15 (bef := #[0, 1, 3, 7, 15, 31, 63, 127, 255, 511, 63, 1087, 3135, 7231, 15423, 32767, 65535, 131071, 262143, 524287, 524287, 524287, 524287, 4718591, 15204351, 33554431, 67108863, 134217727]) XH2 XH2 rfl rfl rfl rfl (by exact hKeep_in hy (row ++ [k]) (Pat_snoc hp (by omega)) (by simp) (by simp; omega) hn hr hR) ?_
  rintro _ _ (⟨rfl, hk1, rfl⟩ | ⟨rfl, hk1, rfl⟩)
  ·skip
   refine P_env (env' := u84) rfl ?_
   refine P_seg [16, 17, 18, 19, 20, 21, 22, 23, 24] (bef := #[0, 1, 3, 7, 15, 31, 63, 127, 255, 511, 63, 1087, 3135, 7231, 15423, 32767, 65535, 131071, 262143, 524287, 524287, 524287, 524287, 4718591, 15204351, 33554431, 67108863, 134217727]) XH2 XH2 XH2 ?_
   refine Oo u84 .calm rfl (rfl) ?_
   refine Oo u84 .calm rfl (ZA rfl rfl rfl) ?_
   refine Oo u84 .calm rfl (Zb (.inl rfl) rfl) ?_
   refine Oo u84 .calm rfl (Zb (.inl rfl) rfl) ?_
   refine Oo u84 .calm rfl (Zb (.inl rfl) rfl) ?_
   refine Oo u84 .calm rfl (Zb (.inl rfl) rfl) ?_
   refine Oo u84 .calm rfl (Zb (.inl rfl) rfl) ?_
   refine Oo u84 .calm rfl (W14 rfl rfl rfl) ?_
   refine Oo u84 .calm rfl (v_val rfl (by show iI _ = iI ((max (szP row row.length) (k + 1) : Nat)); congr 1; omega)) ?_
   refine ZU [] XH2 (trivial) ?_
   refine P_call 25 (bef := #[0, 1, 3, 7, 15, 31, 63, 127, 255, 511, 63, 1087, 3135, 7231, 15423, 32767, 65535, 131071, 262143, 524287, 524287, 524287, 524287, 4718591, 15204351, 33554431, 67108863, 134217727]) XH2 XH2 rfl rfl rfl rfl (by have := ih (row ++ [k]) _ _ (g + d + kpG u ws rss (row ++ [k])) (Pat_snoc hp (by omega)) hY (by simp) (by simp; omega); rw [szP_next (by omega)] at this; exact this) ?_
   rintro _ _ ⟨rv3, X3, hr3, (⟨ho, rfl, rfl⟩ | ⟨s, w, ho, rfl, rfl, hw⟩)⟩
   ·skip
    refine P_env (env' := u84) rfl ?_
    refine P_seg [26, 27] (bef := #[0, 1, 3, 7, 15, 31, 63, 127, 255, 511, 63, 1087, 3135, 7231, 15423, 32767, 65535, 131071, 262143, 524287, 524287, 524287, 524287, 4718591, 15204351, 33554431, 67108863, 134217727]) XH2 XH2 XH2 ?_
    refine Oo u84 .calm rfl (Ya rfl rfl rfl) ?_
    refine Oo u84 .calm rfl (Zb (.inr rfl) rfl) ?_
    refine ZU [] XH2 (trivial) ?_
    refine P_end XH2 ?_
    refine Zd (Ze ?_)
    refine ZZ [0, 1, 2, 3, 4, 5, 6, 7, 8, 9, 10, 11, 12, 13, 14] #[0, 0, 2, 6, 14, 0, 32, 96, 224, 480, 992, 2046, 4095, 8191, 16383] XH2 XH2 XH2 ?_
    refine Oo u84 .calm rfl (Zb (.inl rfl) rfl) ?_
    refine Oo u84 .calm rfl (Zb (.inl rfl) rfl) ?_
    refine Oo u84 .calm rfl (rfl) ?_
    refine Oo u84 .calm rfl (rfl) ?_
    refine Oo u84 .look rfl (W3e rfl rfl rfl rfl) ?_
    refine Oo u84 .calm rfl (Zb (.inl rfl) rfl) ?_
    refine Oo u84 .calm rfl (rfl) ?_
    refine Oo u84 .calm rfl (rfl) ?_
    refine Oo u84 .look rfl (W3e rfl rfl rfl rfl) ?_
    refine Oo u84 .look rfl (XH24) ?_
    refine Oo u84 .calm rfl (W3g rfl rfl rfl) ?_
    refine O_opX .calm rfl rfl rfl (XH16) rfl rfl ?_
    rintro v4 _ ⟨rfl, hr4⟩
    refine O_env (env' := u84) rfl ?_
    refine Oo u84 .calm rfl (rfl) ?_
    refine Oo u84 .calm rfl (rfl) ?_
    refine Oo u84 .turn rfl (ZX rfl rfl rfl rfl hr4.cells rfl (by simp [hr4.one]) (wk_at (n := 2) (by decide) rfl) (Nat.le_of_ble_eq_true rfl) wk_setr) ?_
    refine ZU [] XH2 (trivial) ?_
    refine Zd (Ze (Za ?_))
    refine Lo u84 (Zb (.inl rfl) rfl) ?_
    refine Lo u84 (rfl) ?_
    refine Zf (Zd ?_)
    refine Yb rfl rfl ?_
    refine Zo (ZB (Zd (Za ?_)))
    refine Lo u84 (Zb (.inl rfl) rfl) ?_
    refine Lo u84 (W14 rfl rfl rfl) ?_
    refine Lo u84 (Zb (.inr rfl) rfl) ?_
    refine Zf ?_
    refine ZR (mk 84 19342813113834066795298680) (env' := u84) rfl ⟨k + 1, ?_, rfl, ?_⟩
    ·first | omega | (simp only []; omega)
    ·first | exact ⟨by omega, _, _, d + (kpG u ws rss (row ++ [k]) + (frm (kpB ws rss) (kpG u ws rss) n (row ++ [k]) (max (szP row row.length) (k + 1))).1), by simp only [Gz.assoc], hr4, by rw [hx, frR_on (by omega) hk1 ho]; simp only [Gz.assoc]⟩ | exact ⟨by omega, _, _, d + kpG u ws rss (row ++ [k]), by simp only [Gz.assoc], hr4, by rw [hx, frR_no (by omega) hk1]; simp only [Gz.assoc]⟩
   ·skip
    refine P_env (env' := u84) rfl ?_
    refine P_seg [26, 27] (bef := #[0, 1, 3, 7, 15, 31, 63, 127, 255, 511, 63, 1087, 3135, 7231, 15423, 32767, 65535, 131071, 262143, 524287, 524287, 524287, 524287, 4718591, 15204351, 33554431, 67108863, 134217727]) XH2 XH2 XH2 ?_
    refine Oo u84 .calm rfl (Ya rfl rfl rfl) ?_
    refine Oo u84 .calm rfl (Zb (.inr rfl) rfl) ?_
    refine ZU [] XH2 (trivial) ?_
    refine P_end XH2 ?_
    refine Zd (Ze ?_)
    refine ZZ [0, 1, 2, 3, 4, 5, 6, 7, 8, 9, 10, 11, 12, 13, 14] #[0, 0, 2, 6, 14, 0, 32, 96, 224, 480, 992, 2046, 4095, 8191, 16383] XH2 XH2 XH2 ?_
    refine Oo u84 .calm rfl (Zb (.inl rfl) rfl) ?_
    refine Oo u84 .calm rfl (Zb (.inl rfl) rfl) ?_
    refine Oo u84 .calm rfl (rfl) ?_
    refine Oo u84 .calm rfl (rfl) ?_
    refine Oo u84 .look rfl (W3e rfl rfl rfl rfl) ?_
    refine Oo u84 .calm rfl (Zb (.inl rfl) rfl) ?_
    refine Oo u84 .calm rfl (rfl) ?_
    refine Oo u84 .calm rfl (rfl) ?_
    refine Oo u84 .look rfl (W3e rfl rfl rfl rfl) ?_
    refine Oo u84 .look rfl (XH24) ?_
    refine Oo u84 .calm rfl (W3g rfl rfl rfl) ?_
    refine O_opX .calm rfl rfl rfl (XH16) rfl rfl ?_
    rintro v4 _ ⟨rfl, hr4⟩
    refine O_env (env' := u84) rfl ?_
    refine Oo u84 .calm rfl (rfl) ?_
    refine Oo u84 .calm rfl (rfl) ?_
    refine Oo u84 .turn rfl (ZX rfl rfl rfl rfl hr4.cells rfl (by simp [hr4.one]) (wk_at (n := 2) (by decide) rfl) (Nat.le_of_ble_eq_true rfl) wk_setr) ?_
    refine ZU [] XH2 (trivial) ?_
    refine Zd (Ze (Za ?_))
    refine Lo u84 (Zb (.inl rfl) rfl) ?_
    refine Lo u84 (rfl) ?_
    refine Zf (Zd ?_)
    refine ZV rfl rfl ?_
    refine Ze (Za ?_)
    refine Lo u84 (Zh (VVal.bool false) (.inr rfl) rfl) ?_
    refine Zf (Zd (Zk (ZJ (Zq (Yw (ZJ (Zq ?_)))))))
    refine E_keep (.inr rfl) (Zi rfl rfl) ?_
    exact W3h
  ·skip
   refine P_env (env' := u84) rfl ?_
   refine P_seg [16, 17, 18, 19, 20, 21, 22, 23, 24] (bef := #[0, 1, 3, 7, 15, 31, 63, 127, 255, 511, 63, 1087, 3135, 7231, 15423, 32767, 65535, 131071, 262143, 524287, 524287, 524287, 524287, 4718591, 15204351, 33554431, 67108863, 134217727]) XH2 XH2 XH2 ?_
   refine Oo u84 .calm rfl (rfl) ?_
   refine Oo u84 .calm rfl (ZA rfl rfl rfl) ?_
   refine Oo u84 .calm rfl (Zb (.inl rfl) rfl) ?_
   refine Of u84 rfl ?_
   refine Of u84 rfl ?_
   refine Of u84 rfl ?_
   refine Of u84 rfl ?_
   refine Of u84 rfl ?_
   refine Of u84 rfl ?_
   refine ZU [] XH2 (trivial) ?_
   refine P_seg [25, 26, 27] (bef := #[0, 1, 3, 7, 15, 31, 63, 127, 255, 511, 63, 1087, 3135, 7231, 15423, 32767, 65535, 131071, 262143, 524287, 524287, 524287, 524287, 4718591, 15204351, 33554431, 67108863, 134217727]) XH2 XH2 XH2 ?_
   refine Of u84 rfl ?_
   refine Oo u84 .calm rfl (Ys (VVal.bool true) rfl rfl rfl) ?_
   refine Oo u84 .calm rfl (Zb (.inr rfl) rfl) ?_
   refine ZU [] XH2 (trivial) ?_
   refine P_end XH2 ?_
   refine Zd (Ze ?_)
   refine ZZ [0, 1, 2, 3, 4, 5, 6, 7, 8, 9, 10, 11, 12, 13, 14] #[0, 0, 2, 6, 14, 0, 32, 96, 224, 480, 992, 2046, 4095, 8191, 16383] XH2 XH2 XH2 ?_
   refine Oo u84 .calm rfl (Zb (.inl rfl) rfl) ?_
   refine Oo u84 .calm rfl (Zb (.inl rfl) rfl) ?_
   refine Oo u84 .calm rfl (rfl) ?_
   refine Oo u84 .calm rfl (rfl) ?_
   refine Oo u84 .look rfl (W3e rfl rfl rfl rfl) ?_
   refine Oo u84 .calm rfl (Zb (.inl rfl) rfl) ?_
   refine Oo u84 .calm rfl (rfl) ?_
   refine Oo u84 .calm rfl (rfl) ?_
   refine Oo u84 .look rfl (W3e rfl rfl rfl rfl) ?_
   refine Oo u84 .look rfl (XH24) ?_
   refine Oo u84 .calm rfl (W3g rfl rfl rfl) ?_
   refine O_opX .calm rfl rfl rfl (XH16) rfl rfl ?_
   rintro v4 _ ⟨rfl, hr4⟩
   refine O_env (env' := u84) rfl ?_
   refine Oo u84 .calm rfl (rfl) ?_
   refine Oo u84 .calm rfl (rfl) ?_
   refine Oo u84 .turn rfl (ZX rfl rfl rfl rfl hr4.cells rfl (by simp [hr4.one]) (wk_at (n := 2) (by decide) rfl) (Nat.le_of_ble_eq_true rfl) wk_setr) ?_
   refine ZU [] XH2 (trivial) ?_
   refine Zd (Ze (Za ?_))
   refine Lo u84 (Zb (.inl rfl) rfl) ?_
   refine Lo u84 (rfl) ?_
   refine Zf (Zd ?_)
   refine Yb rfl rfl ?_
   refine Zo (ZB (Zd (Za ?_)))
   refine Lo u84 (Zb (.inl rfl) rfl) ?_
   refine Lo u84 (W14 rfl rfl rfl) ?_
   refine Lo u84 (Zb (.inr rfl) rfl) ?_
   refine Zf ?_
   refine ZR (mk 84 19342813113834066795298680) (env' := u84) rfl ⟨k + 1, ?_, rfl, ?_⟩
   ·first | omega | (simp only []; omega)
   ·first | exact ⟨by omega, _, _, d + (kpG u ws rss (row ++ [k]) + (frm (kpB ws rss) (kpG u ws rss) n (row ++ [k]) (max (szP row row.length) (k + 1))).1), by simp only [Gz.assoc], hr4, by rw [hx, frR_on (by omega) hk1 ho]; simp only [Gz.assoc]⟩ | exact ⟨by omega, _, _, d + kpG u ws rss (row ++ [k]), by simp only [Gz.assoc], hr4, by rw [hx, frR_no (by omega) hk1]; simp only [Gz.assoc]⟩
 ·try simp only [qB, qN] at hc1
  refine ZO (ZM (ZE (ZN (Zd (Ze (Za ?_))))))
  refine Lo u84 (Zh (VVal.bool true) (.inr rfl) rfl) ?_
  refine Zf (Zd (Zk ?_))
  refine E_keep (.inr rfl) (Zi rfl rfl) ?_
  exact W3h
abbrev u29 {a0 a1 a2 a3 a4 a5 a6 a7 a8 a9 a10 a11 a12 a13 a14 a15 a16 a17 a18 a19 a20 a21 a22 a23 a24 a25 a26 a27 a28 : VVal} : VEnv := a0 :: a1 :: a2 :: a3 :: a4 :: a5 :: a6 :: a7 :: a8 :: a9 :: a10 :: a11 :: a12 :: a13 :: a14 :: a15 :: a16 :: a17 :: a18 :: a19 :: a20 :: a21 :: a22 :: a23 :: a24 :: a25 :: a26 :: a27 :: a28 :: []
theorem W3k {T : TypeId → Option VTy} {H : Zc} {op : Op} {ρ : Operand → VVal} {t : TypeId} {a : Operand} {y : VTy} {p v : VVal} (ho : op = .load t a) (ha : ρ a = p) (hy : T t = some y) (hd : Zj y.desc = false) (h : LdOk H p v := by first | exact .inl ⟨_, _, rfl, by rfl⟩ | exact .inr ⟨_, _, _, _, rfl, by exact Zx (List.length_set) hX, by rfl⟩) : vop T ρ H op = some (v, H) := v_ld ho ha hy hd h
theorem from_spec {x : SW} (H : Zc) {u y : Nat} {ws : List (BitVec 64)} {rss : List (List Rul)} (hy : y < H.length) (hn : ws.length ≤ 1000000) (hr : rss.length = ws.length) (hR : ∀ i, (rss.getD i []).length ≤ 1000000 ∧ ∀ r, r ∈ rss.getD i [] → r.steps.length ≤ 1000000) : ∀ (n : Nat) (row : List Nat) (rv : VVal) (X : Zc) (g : Gz) (hp : Pat row) (hrv : RV (H.length + 3) X rv (rcN row)) (h0 : row = [] → rv = niS), row.length + n = ws.length → F (psys x) 84 [.ptr (some (H.length + 2, 0)), iI (ws.length : Nat), iI (szP row row.length : Nat)] (wkH H y (kpV u ws rss y) rv niS g ++ X) (frPost H y (kpV u ws rss y) g row (frm (kpB ws rss) (kpG u ws rss) n row (szP row row.length)))
  | 0, row, rv, X, g, hp, hrv, h0, hl => from_0 H hy hn hr hR row rv X g hp hrv h0 hl
  | n + 1, row, rv, X, g, hp, hrv, h0, hl => from_s H hy hn hr hR n (fun row rv X g a b c d => from_spec H hy hn hr hR n row rv X g a b c d) row rv X g hp hrv h0 hl
theorem from_in {x : SW} (H : Zc) {u y : Nat} {ws : List (BitVec 64)} {rss : List (List Rul)} (g : Gz) (hs : H[y]? = some (gaB g)) (hn : ws.length ≤ 1000000) (hr : rss.length = ws.length) (hR : ∀ i, (rss.getD i []).length ≤ 1000000 ∧ ∀ r, r ∈ rss.getD i [] → r.steps.length ≤ 1000000) : F (psys x) 84 [.ptr (some (H.length + 2, 0)), iI (ws.length : Nat), iI 0] (H ++ [.cells [iI 1] true, .cells [niS] true, .cells [niS, (kpV u ws rss y), fdV H] true])
    fun v G => ∃ b X w, v = .bool b ∧ G = H.set y (gaB (g + (frm (kpB ws rss) (kpG u ws rss) ws.length [] 0).1)) ++ X ∧ X[1]? = some (.cells [w] true) ∧ LV H.length 1 X w ((frm (kpB ws rss) (kpG u ws rss) ws.length [] 0).2.toList.map fzN) (frm (kpB ws rss) (kpG u ws rss) ws.length [] 0).2.toList.length := by
  have := from_spec (x := x) (u := u) H (Zw hs) hn hr hR ws.length [] niS [] g Pat_nil (RV.nil _ _) (fun _ => rfl) (Nat.zero_add _)
  rw [List.append_nil, show wkH H y (kpV u ws rss y) niS niS g = H ++ [.cells [iI 1] true, .cells [niS] true, .cells [niS, (kpV u ws rss y), fdV H] true] by unfold wkH; rw [← set_keep hs]] at this
  refine this.mono ?_
  rintro v G ⟨rv, X, hr, (⟨ho, rfl, rfl⟩ | ⟨s, w, ho, rfl, rfl, hw⟩)⟩
  · have ho : (frm (kpB ws rss) (kpG u ws rss) ws.length [] 0).2 = none := ho
    rw [ho]
    exact ⟨true, _ :: _ :: _ :: X, niS, rfl, by unfold wkH; rw [List.append_assoc]; rfl, rfl, LV.nil _ _ _⟩
  · have ho : (frm (kpB ws rss) (kpG u ws rss) ws.length [] 0).2 = some s := ho
    rw [ho]
    exact ⟨false, _, w, rfl, by unfold wkH; rw [List.append_assoc]; rfl, rfl, LV.behind (X := [.cells [iI 1] true, .cells [w] true, .cells [rv, (kpV u ws rss y), fdV H] true]) rfl hw⟩
theorem Search_spec {x : SW} (H : Zc) {u y : Nat} {ws : List (BitVec 64)} {rss : List (List Rul)} (g : Gz) (hs : H[y]? = some (gaB g)) (hn : ws.length ≤ 1000000) (hr : rss.length = ws.length) (hR : ∀ i, (rss.getD i []).length ≤ 1000000 ∧ ∀ r, r ∈ rss.getD i [] → r.steps.length ≤ 1000000) (h12 : ws.length ≤ 12) : F (psys x) 52 [iI (ws.length : Nat), iI 1, (kpV u ws rss y)] H fun v G => v = .fsl ((frm (kpB ws rss) (kpG u ws rss) ws.length [] 0).2.toList.map fzN) (frm (kpB ws rss) (kpG u ws rss) ws.length [] 0).2.toList.length 1 false ∧ G = H.set y (gaB (g + (frm (kpB ws rss) (kpG u ws rss) ws.length [] 0).1)) := by
 refine Zs Tryd.func52 rfl u29 rfl ?_
 refine Ze (Za ?_)
 refine Lo u29 (Zy rfl rfl rfl) ?_
 refine Lo u29 (Zh (VVal.slice none 0 0 true 0) (.inr rfl) rfl) ?_
 refine Zf (Zd (Ze (Za ?_)))
 refine Lo u29 (W12 rfl rfl rfl rfl) ?_
 refine Lo u29 (rfl) ?_
 refine Lo u29 (W13 rfl rfl rfl rfl rfl rfl rfl) ?_
 refine Zf (Zd (Ze (Ze (Za ?_))))
 refine Lo u29 (Zb (.inl rfl) rfl) ?_
 refine Lo u29 (v_is false rfl (by simp)) ?_
 refine Lo u29 (Zb (.inl rfl) rfl) ?_
 refine Lo u29 (Zb (.inl rfl) rfl) ?_
 refine Lo u29 (v_is false rfl (by simp; omega)) ?_
 refine Lo u29 (Ya rfl rfl rfl) ?_
 refine Lo u29 (Zb (.inl rfl) rfl) ?_
 refine Lo u29 (W12 rfl rfl rfl rfl) ?_
 refine Lo u29 (rfl) ?_
 refine Lo u29 (Ya rfl rfl rfl) ?_
 refine Zf (Zd ?_)
 refine Yb rfl rfl ?_
 refine Zo (Zd (Ze (Za ?_)))
 refine Lo u29 (ZG rfl rfl) ?_
 refine Zf (Zd (Ze (Za ?_)))
 refine Lo u29 (Zb (.inl rfl) rfl) ?_
 refine Lo u29 (v_func [_, _] rfl rfl) ?_
 refine Lo u29 (rfl) ?_
 refine Lo u29 (Zy rfl rfl rfl) ?_
 refine Lo u29 (Zb (.inr rfl) rfl) ?_
 refine Zf (Zd (Ze (Za ?_)))
 refine Lo u29 (Zb (.inl rfl) rfl) ?_
 refine Lo u29 (Zb (.inl rfl) rfl) ?_
 refine Zl rfl rfl rfl (by exact from_in H g hs hn hr hR) ?_
 rintro _ _ ⟨b, X, w, rfl, rfl, hX, hw⟩
 refine Le u29 ?_
 refine Zf (Zd (Ze (Za ?_)))
 refine Lo u29 (W3k rfl rfl rfl rfl) ?_
 refine Lo u29 (Zb (.inr rfl) rfl) ?_
 refine Zf (Zd (Zk ?_))
 refine E_gh (.inr rfl) (Zi rfl rfl) (Gh.ansLV (B := H.set y (gaB (g + (frm (kpB ws rss) (kpG u ws rss) ws.length [] 0).1))) (BaseOk.set (BaseOk.refl _) _ rfl) (by rw [List.length_set]; exact hw) (VVal.underL_map (f := fzN) fun a => mapN_under _ a)) ?_
 exact ⟨rfl, rfl⟩
def wsP (p : Pb) : List (BitVec 64) := (List.range p.who.length).map (wrd p)
theorem Ye {p : Pb} : (wsP p).length = p.who.length := by unfold wsP; simp
theorem wsP_take {p : Pb} {k : Nat} (h : k < p.who.length) : (wsP p).take (k + 1) = (wsP p).take k ++ [wrd p k] := by
  rw [Yv (d := 0) (by rw [Ye]; exact h)]
  congr 2
  unfold wsP
  rw [List.getD_eq_getElem?_getD, List.getElem?_map, List.getElem?_range h]; rfl
abbrev nwB (u : Int) (n y b : Nat) (wv : VVal) (vs : List VVal) : Zc := [.dead, .cells vs true, .cells [iI u, wv, .slice (some (b, 0)) n n true 1, .ptr (some (y, 0))] true]
theorem rep1 (v : VVal) : ∀ n : Nat, Zu [v] n = List.replicate n v
  | 0 => rfl
  | n + 1 => by rw [List.replicate_succ, ← rep1 v n]; rfl
theorem vget {l : List VVal} {k : Nat} (h : k < l.length) : l[0 + k * 1]? = some (l.getD k .skip) := by
  rw [show 0 + k * 1 = k by omega, List.getD_eq_getElem?_getD, List.getElem?_eq_getElem h]; rfl
theorem rck_in {n : Int} {r : Rul} (h : rck n r = true) {s : Nat} (hs : s < r.steps.length) : 0 ≤ r.steps.getD s 0 ∧ r.steps.getD s 0 < n := by
  unfold rck at h
  rw [Bool.and_eq_true, Bool.and_eq_true] at h
  have := riseA_mem _ _ h.2.1 _ (mem_getI hs)
  omega
theorem spl_v {l : List VVal} {k : Nat} {w : VVal} (h : k < l.length) : Zv l (0 + k * 1) [w] = l.set k w := by
  rw [show 0 + k * 1 = k by omega]
  unfold Zv
  rw [List.set_eq_take_append_cons_drop, if_pos h]; simp
abbrev u72 {a0 a1 a2 a3 a4 a5 a6 a7 a8 a9 a10 a11 a12 a13 a14 a15 a16 a17 a18 a19 a20 a21 a22 a23 a24 a25 a26 a27 a28 a29 a30 a31 a32 a33 a34 a35 a36 a37 a38 a39 a40 a41 a42 a43 a44 a45 a46 a47 a48 a49 a50 a51 a52 a53 a54 a55 a56 a57 a58 a59 a60 a61 a62 a63 a64 a65 a66 a67 a68 a69 a70 a71 : VVal} : VEnv := a0 :: a1 :: a2 :: a3 :: a4 :: a5 :: a6 :: a7 :: a8 :: a9 :: a10 :: a11 :: a12 :: a13 :: a14 :: a15 :: a16 :: a17 :: a18 :: a19 :: a20 :: a21 :: a22 :: a23 :: a24 :: a25 :: a26 :: a27 :: a28 :: a29 :: a30 :: a31 :: a32 :: a33 :: a34 :: a35 :: a36 :: a37 :: a38 :: a39 :: a40 :: a41 :: a42 :: a43 :: a44 :: a45 :: a46 :: a47 :: a48 :: a49 :: a50 :: a51 :: a52 :: a53 :: a54 :: a55 :: a56 :: a57 :: a58 :: a59 :: a60 :: a61 :: a62 :: a63 :: a64 :: a65 :: a66 :: a67 :: a68 :: a69 :: a70 :: a71 :: []
theorem W3r {T : TypeId → Option VTy} {H : Zc} {op : Op} {ρ : Operand → VVal} {t : TypeId} {a : Operand} {y : VTy} {p v : VVal} (ho : op = .load t a) (ha : ρ a = p) (hy : T t = some y) (hd : Zj y.desc = false) (h : LdOk H p v := by first | exact .inl ⟨_, _, rfl, by exact vget (by rw [hlen]; exact hi)⟩ | exact .inr ⟨_, _, _, _, rfl, by exact getB rfl rfl, by exact vget (by rw [hlen]; exact hi)⟩) : vop T ρ H op = some (v, H) := v_ld ho ha hy hd h
theorem W3s {T : TypeId → Option VTy} {H : Zc} {op : Op} {ρ : VEnv} {H' : Zc} {t : TypeId} {a : Operand} {i : Nat} {v : VVal} {y : VTy} {b off : Nat} {cs new : List VVal} (ho : op = .store t a (.tmp i)) (hv : ρ[i]? = some v) (ha : ρ.eval a = .ptr (some (b, off))) (hy : T t = some y) (hx : v.cells = some new) (hn : new.length = y.size) (h1 : new.all VVal.one = true) (hb : H[b]? = some (.cells cs true) := by exact getB rfl rfl) (hl : off + new.length ≤ cs.length := by show 0 + _ * 1 + 1 ≤ vs.length; omega) (hH : H.set b (.cells (Zv cs off new) true) = H' := by exact (setB rfl (show 1 < 3 from by decide)).trans (by show H ++ List.set _ 1 (VBlk.cells (Zv vs (0 + ((p.rules.getD m r0).steps.getD s 0).toNat * 1) [_]) true) ++ _ = _; rw [spl_v (by rw [hlen]; exact hi)])) : vop T ρ.eval H op = some (.skip, H') := ZX ho hv ha hy hx hn h1 hb hl hH
theorem W3t {S : V.Sys} {H : Zc} {fn : Func} {ex : Exit} {env : VEnv} {B L : Zc} {v : VVal} {R : VVal → Zc → Prop} (hx : ex = .normal ∨ ex = .ret) (hv : ZW S.C.T env (B ++ L) fn.results = some v) (h : R v B) (hB : BaseOk H B := by exact BaseOk.refl _) (hu : v.under H.length = true := by exact huUnder hy _ _ _) : fnK S fn H R ex env (B ++ L) := E_app hx hv hB hu h
theorem New_spec {x : SW} (H : Zc) (p : Pb) (y : Nat) (hy : y < H.length) (g : Go.V.Good p) : F (psys x) 51 [.agg (pbB p), .ptr (some (y, 0))] H fun v G => v = huP p.users (fzW (wsP p)) (fzRR (Z8 p)) y ∧ G = H := by
 have g1 := g.n12; have g3 := g.r32; have g5 := g.fx
 have gs := fun r hr => rck_len (g.ru r hr)
 refine Zs Tryd.func51 rfl u72 rfl ?_
 refine Ze (Za ?_)
 refine Lo u72 (Zy rfl rfl rfl) ?_
 refine Lo u72 (Zh (VVal.ptr none) (.inr rfl) rfl) ?_
 refine Zf (Zd (Ze ?_))
 refine B_gh (Gh.freezePtrL (cs := pbB p) 2 0 rfl rfl rfl) ?_
 refine ZZ [0, 1, 2, 3, 4, 5, 6, 7, 8, 9] #[0, 1, 0, 4, 12, 28, 0, 127, 255, 511] XH2 XH2 XH2 ?_
 refine Oo u72 .calm rfl (rfl) ?_
 refine Oo u72 .look rfl (W1t rfl rfl rfl rfl) ?_
 refine Oo u72 .calm rfl (rfl) ?_
 refine Oo u72 .look rfl (W1t rfl rfl rfl rfl) ?_
 refine Oo u72 .look rfl (rfl) ?_
 refine Oo u72 .grow rfl (v_makeSlice rfl rfl rfl rfl rfl (by decide) ⟨by omega, Int.le_refl _, by show (p.who.length : Int) * (24 : Nat) ≤ _; omega, by omega⟩) ?_
 refine Oo u72 .calm rfl (Zb (.inl rfl) rfl) ?_
 refine Oo u72 .calm rfl (rfl) ?_
 refine Oo u72 .grow rfl (Zy rfl rfl rfl) ?_
 refine Oo u72 .calm rfl (Zb (.inr rfl) rfl) ?_
 refine ZU [] XH2 (trivial) ?_
 refine Zd (Ze (Ze (Za ?_)))
 refine Lo u72 (rfl) ?_
 refine Lo u72 (W1t rfl rfl rfl rfl) ?_
 refine Lo u72 (rfl) ?_
 refine Lo u72 (Zh (VVal.int .i64 0) (.inl rfl) rfl) ?_
 refine Zf (Zd (Zn ?_))
 refine ZD (mk 72 4722366482869632630747) (env' := u72) rfl ?_
 refine ZH (fun (k : Nat) => p.who.length - k) (fun (k : Nat) => [(23, iI (k : Nat))]) (fun (k : Nat) G => (k ≤ p.who.length) ∧ ∃ wv X, G = (H ++ nwB p.users p.who.length y (H.length + 1) wv (List.replicate p.who.length niS)) ++ X ∧ LV (H.length + 3) 1 X wv (((wsP p).take k).map iW) ((wsP p).take k).length) 0 rfl ?_ ?_
 ·refine ⟨?_, ⟨_, [], by rw [List.append_nil, ← rep1]; rfl, LV.nil _ _ _⟩⟩
  exact Nat.zero_le _
 rintro k _ ⟨hk, ⟨wv, X, rfl, hl⟩⟩
 refine Z4 (env' := u72) rfl ?_
 refine Ze (Za ?_)
 refine Lo u72 (rfl) ?_
 refine Zf (Zd (Ze ?_))
 refine Zp _ rfl (fun hc1 => ?_) (fun hc1 => ?_)
 ·try simp only [qB, qN] at hc1
  refine Zo (Zd (Ze (Zn (Ze (Za ?_)))))
  refine Lo u72 (Zb (.inl rfl) rfl) ?_
  refine Lo u72 (Zb (.inr rfl) rfl) ?_
  refine Zf (Zd ?_)
  refine ZZ [0, 1, 2, 3, 4, 5, 6, 7, 8, 9, 10, 11, 12] #[0, 0, 2, 6, 14, 0, 0, 96, 224, 510, 1023, 2047, 4095] XH2 XH2 XH2 ?_
  refine Oo u72 .calm rfl (Zb (.inl rfl) rfl) ?_
  refine Oo u72 .calm rfl (Zb (.inl rfl) rfl) ?_
  refine Oo u72 .calm rfl (rfl) ?_
  refine Oo u72 .calm rfl (rfl) ?_
  refine Yg (env' := u72) (x := .look _ _) rfl rfl rfl (W1t rfl rfl rfl rfl) rfl rfl rfl ?_
  refine Oo u72 .look rfl (W1x rfl rfl rfl rfl rfl) ?_
  refine Oo u72 .calm rfl (Zb (.inl rfl) rfl) ?_
  refine Z7 (env' := u72) rfl rfl rfl rfl rfl (by exact Word_spec _ _ _ (by omega) (by omega)) XH9 rfl rfl ?_
  refine Oo u72 .grow rfl (Zt rfl rfl (by decide) rfl) ?_
  refine O_opX .turn rfl rfl rfl (YE rfl rfl rfl rfl rfl rfl rfl (by simp) hl rfl rfl (by decide) (by rw [List.length_take]; show (_ + 1) * 8 ≤ _ ∧ _ + 1 ≤ _; omega) (by decide)) rfl rfl ?_
  rintro _ _ ⟨Y1, rfl, rfl, hY1, hY2, hY3⟩
  refine O_env (env' := u72) rfl ?_
  refine Oo u72 .calm rfl (rfl) ?_
  refine Oo u72 .calm rfl (rfl) ?_
  refine Oo u72 .turn rfl (W13 rfl rfl rfl rfl rfl rfl rfl) ?_
  refine ZU [_] (by rfl) (And.intro (And.intro (W1t rfl rfl rfl rfl) (W1t rfl rfl rfl rfl)) trivial) ?_
  refine ZB (Zd (Za ?_))
  refine Lo u72 (W14 rfl rfl rfl) ?_
  refine Lo u72 (Zb (.inl rfl) rfl) ?_
  refine Zf ?_
  refine ZR (mk 72 4722366482869632630747) (env' := u72) rfl ⟨k + 1, ?_, rfl, ?_⟩
  ·first | omega | (simp only []; omega)
  ·exact ⟨by omega, _, _, rfl, by rw [wsP_take (by omega)]; exact LV.pushW hY3⟩
 ·try simp only [qB, qN] at hc1
  refine ZO (ZM (ZE (ZN (Zd (Ze (Ze ?_))))))
  obtain rfl : k = p.who.length := by omega
  rw [List.take_of_length_le (by rw [Ye]; omega)] at hl
  refine B_ghCell 2 1 hl rfl rfl (by simp) fun X1 _ _ => ?_
  refine Za ?_
  refine Lo u72 (rfl) ?_
  refine Lo u72 (W1t rfl rfl rfl rfl) ?_
  refine Lo u72 (rfl) ?_
  refine Lo u72 (Zh (VVal.int .i64 0) (.inl rfl) rfl) ?_
  refine Zf (Zd (Zn ?_))
  refine ZD (mk 72 4722366475173063819231) (env' := u72) rfl ?_
  refine ZH (fun (m : Nat) => p.rules.length - m) (fun (m : Nat) => [(42, iI (m : Nat))]) (fun (m : Nat) G => (m ≤ p.rules.length) ∧ ∃ Z vs, G = (H ++ nwB p.users p.who.length y (H.length + 1) (fzW (wsP p)) vs) ++ Z ∧ RW rlB 3 (H.length + 3) Z vs (addR p.who.length p.rules m)) 0 rfl ?_ ?_
  ·refine ⟨?_, ⟨_, _, rfl, RW.init⟩⟩
   exact Nat.zero_le _
  rintro m _ ⟨hm, ⟨Z, vs, rfl, hr⟩⟩
  refine Z4 (env' := u72) rfl ?_
  refine Ze (Za ?_)
  refine Lo u72 (rfl) ?_
  refine Zf (Zd (Ze ?_))
  refine Zp _ rfl (fun hc2 => ?_) (fun hc2 => ?_)
  ·try simp only [qB, qN] at hc2
   refine Zo (Zd (Ze (Zn (Ze (Za ?_)))))
   refine Lo u72 (W18 rfl rfl rfl rfl rfl rfl rfl) ?_
   refine Lo u72 (W1x rfl rfl rfl rfl rfl) ?_
   refine Lo u72 (ZG rfl rfl) ?_
   refine Lo u72 (W13 rfl rfl rfl rfl rfl rfl rfl) ?_
   refine Zf (Zd (Ze ?_))
   refine B_gh (Gh.freezeEnd (cs := rlB (p.rules.getD m r0)) 8 rfl rfl) ?_
   refine Za ?_
   refine Lo u72 (rfl) ?_
   refine Lo u72 (W1t rfl rfl rfl rfl) ?_
   refine Lo u72 (rfl) ?_
   refine Lo u72 (Zh (VVal.int .i64 0) (.inl rfl) rfl) ?_
   refine Zf (Zd (Zn ?_))
   refine ZD (mk 72 4722365490010645331679) (env' := u72) rfl ?_
   refine ZH (fun (s : Nat) => (p.rules.getD m r0).steps.length - s) (fun (s : Nat) => [(49, iI (s : Nat))]) (fun (s : Nat) G => (s ≤ (p.rules.getD m r0).steps.length) ∧ ∃ Z vs, G = (H ++ nwB p.users p.who.length y (H.length + 1) (fzW (wsP p)) vs) ++ Z ∧ RW rlB 3 (H.length + 3) Z vs (addS (p.rules.getD m r0) (addR p.who.length p.rules m) s)) 0 rfl ?_ ?_
   ·refine ⟨?_, ⟨_, vs, rfl, hr.app _⟩⟩
    exact Nat.zero_le _
   rintro s _ ⟨hs, ⟨Z, vs, rfl, hr⟩⟩
   refine Z4 (env' := u72) rfl ?_
   refine Ze (Za ?_)
   refine Lo u72 (rfl) ?_
   refine Zf (Zd (Ze ?_))
   refine Zp _ rfl (fun hc3 => ?_) (fun hc3 => ?_)
   ·try simp only [qB, qN] at hc3
    refine Zo (Zd (Ze (Zn (Ze (Za ?_)))))
    refine Lo u72 (W18 rfl rfl rfl rfl rfl rfl rfl) ?_
    refine Lo u72 (W1t rfl rfl rfl rfl) ?_
    refine Lo u72 (Zb (.inr rfl) rfl) ?_
    refine Zf (Zd ?_)
    have hin := rck_in (g.ru _ (rul_mem (l := p.rules) (k := m) (by omega))) (s := s) (by omega)
    have hlen := hr.len
    have hi : ((p.rules.getD m r0).steps.getD s 0).toNat < (addS (p.rules.getD m r0) (addR p.who.length p.rules m) s).length := by rw [addS_len, addR_len]; omega
    have hv9 := hr.lv _ hi
    have hb1 := @addS_row (p.rules.getD m r0) (addR p.who.length p.rules m) ((p.rules.getD m r0).steps.getD s 0).toNat s
    have hb2 := addR_row (n := p.who.length) (i := ((p.rules.getD m r0).steps.getD s 0).toNat) gs (m := m) (by omega)
    have hb3 := gs _ (rul_mem (l := p.rules) (k := m) (by omega))
    refine ZZ [0, 1, 2, 3, 4, 5, 6, 7, 8, 9, 10, 11, 12, 13, 14, 15, 16] #[0, 1, 3, 7, 0, 0, 32, 96, 224, 0, 992, 2016, 0, 4096, 16352, 32767, 65535] XH2 XH2 XH2 ?_
    refine Oo u72 .calm rfl (Zb (.inl rfl) rfl) ?_
    refine Oo u72 .calm rfl (rfl) ?_
    refine Oo u72 .calm rfl (rfl) ?_
    refine Yg (env' := u72) (x := .look _ _) rfl rfl rfl (W1t rfl rfl rfl rfl) rfl rfl rfl ?_
    refine Oo u72 .calm rfl (Zb (.inl rfl) rfl) ?_
    refine Oo u72 .calm rfl (Zb (.inl rfl) rfl) ?_
    refine Oo u72 .calm rfl (rfl) ?_
    refine Oo u72 .calm rfl (rfl) ?_
    refine Oo u72 .look rfl (W1t rfl rfl rfl rfl) ?_
    refine Oo u72 .calm rfl (Zb (.inl rfl) rfl) ?_
    refine Oo u72 .calm rfl (W1g rfl rfl rfl rfl rfl rfl rfl) ?_
    refine Oo u72 .look rfl (W3r rfl rfl rfl rfl) ?_
    refine Oo u72 .look rfl (W1x rfl rfl rfl rfl rfl) ?_
    refine Oo u72 .grow rfl (Zt rfl rfl (by decide) rfl) ?_
    refine O_opXI (fun _ G => .turn _ G) rfl rfl rfl (YE rfl rfl rfl rfl rfl rfl rfl (by simp) hv9 rfl rfl (by decide) (by show (_ + 1) * 40 ≤ _ ∧ _ + 1 ≤ _; omega) (by decide)) (fun _ _ => rfl) ?_
    rintro _ _ ⟨Y1, rfl, rfl, hY1, hY2, hY3⟩
    refine O_env (env' := u72) rfl ?_
    refine Oo u72 .calm rfl (W1g rfl rfl rfl rfl rfl rfl rfl) ?_
    refine Oo u72 .turn rfl (W3s rfl rfl rfl rfl rfl rfl rfl) ?_
    refine ZU [_] (by rfl) (And.intro (And.intro (W1t rfl rfl rfl rfl) (W1t rfl rfl rfl rfl)) trivial) ?_
    refine ZB (Zd (Za ?_))
    refine Lo u72 (W14 rfl rfl rfl) ?_
    refine Lo u72 (Zb (.inl rfl) rfl) ?_
    refine Zf ?_
    refine ZR (mk 72 4722365490010645331679) (env' := u72) rfl ⟨s + 1, ?_, rfl, ?_⟩
    ·first | omega | (simp only []; omega)
    ·exact ⟨by omega, _, _, rfl, RW.step hr hi hY2 hY3⟩
   ·try simp only [qB, qN] at hc3
    refine ZO (ZM (ZE (ZN (ZB (Zd (Za ?_))))))
    refine Lo u72 (W14 rfl rfl rfl) ?_
    refine Lo u72 (Zb (.inl rfl) rfl) ?_
    refine Zf ?_
    refine ZR (mk 72 4722366475173063819231) (env' := u72) rfl ⟨m + 1, ?_, rfl, ?_⟩
    ·first | omega | (simp only []; omega)
    ·(obtain rfl : s = (p.rules.getD m r0).steps.length := by omega); exact ⟨by omega, Z, vs, rfl, hr⟩
  ·try simp only [qB, qN] at hc2
   refine ZO (ZM (ZE (ZN (Zd (Ze ?_)))))
   obtain rfl : m = p.rules.length := by omega
   refine B_ghRW 1 hr rfl (by simp) fun Z9 => ?_
   refine B_gh (Gh.cellL (l := (Z8 p).map fzR) 2 2 1 rfl rfl (by decide) rfl (cellsAt_all (by rw [List.length_map]; exact addR_len.symm)) (Nat.le_refl _)) ?_
   refine B_gh (Gh.freezePtrL (cs := huC p.users (fzW (wsP p)) (.fsl ((Z8 p).map fzR) p.who.length 1 false) y) 5 2 rfl rfl rfl) ?_
   rw [show huC p.users (fzW (wsP p)) (.fsl ((Z8 p).map fzR) p.who.length 1 false) y = huC p.users (fzW (wsP p)) (fzRR (Z8 p)) y by unfold fzRR; rw [show (Z8 p).length = p.who.length from addR_len]]
   refine Za ?_
   refine Lo u72 (Zb (.inl rfl) rfl) ?_
   refine Lo u72 (Zb (.inr rfl) rfl) ?_
   refine Zf (Zd (Zk ?_))
   refine W3t (.inr rfl) (Zi rfl rfl) ?_
   exact ⟨rfl, rfl⟩
theorem W3u {S : V.Sys} {H : Zc} {fn : Func} {ex : Exit} {env : VEnv} {B L : Zc} {v : VVal} {R : VVal → Zc → Prop} (hx : ex = .normal ∨ ex = .ret) (hv : ZW S.C.T env (B ++ L) fn.results = some v) (h : R v B) (hB : BaseOk H B := by exact XH36) (hu : v.under H.length = true := by first | rfl | exact rc_under _ _) : fnK S fn H R ex env (B ++ L) := E_app hx hv hB hu h
theorem Clip_spec {x : SW} (H : Zc) (us : List Nat) : F (psys x) 136 [fzN us] H fun v G => v = .fsl (rcN us) us.length 1 true ∧ G = H := by
 refine Zs Tryd.func136 rfl u9 rfl ?_
 refine Ze (Za ?_)
 refine Lo u9 (Zh (VVal.slice none 0 0 true 0) (.inr rfl) rfl) ?_
 refine Zf (Zd (Ze (Za ?_)))
 refine Lo u9 (Zb (.inl rfl) rfl) ?_
 refine Lo u9 (Zb (.inl rfl) rfl) ?_
 refine Lo u9 (rfl) ?_
 refine Lo u9 (Zb (.inl rfl) rfl) ?_
 refine Lo u9 (rfl) ?_
 refine Lo u9 (v_clipN rfl rfl rfl rfl rfl rfl rfl rfl) ?_
 refine Lo u9 (Zb (.inr rfl) rfl) ?_
 refine Zf (Zd (Zk ?_))
 refine W3u (.inr rfl) (Zi rfl rfl) ?_
 exact ⟨rfl, rfl⟩
abbrev eaD (r : Bool) : Zc := [.dead, .dead, .dead, .dead, .dead, .cells [.bool r] true, .dead]
def EaP (y : Nat) (K : Bool → Zc → Prop) (A L : Zc) (v : VVal) (G : Zc) : Prop := ∃ b A1 J, v = .bool b ∧ G = A1 ++ (L ++ J) ∧ A1.length = A.length ∧ K b A1 ∧ (b = true → ∃ g1, A1[y]? = some (gaB g1))
theorem hfull_in {x : SW} {H L : Zc} {u : Int} {ws rs : VVal} {y : Nat} {g : Gz} (hs : H[y]? = some (gaB g)) (l : List (BitVec 64)) (t : BitVec 64) (hl : l.length ≤ 1000000) : F (psys x) 87 [huP u ws rs y, fzW l, iW t] (H.set y (gaB (g + ⟨0, 1, 0⟩)) ++ L) fun v G =>
    (v = .bool true ∧ Yf l t = true ∧ G = H.set y (gaB (g + (⟨0, 1, 0⟩ + fuG l t))) ++ L) ∨ (v = .bool false ∧ Yf l t = false ∧ G = H.set y (gaB (g + (⟨0, 1, 0⟩ + fuG l t))) ++ L) := by
  have hy := Zw hs
  refine (hfull_spec _ y (g + ⟨0, 1, 0⟩) (Zm (List.getElem?_set_self hy)) l t hl).mono ?_
  rintro v G ⟨rfl, rfl⟩
  rw [Yh XH23, List.set_set, Gz.assoc]
  cases h : Yf l t
  · exact .inr ⟨rfl, rfl, rfl⟩
  · exact .inl ⟨rfl, rfl, rfl⟩
theorem ea_get {A A1 L Y : Zc} {n : Nat} {k : VBlk} (hA : A1.length = A.length) (hn : n = (A ++ L).length + 5) (h : Y[5]? = some k) : (A1 ++ (L ++ Y))[n]? = some k := by
  rw [hn, List.length_append, Nat.add_assoc]; exact getE (i := 5) hA rfl h
theorem ea_set {A A1 L Y : Zc} {n : Nat} {k : VBlk} (hA : A1.length = A.length) (hn : n = (A ++ L).length + 5) : (A1 ++ (L ++ Y)).set n k = A1 ++ (L ++ Y.set 5 k) := by
  rw [hn, List.length_append, Nat.add_assoc]; exact setE (i := 5) hA rfl
theorem set_add0 {A : Zc} {y : Nat} {g : Gz} (h : A[y]? = some (gaB g)) : A.set y (gaB (g + 0)) = A := by
  rw [Gz.add_zero, ← set_keep h]
theorem ea_end {S : V.Sys} {l y : Nat} {b : Bool} {A1 : Zc} {K : Bool → Zc → Prop} (hk : if b = true then (∃ g1, A1[y]? = some (gaB g1)) ∧ IterP S l y [] 0 A1 K else K false A1) : K b A1 ∧ (b = true → ∃ g1, A1[y]? = some (gaB g1)) := by
  cases b with
  | false => exact ⟨hk, fun e => by cases e⟩
  | true =>
    obtain ⟨⟨g2, hg2⟩, hk⟩ := hk
    have h := hk g2 hg2
    rw [set_add0 hg2] at h
    exact ⟨h, fun _ => ⟨g2, hg2⟩⟩
theorem each_in {x : SW} {A Z : Zc} {y l u : Nat} {hu : VVal} {rows : List (BitVec 64)} {us : List Nat} {t : BitVec 64} {K : Bool → Zc → Prop} {n c : Nat} (h : F (psys x) 121 [hu, fzW rows, fzN (us ++ [u]), iW t, .yield l] (A ++ (Z ++ [.dead])) (EaP y K A (Z ++ [.dead]))) (hn : n = us.length + 1) (hc : c = n) :
    F (psys x) 121 [hu, fzW rows, .slice (some (A.length + Z.length, 0)) n c false 1, iW t, .yield l] (A ++ (Z ++ [.cells (rcN us ++ [iI (u : Nat)]) true])) (EaP y K A (Z ++ [.dead])) := by
  subst hc; subst hn
  refine F.pre (Gh.freezeL (H := A) (L := Z ++ [.cells (rcN us ++ [iI (u : Nat)]) true]) (l := rcN (us ++ [u])) (vs' := [hu, fzW rows, fzN (us ++ [u]), iW t, .yield l]) 2 Z.length rfl YF (by rw [← rcN_snoc]; exact cellsAt_all (by simp)) (Nat.le_refl _) (by simp [rcN_snoc])) ?_
  rw [set_end]; exact h
theorem W3v {T : TypeId → Option VTy} {H : Zc} {op : Op} {ρ : Operand → VVal} {t : TypeId} {a : Operand} {y : VTy} {p v : VVal} (ho : op = .load t a) (ha : ρ a = p) (hy : T t = some y) (hd : Zj y.desc = false) (h : LdOk H p v := by first | exact .inl ⟨_, _, rfl, by first | rfl | assumption⟩ | exact .inr ⟨_, _, _, _, rfl, XH28, by first | rfl | assumption⟩) : vop T ρ H op = some (v, H) := v_ld ho ha hy hd h
theorem W3x {T : TypeId → Option VTy} {H : Zc} {op : Op} {ρ : VEnv} {H' : Zc} {t : TypeId} {a : Operand} {i : Nat} {v : VVal} {y : VTy} {b off : Nat} {cs new : List VVal} (ho : op = .store t a (.tmp i)) (hv : ρ[i]? = some v) (ha : ρ.eval a = .ptr (some (b, off))) (hy : T t = some y) (hx : v.cells = some new) (hn : new.length = y.size) (h1 : new.all VVal.one = true) (hb : H[b]? = some (.cells cs true) := by exact ea_get (by assumption) rfl rfl) (hl : off + new.length ≤ cs.length := by exact XH30) (hH : H.set b (.cells (Zv cs off new) true) = H' := by exact ea_set (by assumption) rfl) : vop T ρ.eval H op = some (.skip, H') := ZX ho hv ha hy hx hn h1 hb hl hH
theorem W3z {T : TypeId → Option VTy} {H : Zc} {op : Op} {ρ : Operand → VVal} {t : TypeId} {a : Operand} {y : VTy} {p v : VVal} (ho : op = .load t a) (ha : ρ a = p) (hy : T t = some y) (hd : Zj y.desc = false) (h : LdOk H p v := by first | exact .inl ⟨_, _, rfl, by exact fgetN (α := BitVec 64) 0 (by omega)⟩ | exact .inr ⟨_, _, _, _, rfl, XH28, by exact fgetN (α := BitVec 64) 0 (by omega)⟩) : vop T ρ H op = some (v, H) := v_ld ho ha hy hd h
theorem W40 {T : TypeId → Option VTy} {H : Zc} {op : Op} {ρ : Operand → VVal} {t : TypeId} {a : Operand} {y : VTy} {p v : VVal} (ho : op = .load t a) (ha : ρ a = p) (hy : T t = some y) (hd : Zj y.desc = false) (h : LdOk H p v := by first | exact .inl ⟨_, _, rfl, by first | rfl | assumption⟩ | exact .inr ⟨_, _, _, _, rfl, by exact Zm hg1, by first | rfl | assumption⟩) : vop T ρ H op = some (v, H) := v_ld ho ha hy hd h
theorem W41 {T : TypeId → Option VTy} {H : Zc} {op : Op} {ρ : VEnv} {H' : Zc} {t : TypeId} {a : Operand} {i : Nat} {v : VVal} {y : VTy} {b off : Nat} {cs new : List VVal} (ho : op = .store t a (.tmp i)) (hv : ρ[i]? = some v) (ha : ρ.eval a = .ptr (some (b, off))) (hy : T t = some y) (hx : v.cells = some new) (hn : new.length = y.size) (h1 : new.all VVal.one = true) (hb : H[b]? = some (.cells cs true) := by exact Zm hg1) (hl : off + new.length ≤ cs.length := by exact XH30) (hH : H.set b (.cells (Zv cs off new) true) = H' := by exact ga_p1 hg1) : vop T ρ.eval H op = some (.skip, H') := ZX ho hv ha hy hx hn h1 hb hl hH
theorem W43 {P : Prop} (h : P := by first | exact ⟨true, A0, _, rfl, rfl, hA0, hI, fun _ => ⟨g1, hg1⟩⟩ | exact ⟨false, A0, _, rfl, rfl, hA0, hX, fun e => by cases e⟩) : P := h
theorem each_0 {x : SW} {u : Int} {ws rs : VVal} (y l : Nat) (rows : List (BitVec 64)) (hr : rows.length ≤ 1000000) (A L : Zc) (us : List Nat) (taken : BitVec 64) (g : Gz) (K : Bool → Zc → Prop) (hs : A[y]? = some (gaB g)) (hI : IterP (psys x) l y (tv (usT (rows.drop us.length) us taken)) (usT (rows.drop us.length) us taken).2 A K) (hl : us.length = rows.length) : F (psys x) 121 [huP u ws rs y, fzW rows, fzN us, iW taken, .yield l] (A ++ L) (EaP y K A L) := by
 have e5 : (A ++ L).length + 5 = A.length + (L.length + 5) := by rw [List.length_append]; omega
 have eA : A.length = A.length := rfl
 refine Zs Tryd.func121 rfl u67 rfl ?_
 refine Ze (Za ?_)
 refine Lo u67 (Zy rfl rfl rfl) ?_
 refine Lo u67 (Zy rfl rfl rfl) ?_
 refine Lo u67 (Zy rfl rfl rfl) ?_
 refine Lo u67 (Zy rfl rfl rfl) ?_
 refine Lo u67 (Zy rfl rfl rfl) ?_
 refine Lo u67 (ZG rfl rfl) ?_
 refine Zf (Zd (Ze ?_))
 refine B_gh (Gh.freezePtrL (cs := [huP u ws rs y]) 5 0 rfl rfl rfl) ?_
 refine B_gh (Gh.freezePtrL (cs := [fzW rows]) 6 1 rfl rfl rfl) ?_
 refine B_gh (Gh.freezePtrL (cs := [fzN us]) 7 2 rfl rfl rfl) ?_
 refine B_gh (Gh.freezePtrL (cs := [iW taken]) 8 3 rfl rfl rfl) ?_
 refine B_gh (Gh.freezePtrL (cs := [.yield l]) 9 4 rfl rfl rfl) ?_
 refine Za ?_
 refine Lo u67 (W3v rfl rfl rfl rfl) ?_
 refine Lo u67 (rfl) ?_
 refine Lo u67 (ZG rfl rfl) ?_
 refine Lo u67 (W13 rfl rfl rfl rfl rfl rfl rfl) ?_
 refine Zf (Zd (Ze (Ze ?_)))
 refine B_gh (Gh.freezePtrL (cs := [iI (us.length : Nat)]) 11 6 rfl rfl rfl) ?_
 refine B_heap (H' := A ++ (L ++ eaD false)) (by simp; rfl) ?_
 refine Za ?_
 refine Lo u67 (W3v rfl rfl rfl rfl) ?_
 refine Lo u67 (W3v rfl rfl rfl rfl) ?_
 refine Lo u67 (rfl) ?_
 refine Lo u67 (v_is true rfl (by rw [hl]; simp)) ?_
 refine Zf (Zd ?_)
 refine ZV rfl rfl ?_
 refine Ze ?_
 rw [List.drop_eq_nil_of_le (by omega)] at hI
 refine Za ?_
 refine Lo u67 (W3v rfl rfl rfl rfl) ?_
 refine Lo u67 (W3v rfl rfl rfl rfl) ?_
 refine L_callV rfl rfl rfl (by have h9 := hI g hs (L ++ eaD false); rw [show usT [] us taken = ([(0, us)], 0) from rfl] at h9; exact (set_add0 hs) ▸ h9) ?_
 rintro _ G ⟨b, A1, J1, rfl, hG, hA1, hk⟩; obtain rfl : G = A1 ++ (L ++ (eaD false ++ J1)) := hG.trans (by simp)
 refine Le u67 ?_
 refine Lo u67 (W3x rfl rfl rfl rfl rfl rfl rfl) ?_
 refine Zf (Zd (Zk (Zq ?_)))
 refine E_keep (.inr rfl) (vres_cell rfl rfl rfl rfl XH25 (by rfl)) ?_
 exact ⟨b, A1, _, rfl, rfl, hA1, ea_end hk⟩
theorem each_s {x : SW} {u : Int} {ws rs : VVal} (y l : Nat) (rows : List (BitVec 64)) (hr : rows.length ≤ 1000000) (n : Nat) (ih : ∀ (A L : Zc) (us : List Nat) (taken : BitVec 64) (g : Gz) (K : Bool → Zc → Prop) (hs : A[y]? = some (gaB g)) (hI : IterP (psys x) l y (tv (usT (rows.drop us.length) us taken)) (usT (rows.drop us.length) us taken).2 A K), us.length + n = rows.length → F (psys x) 121 [huP u ws rs y, fzW rows, fzN us, iW taken, .yield l] (A ++ L) (EaP y K A L)) (A L : Zc) (us : List Nat) (taken : BitVec 64) (g : Gz) (K : Bool → Zc → Prop) (hs : A[y]? = some (gaB g)) (hI : IterP (psys x) l y (tv (usT (rows.drop us.length) us taken)) (usT (rows.drop us.length) us taken).2 A K) (hl : us.length + (n + 1) = rows.length) : F (psys x) 121 [huP u ws rs y, fzW rows, fzN us, iW taken, .yield l] (A ++ L) (EaP y K A L) := by
 have e5 : (A ++ L).length + 5 = A.length + (L.length + 5) := by rw [List.length_append]; omega
 have eA : A.length = A.length := rfl
 refine Zs Tryd.func121 rfl u67 rfl ?_
 refine Ze (Za ?_)
 refine Lo u67 (Zy rfl rfl rfl) ?_
 refine Lo u67 (Zy rfl rfl rfl) ?_
 refine Lo u67 (Zy rfl rfl rfl) ?_
 refine Lo u67 (Zy rfl rfl rfl) ?_
 refine Lo u67 (Zy rfl rfl rfl) ?_
 refine Lo u67 (ZG rfl rfl) ?_
 refine Zf (Zd (Ze ?_))
 refine B_gh (Gh.freezePtrL (cs := [huP u ws rs y]) 5 0 rfl rfl rfl) ?_
 refine B_gh (Gh.freezePtrL (cs := [fzW rows]) 6 1 rfl rfl rfl) ?_
 refine B_gh (Gh.freezePtrL (cs := [fzN us]) 7 2 rfl rfl rfl) ?_
 refine B_gh (Gh.freezePtrL (cs := [iW taken]) 8 3 rfl rfl rfl) ?_
 refine B_gh (Gh.freezePtrL (cs := [.yield l]) 9 4 rfl rfl rfl) ?_
 refine Za ?_
 refine Lo u67 (W3v rfl rfl rfl rfl) ?_
 refine Lo u67 (rfl) ?_
 refine Lo u67 (ZG rfl rfl) ?_
 refine Lo u67 (W13 rfl rfl rfl rfl rfl rfl rfl) ?_
 refine Zf (Zd (Ze (Ze ?_)))
 refine B_gh (Gh.freezePtrL (cs := [iI (us.length : Nat)]) 11 6 rfl rfl rfl) ?_
 refine B_heap (H' := A ++ (L ++ eaD false)) (by simp; rfl) ?_
 refine Za ?_
 refine Lo u67 (W3v rfl rfl rfl rfl) ?_
 refine Lo u67 (W3v rfl rfl rfl rfl) ?_
 refine Lo u67 (rfl) ?_
 refine Lo u67 (v_is false rfl (by simp; omega)) ?_
 refine Zf (Zd ?_)
 refine Yb rfl rfl ?_
 refine Zo (Zd (Ze (Ze ?_)))
 rw [show rows.drop us.length = rows.getD us.length 0 :: rows.drop (us.length + 1) by rw [List.drop_eq_getElem_cons (by omega), List.getD_eq_getElem?_getD, List.getElem?_eq_getElem (by omega)]; rfl, usT] at hI
 refine ZZ [0, 1, 2, 3, 4, 5, 6, 7] #[0, 0, 3, 7, 0, 31, 63, 127] XH2 XH2 XH2 ?_
 refine Oo u67 .look rfl (W3v rfl rfl rfl rfl) ?_
 refine Oo u67 .look rfl (W3v rfl rfl rfl rfl) ?_
 refine Oo u67 .calm rfl (W18 rfl rfl rfl rfl rfl rfl rfl) ?_
 refine Oo u67 .look rfl (W3z rfl rfl rfl rfl) ?_
 refine Oo u67 .look rfl (W3v rfl rfl rfl rfl) ?_
 refine Oo u67 .calm rfl (v_andNotW rfl rfl rfl) ?_
 refine Z7 (env' := u67) rfl rfl rfl rfl rfl (by exact hset_spec _ _) XH9 rfl rfl ?_
 refine Z7 (env' := u67) rfl rfl rfl rfl rfl (by exact All_spec _ _) XH9 rfl rfl ?_
 refine ZU [] XH2 (trivial) ?_
 refine Zd (Zn ?_)
 refine ZD (mk 67 147573952589139537951) (env' := u67) rfl ?_
 refine B_rangeM cI (pl (rows.getD us.length 0 &&& ~~~taken) 0) (fun l0 h => by cases h) rfl (fun l G R h => All1_spec _ _ _ _ h) (σ := {q : Zc × Zc // q.1.length = A.length}) (fun k s => s.1.1 ++ (L ++ ([.dead, .dead, .dead, .dead, .dead, .cells [.bool false] true, .dead] ++ k :: s.1.2))) ⟨(A, []), rfl⟩ (fun k => by simp) (fun k s => by rw [show (A ++ (L ++ eaD false)).length = A.length + (L.length + 7) by simp]; exact getE (i := 7) s.2 rfl rfl) (fun k k1 s => by rw [show (A ++ (L ++ eaD false)).length = A.length + (L.length + 7) by simp]; exact setE (i := 7) s.2 rfl) (fun pre s => ∃ z, (pl (rows.getD us.length 0 &&& ~~~taken) 0) = pre ++ z ∧ (∃ g1, s.1.1[y]? = some (gaB g1)) ∧ IterP (psys x) l y (tv (usF (fun u => usT (rows.drop (us.length + 1)) (us ++ [u]) (taken ||| 1#64 <<< u)) (rows.drop (us.length + 1)) taken z)) (usF (fun u => usT (rows.drop (us.length + 1)) (us ++ [u]) (taken ||| 1#64 <<< u)) (rows.drop (us.length + 1)) taken z).2 s.1.1 K) ?_ (fun j pre c s => (j = Code.ret ∧ (K false s.1.1))) rfl ?_ ?_ ?_
 ·exact ⟨_, rfl, ⟨g, hs⟩, hI⟩
 ·intro pre c post s hx hI kr kb hkr hkb
  obtain ⟨⟨A0, J0⟩, hA0⟩ := s
  try dsimp only at hI ⊢
  have hA0 : A0.length = A.length := hA0
  obtain ⟨z, hz, ⟨g1, hg1⟩, hI⟩ := hI
  obtain rfl : z = c :: post := List.append_cancel_left (hz.symm.trans hx)
  have hcx : c ∈ (pl (rows.getD us.length 0 &&& ~~~taken) 0) := by rw [hx]; simp
  obtain ⟨_, hc64, _⟩ := mem_pl.1 hcx
  rw [usF] at hI
  refine Z4 (env' := u67) rfl ?_
  refine Za ?_
  refine Lo u67 (Zb (.inr rfl) rfl) ?_
  refine Zf ?_
  refine ⟨rfl, ⟨(A0, J0), hA0⟩, rfl, ?_⟩
  try dsimp only
  refine Zn (Ze (Za ?_))
  refine Lo u67 (W3v rfl rfl rfl rfl) ?_
  refine Lo u67 (rfl) ?_
  refine Lo u67 (rfl) ?_
  refine Lo u67 (W3v rfl rfl rfl rfl) ?_
  refine Lo u67 (rfl) ?_
  refine Lo u67 (rfl) ?_
  refine Lo u67 (W40 rfl rfl rfl rfl) ?_
  refine Lo u67 (v_addW (b := 1#64) rfl rfl rfl) ?_
  refine Lo u67 (rfl) ?_
  refine Lo u67 (rfl) ?_
  refine Lo u67 (W41 rfl rfl rfl rfl rfl rfl rfl) ?_
  refine Zf (Zd (Ze ?_))
  refine B_drawP #[0, 0, 0, 4, 14, 0, 0, 64, 224, 511, 1023, 2047, 2047, 2047, 10239, 2047, 34815, 124927, 2047, 2047, 526335, 1837055, 2047, 8388607, 16777215, 33554431] XH2 ?_
  refine P_seg [0, 1, 2, 3, 4, 5, 6, 7, 8] (bef := #[0, 0, 0, 4, 14, 0, 0, 64, 224, 511, 1023, 2047, 2047, 2047, 10239, 2047, 34815, 124927, 2047, 2047, 526335, 1837055, 2047, 8388607, 16777215, 33554431]) XH2 XH2 XH2 ?_
  refine Oo u67 .look rfl (W3v rfl rfl rfl rfl) ?_
  refine Oo u67 .look rfl (W3v rfl rfl rfl rfl) ?_
  refine Oo u67 .look rfl (W3v rfl rfl rfl rfl) ?_
  refine Oo u67 .calm rfl (W14 rfl rfl rfl) ?_
  refine Oo u67 .calm rfl (v_wLo (k := us.length + 1) rfl rfl rfl rfl rfl rfl rfl (by simp) (by omega)) ?_
  refine Oo u67 .look rfl (W3v rfl rfl rfl rfl) ?_
  refine Oo u67 .calm rfl (Zb (.inl rfl) rfl) ?_
  refine Oo u67 .calm rfl (v_shl1 rfl rfl rfl XH3) ?_
  refine Oo u67 .calm rfl (v_orW rfl rfl rfl) ?_
  refine ZU [] XH2 (trivial) ?_
  refine P_call 9 (bef := #[0, 0, 0, 4, 14, 0, 0, 64, 224, 511, 1023, 2047, 2047, 2047, 10239, 2047, 34815, 124927, 2047, 2047, 526335, 1837055, 2047, 8388607, 16777215, 33554431]) XH2 XH2 rfl rfl rfl rfl (by exact hfull_in hg1 (rows.drop (us.length + 1)) _ (by rw [List.length_drop]; omega)) ?_
  rintro _ _ (⟨rfl, hf, rfl⟩ | ⟨rfl, hf, rfl⟩)
  ·skip
   refine P_env (env' := u67) rfl ?_
   refine P_seg [10, 11, 12, 13, 15, 16, 18, 19, 20, 21, 22, 14, 17] (bef := #[0, 0, 0, 4, 14, 0, 0, 64, 224, 511, 1023, 2047, 2047, 2047, 10239, 2047, 34815, 124927, 2047, 2047, 526335, 1837055, 2047, 8388607, 16777215, 33554431]) XH2 XH2 XH2 ?_
   refine Oo u67 .calm rfl (Zb (.inl rfl) rfl) ?_
   refine Yg (env' := u67) (x := .look _ _) rfl rfl rfl (W3v rfl rfl rfl rfl) rfl rfl rfl ?_
   refine Yg (env' := u67) (x := .look _ _) rfl rfl rfl (W3v rfl rfl rfl rfl) rfl rfl rfl ?_
   refine Oo u67 .look rfl (W3v rfl rfl rfl rfl) ?_
   refine Oo u67 .calm rfl (Zb (.inl rfl) rfl) ?_
   refine Yg (env' := u67) (x := .grow _) rfl rfl rfl (Zt rfl rfl (by decide) rfl) rfl rfl rfl ?_
   refine Yg (env' := u67) (x := .look _ _) rfl rfl rfl (W3v rfl rfl rfl rfl) rfl rfl rfl ?_
   refine Oo u67 .calm rfl (Zb (.inl rfl) rfl) ?_
   refine Oo u67 .calm rfl (v_shl1 rfl rfl rfl XH3) ?_
   refine Oo u67 .calm rfl (v_orW rfl rfl rfl) ?_
   refine Yg (env' := u67) (x := .look _ _) rfl rfl rfl (W3v rfl rfl rfl rfl) rfl rfl rfl ?_
   refine Z7 (env' := u67) rfl rfl rfl rfl rfl (by exact Clip_spec _ _) XH9 rfl rfl ?_
   refine Yg (env' := u67) (x := .turn _ _) rfl rfl rfl (v_appFX (c := iI ((c : Nat) : Int)) rfl rfl rfl rfl rfl rfl rfl rfl YF rfl (by simp) (by show (us.length + 1) * 8 ≤ _ ∧ _; omega)) rfl rfl rfl ?_
   refine ZU [_, _, _, _, _, _, _, _, _] (by rfl) (And.intro (And.intro (W3v rfl rfl rfl rfl) (W3v rfl rfl rfl rfl)) (And.intro (And.intro (W3v rfl rfl rfl rfl) (W3v rfl rfl rfl rfl)) (And.intro (And.intro (W3v rfl rfl rfl rfl) (W3v rfl rfl rfl rfl)) (And.intro (And.intro (W3v rfl rfl rfl rfl) (W3v rfl rfl rfl rfl)) (And.intro ((by first | exact rfl | simp)) (And.intro (And.intro (W3v rfl rfl rfl rfl) (W3v rfl rfl rfl rfl)) (And.intro (And.intro (W3v rfl rfl rfl rfl) (W3v rfl rfl rfl rfl)) (And.intro (And.intro (W3v rfl rfl rfl rfl) (W3v rfl rfl rfl rfl)) (And.intro (And.intro (W3v rfl rfl rfl rfl) (W3v rfl rfl rfl rfl)) trivial))))))))) ?_
   refine P_call 23 (bef := #[0, 0, 0, 4, 14, 0, 0, 64, 224, 511, 1023, 2047, 2047, 2047, 10239, 2047, 34815, 124927, 2047, 2047, 526335, 1837055, 2047, 8388607, 16777215, 33554431]) XH2 XH2 rfl rfl rfl rfl (by have hIf := hI; rw [if_pos (show Yf _ (taken ||| 1#64 <<< c) = true from hf)] at hIf; have hIc := IterP.catT (xs := (usT (rows.drop (us.length + 1)) (us ++ [c]) (taken ||| 1#64 <<< c)).1) (da := (usT (rows.drop (us.length + 1)) (us ++ [c]) (taken ||| 1#64 <<< c)).2) (IterP.addF hg1 hIf); exact each_in (ih _ _ (us ++ [c]) (taken ||| 1#64 <<< c) (g1 + (⟨0, 1, 0⟩ + fuG (rows.drop (us.length + 1)) (taken ||| 1#64 <<< c))) _ (List.getElem?_set_self (Zw hg1)) (by rw [List.length_append]; exact hIc) (by simp; omega)) rfl rfl) ?_
   rintro _ G ⟨b, A2, J2, rfl, hG, hA2, hk2, hg2⟩; have hA3 : A2.length = A.length := hA2.trans (by rw [List.length_set]; exact hA0); obtain rfl : G = A2 ++ (L ++ ([.dead, .dead, .dead, .dead, .dead, .cells [.bool false] true, .dead] ++ kb :: (J0 ++ [.cells [iI (c : Nat)] true, .dead] ++ J2))) := hG.trans (by simp; rfl); cases b; rotate_left
   ·skip
    refine P_env (env' := u67) rfl ?_
    refine P_seg [24, 25] (bef := #[0, 0, 0, 4, 14, 0, 0, 64, 224, 511, 1023, 2047, 2047, 2047, 10239, 2047, 34815, 124927, 2047, 2047, 526335, 1837055, 2047, 8388607, 16777215, 33554431]) XH2 XH2 XH2 ?_
    refine Oo u67 .calm rfl (rfl) ?_
    refine Oo u67 .calm rfl (ZA rfl rfl rfl) ?_
    refine ZU [] XH2 (trivial) ?_
    refine P_end XH2 ?_
    refine Zd ?_
    refine Yb rfl rfl ?_
    refine Zo (ZB ?_)
    refine ⟨⟨(A2, _), hA3⟩, rfl, .inl ⟨rfl, ?_⟩⟩
    exact ⟨post, by rw [hx, List.append_assoc]; rfl, hg2 rfl, hk2⟩
   ·skip
    refine P_env (env' := u67) rfl ?_
    refine P_seg [24, 25] (bef := #[0, 0, 0, 4, 14, 0, 0, 64, 224, 511, 1023, 2047, 2047, 2047, 10239, 2047, 34815, 124927, 2047, 2047, 526335, 1837055, 2047, 8388607, 16777215, 33554431]) XH2 XH2 XH2 ?_
    refine Oo u67 .calm rfl (rfl) ?_
    refine Oo u67 .calm rfl (ZA rfl rfl rfl) ?_
    refine ZU [] XH2 (trivial) ?_
    refine P_end XH2 ?_
    refine Zd ?_
    refine ZV rfl rfl ?_
    refine Ze (Za ?_)
    refine Lo u67 (Yc (VVal.bool false) rfl rfl rfl rfl rfl rfl rfl XH25 XH6 (by exact ea_set (by assumption) rfl)) ?_
    refine Zf (Zd (Zk (ZJ ?_)))
    refine ⟨⟨(A2, _), hA3⟩, rfl, .inr ⟨Code.ret, rfl, ⟨rfl, ?_⟩⟩⟩
    exact hk2
  ·skip
   refine P_env (env' := u67) rfl ?_
   refine P_seg [10, 11, 12, 13, 15, 16, 18, 19, 20, 21, 22, 14, 17] (bef := #[0, 0, 0, 4, 14, 0, 0, 64, 224, 511, 1023, 2047, 2047, 2047, 10239, 2047, 34815, 124927, 2047, 2047, 526335, 1837055, 2047, 8388607, 16777215, 33554431]) XH2 XH2 XH2 ?_
   refine Oo u67 .calm rfl (Zb (.inl rfl) rfl) ?_
   refine Of u67 rfl ?_
   refine Of u67 rfl ?_
   refine Of u67 rfl ?_
   refine Of u67 rfl ?_
   refine Of u67 rfl ?_
   refine Of u67 rfl ?_
   refine Of u67 rfl ?_
   refine Of u67 rfl ?_
   refine Of u67 rfl ?_
   refine Of u67 rfl ?_
   refine Of u67 rfl ?_
   refine Of u67 rfl ?_
   refine ZU [] XH2 (trivial) ?_
   refine P_seg [23, 24, 25] (bef := #[0, 0, 0, 4, 14, 0, 0, 64, 224, 511, 1023, 2047, 2047, 2047, 10239, 2047, 34815, 124927, 2047, 2047, 526335, 1837055, 2047, 8388607, 16777215, 33554431]) XH2 XH2 XH2 ?_
   refine Of u67 rfl ?_
   refine Of u67 rfl ?_
   refine Oo u67 .calm rfl (ZF (VVal.bool false) rfl rfl rfl) ?_
   refine ZU [] XH2 (trivial) ?_
   refine P_end XH2 ?_
   refine Zd ?_
   refine Yb rfl rfl ?_
   refine Zo (ZB ?_)
   refine ⟨⟨(A0.set y (gaB (g1 + (⟨0, 1, 0⟩ + fuG (rows.drop (us.length + 1)) (taken ||| 1#64 <<< c)))), J0), by rw [List.length_set]; exact hA0⟩, rfl, .inl ⟨rfl, ?_⟩⟩
   exact ⟨post, by rw [hx, List.append_assoc]; rfl, ⟨_, List.getElem?_set_self (Zw hg1)⟩, by rw [if_neg (nof (show Yf _ (taken ||| 1#64 <<< c) = false from hf))] at hI; exact IterP.addF hg1 hI⟩
 ·intro s k hk hI
  obtain ⟨⟨A0, J0⟩, hA0⟩ := s
  try dsimp only at hI ⊢
  have hA0 : A0.length = A.length := hA0
  obtain ⟨z, hz, ⟨g1, hg1⟩, hI⟩ := hI
  obtain rfl : z = [] := by simpa using hz
  have hI := hI g1 hg1
  rw [show usF _ _ _ [] = ([], 0) from rfl, set_add0 hg1] at hI
  refine ZB (Zd (Ze (Za ?_)))
  refine Lo u67 (Yc (VVal.bool true) rfl rfl rfl rfl rfl rfl rfl XH25 XH6 (by exact ea_set (by assumption) rfl)) ?_
  refine Zf (Zd (Zk ?_))
  refine E_keep (.inr rfl) (vres_cell rfl rfl rfl rfl XH25 (by rfl)) ?_
  exact W43
 ·rintro j pre c post s k hk hx (⟨rfl, hX⟩)
  obtain ⟨⟨A0, J0⟩, hA0⟩ := s
  try dsimp only
  have hA0 : A0.length = A.length := hA0
  refine J_ret ?_
  refine ZJ (Zq ?_)
  refine E_keep (.inr rfl) (vres_cell rfl rfl rfl rfl XH25 (by rfl)) ?_
  exact W43
theorem each_spec {x : SW} {u : Int} {ws rs : VVal} (y l : Nat) (rows : List (BitVec 64)) (hr : rows.length ≤ 1000000) : ∀ (n : Nat) (A L : Zc) (us : List Nat) (taken : BitVec 64) (g : Gz) (K : Bool → Zc → Prop) (hs : A[y]? = some (gaB g)) (hI : IterP (psys x) l y (tv (usT (rows.drop us.length) us taken)) (usT (rows.drop us.length) us taken).2 A K), us.length + n = rows.length → F (psys x) 121 [huP u ws rs y, fzW rows, fzN us, iW taken, .yield l] (A ++ L) (EaP y K A L)
  | 0, A, L, us, taken, g, K, hs, hI, hl => each_0 y l rows hr A L us taken g K hs hI hl
  | n + 1, A, L, us, taken, g, K, hs, hI, hl => each_s y l rows hr n (fun A L us taken g K a b c => each_spec y l rows hr n A L us taken g K a b c) A L us taken g K hs hI hl
abbrev u36 {a0 a1 a2 a3 a4 a5 a6 a7 a8 a9 a10 a11 a12 a13 a14 a15 a16 a17 a18 a19 a20 a21 a22 a23 a24 a25 a26 a27 a28 a29 a30 a31 a32 a33 a34 a35 : VVal} : VEnv := a0 :: a1 :: a2 :: a3 :: a4 :: a5 :: a6 :: a7 :: a8 :: a9 :: a10 :: a11 :: a12 :: a13 :: a14 :: a15 :: a16 :: a17 :: a18 :: a19 :: a20 :: a21 :: a22 :: a23 :: a24 :: a25 :: a26 :: a27 :: a28 :: a29 :: a30 :: a31 :: a32 :: a33 :: a34 :: a35 :: []
theorem W44 {S : V.Sys} {H : Zc} {fn : Func} {ex : Exit} {env : VEnv} {B L : Zc} {v : VVal} {R : VVal → Zc → Prop} (hx : ex = .normal ∨ ex = .ret) (hv : ZW S.C.T env (B ++ L) fn.results = some v) (h : R v B) (hB : BaseOk H B := by exact XH36) (hu : v.under H.length = true := by show (true && (((huP u (fzW ws) (fzRR rss) y).under _ && true) && ((fzW rows).under _ && true && true))) = true; rw [huUnder hy, show (fzW rows).under _ = true from fzW_under _ _]; rfl) : fnK S fn H R ex env (B ++ L) := E_app hx hv hB hu h
theorem W45 {S : V.Sys} {H : Zc} {fn : Func} {ex : Exit} {env : VEnv} {B L : Zc} {v : VVal} {R : VVal → Zc → Prop} (hx : ex = .normal ∨ ex = .ret) (hv : ZW S.C.T env (B ++ L) fn.results = some v) (h : R v B) (hB : BaseOk H B := by exact XH36) (hu : v.under H.length = true := by show (true && (((huP u (fzW ws) (fzRR rss) y).under _ && true) && ((fzN a).under _ && true && true))) = true; rw [huUnder hy, show (fzN a).under _ = true from mapN_under _ _]; rfl) : fnK S fn H R ex env (B ++ L) := E_app hx hv hB hu h
theorem W47 {T : TypeId → Option VTy} {H : Zc} {op : Op} {ρ : Operand → VVal} {t : TypeId} {a : Operand} {y : VTy} {p v : VVal} (ho : op = .load t a) (ha : ρ a = p) (hy : T t = some y) (hd : Zj y.desc = false) (h : LdOk H p v := by first | exact .inl ⟨_, _, rfl, by first | rfl | assumption | exact fgetN (α := Nat) 0 (by omega)⟩ | exact .inr ⟨_, _, _, _, rfl, XH28, by first | rfl | assumption | exact fgetN (α := Nat) 0 (by omega)⟩) : vop T ρ H op = some (v, H) := v_ld ho ha hy hd h
theorem W49 {T : TypeId → Option VTy} {H : Zc} {op : Op} {ρ : VEnv} {H' : Zc} {t : TypeId} {a : Operand} {i : Nat} {v : VVal} {y : VTy} {b off : Nat} {cs new : List VVal} (ho : op = .store t a (.tmp i)) (hv : ρ[i]? = some v) (ha : ρ.eval a = .ptr (some (b, off))) (hy : T t = some y) (hx : v.cells = some new) (hn : new.length = y.size) (h1 : new.all VVal.one = true) (hb : H[b]? = some (.cells cs true) := by exact XH28) (hl : off + new.length ≤ cs.length := by show 0 + k * 1 + 1 ≤ _; rw [List.length_map, plK_len (by omega)]; omega) (hH : H.set b (.cells (Zv cs off new) true) = H' := by exact (setE0 rfl rfl).trans (by show _ ++ (_ ++ [VBlk.cells (Zv (rcN (plK a us k)) (0 + k * 1) [iI ((us.getD (a.getD k 0) 0 : Nat) : Int)]) true]) = _; rw [spl_N (by rw [plK_len (by omega)]; omega)])) : vop T ρ.eval H op = some (.skip, H') := ZX ho hv ha hy hx hn h1 hb hl hH
theorem W4b {P : Prop} (h : P := by first | exact ⟨true, _, [.dead, k] ++ J9, by rw [List.append_assoc], hI g0 hg0⟩ | exact ⟨false, _, [.dead, k] ++ J9, by rw [List.append_assoc], hX⟩) : P := h
theorem Users_spec {x : SW} (H : Zc) {u : Int} {ws : List (BitVec 64)} {rss : List (List Rul)} (y : Nat) (hy : y < H.length) (rows : List (BitVec 64)) : F (psys x) 89 [huP u (fzW ws) (fzRR rss) y, fzW rows] H fun v G => v = .func 120 [] [.fptr [huP u (fzW ws) (fzRR rss) y] 0, .fptr [fzW rows] 0] ∧ G = H := by
 refine Zs Tryd.func89 rfl u6 rfl ?_
 refine Ze (Za ?_)
 refine Lo u6 (Zy rfl rfl rfl) ?_
 refine Lo u6 (Zy rfl rfl rfl) ?_
 refine Lo u6 (Zh (VVal.nilFunc) (.inr rfl) rfl) ?_
 refine Zf (Zd (Ze (Za ?_)))
 refine L_gh (Gh.freezePtrL (cs := [huP u (fzW ws) (fzRR rss) y]) 2 0 rfl rfl rfl) ?_
 refine L_gh (Gh.freezePtrL (cs := [fzW rows]) 3 1 rfl rfl rfl) ?_
 refine Lo u6 (v_func [_, _] rfl rfl) ?_
 refine Lo u6 (Zb (.inr rfl) rfl) ?_
 refine Zf (Zd (Zk ?_))
 refine W44 (.inr rfl) (Zi rfl rfl) ?_
 exact ⟨rfl, rfl⟩
theorem Plans_spec {x : SW} (H : Zc) {u : Int} {ws : List (BitVec 64)} {rss : List (List Rul)} (y : Nat) (hy : y < H.length) (a : List Nat) : F (psys x) 54 [huP u (fzW ws) (fzRR rss) y, fzN a] H fun v G => v = .func 88 [] [.fptr [huP u (fzW ws) (fzRR rss) y] 0, .fptr [fzN a] 0] ∧ G = H := by
 refine Zs Tryd.func54 rfl u6 rfl ?_
 refine Ze (Za ?_)
 refine Lo u6 (Zy rfl rfl rfl) ?_
 refine Lo u6 (Zy rfl rfl rfl) ?_
 refine Lo u6 (Zh (VVal.nilFunc) (.inr rfl) rfl) ?_
 refine Zf (Zd (Ze (Za ?_)))
 refine L_gh (Gh.freezePtrL (cs := [huP u (fzW ws) (fzRR rss) y]) 2 0 rfl rfl rfl) ?_
 refine L_gh (Gh.freezePtrL (cs := [fzN a]) 3 1 rfl rfl rfl) ?_
 refine Lo u6 (v_func [_, _] rfl rfl) ?_
 refine Lo u6 (Zb (.inr rfl) rfl) ?_
 refine Zf (Zd (Zk ?_))
 refine W45 (.inr rfl) (Zi rfl rfl) ?_
 exact ⟨rfl, rfl⟩
theorem tv_cons {z : List (Gz × List Nat)} {e d : Gz} {c : VVal} {post : List (Gz × VVal)} (h : tv (z, e) = (d, c) :: post) : ∃ us z1, z = (d, us) :: z1 ∧ c = fzN us := by
  cases z with
  | nil => cases h
  | cons q z =>
    obtain ⟨d1, us⟩ := q
    have h : (d1, fzN us) :: tv (z, e) = (d, c) :: post := h
    injection h with h1 h2
    injection h1 with h3 h4
    exact ⟨us, z, by rw [h3], h4.symm⟩
theorem tv_nil {xs : List (Gz × VVal)} {z : List (Gz × List Nat)} {e : Gz} (h : xs = xs ++ tv (z, e)) : z = [] := by
  have : tv (z, e) = [] := by simpa using h
  cases z with
  | nil => rfl
  | cons q z => cases this
theorem fzN_pl {a us : List Nat} : fzN (plN a us) = .fsl (rcN (plN a us)) a.length 1 false := by
  show VVal.fsl _ (plN a us).length 1 false = _
  rw [plN_len]
theorem each_top {x : SW} {u : Int} {ws rs : VVal} (y l : Nat) (rows : List (BitVec 64)) (hr : rows.length ≤ 1000000) (A : Zc) (g : Gz) (K : Bool → Zc → Prop) (hs : A[y]? = some (gaB g)) (hI : IterP (psys x) l y (tv (usT rows [] 0#64)) (usT rows [] 0#64).2 A K) :
    F (psys x) 121 [huP u ws rs y, fzW rows, niS, iW 0#64, .yield l] A fun v G => ∃ b A1 J, v = .bool b ∧ G = A1 ++ J ∧ K b A1 := by
  refine F.pre (Gh.freezeNil (vs' := [huP u ws rs y, fzW rows, fzN [], iW 0#64, .yield l]) 2 rfl rfl) ?_
  have := each_spec (x := x) (u := u) (ws := ws) (rs := rs) y l rows hr rows.length A [] [] 0#64 g K hs hI (Nat.zero_add _)
  rw [List.append_nil] at this
  refine this.mono ?_
  rintro v G ⟨b, A1, J, rfl, rfl, _, hk, _⟩
  exact ⟨b, A1, J, rfl, rfl, hk⟩
theorem Users1_spec {x : SW} {u : Int} {ws rs : VVal} (y l : Nat) (rows : List (BitVec 64)) (hr : rows.length ≤ 1000000) (A : Zc) (g : Gz) (K : Bool → Zc → Prop) (hs : A[y]? = some (gaB g)) (hI : IterP (psys x) l y (tv (usT rows [] 0#64)) (usT rows [] 0#64).2 A K) : F (psys x) 120 [.yield l, .fptr [huP u ws rs y] 0, .fptr [fzW rows] 0] A fun v G => ∃ b A1 J, G = A1 ++ J ∧ K b A1 := by
 refine Zs Tryd.func120 rfl u8 rfl ?_
 rw [List.append_nil]
 refine Za ?_
 refine Lo u8 (W12 rfl rfl rfl rfl) ?_
 refine Lo u8 (W12 rfl rfl rfl rfl) ?_
 refine Lo u8 (Zb (.inl rfl) rfl) ?_
 refine Zl rfl rfl rfl (by exact each_top y l rows hr A g K hs hI) ?_
 rintro _ _ ⟨b, A1, J, rfl, rfl, hk⟩
 refine Le u8 ?_
 refine Zf ?_
 refine E_keep (.inl rfl) (vres_none rfl) ?_
 exact ⟨b, A1, J, rfl, hk⟩
theorem Plans1_spec {x : SW} {u : Int} {ws : List (BitVec 64)} {rss : List (List Rul)} (y l : Nat) (a : List Nat) (ha : Pat a) (hw : a.length ≤ ws.length) (hn : ws.length ≤ 1000000) (A : Zc) (g : Gz) (K : Bool → Zc → Prop) (hs : A[y]? = some (gaB g)) (hI : IterP (psys x) l y (tv (plT a (usT (ZQ ws a a.length) [] 0#64))) (usT (ZQ ws a a.length) [] 0#64).2 A K) : F (psys x) 88 [.yield l, .fptr [huP u (fzW ws) (fzRR rss) y] 0, .fptr [fzN a] 0] A fun v G => ∃ b A1 J, G = A1 ++ J ∧ K b A1 := by
 refine Zs Tryd.func88 rfl u36 rfl ?_
 refine Ze (Za ?_)
 refine Lo u36 (Zy rfl rfl rfl) ?_
 refine Zf (Zd (Ze ?_))
 refine B_gh (Gh.freezePtrL (cs := [.yield l]) 3 0 rfl rfl rfl) ?_
 refine ZZ [0, 1, 2, 3, 4] #[0, 0, 0, 6, 15] XH2 XH2 XH2 ?_
 refine Yg (env' := u36) (x := .look _ _) rfl rfl rfl (W47 rfl rfl rfl rfl) rfl rfl rfl ?_
 refine Oo u36 .look rfl (W47 rfl rfl rfl rfl) ?_
 refine Oo u36 .look rfl (W47 rfl rfl rfl rfl) ?_
 refine Z7 (env' := u36) rfl rfl rfl rfl rfl (by exact hBlocks_spec _ _ _ ha hw hn) XH9 rfl rfl ?_
 refine Z7 (env' := u36) rfl rfl rfl rfl rfl (by exact Users_spec _ y (by have := Zw hs; simp; omega) _) XH9 rfl rfl ?_
 refine ZU [_] (by rfl) (And.intro (And.intro (W47 rfl rfl rfl rfl) (W47 rfl rfl rfl rfl)) trivial) ?_
 refine Zd (Zn ?_)
 refine ZD (mk 36 68719472627) (env' := u36) rfl ?_
 refine B_heap (H' := A ++ [.dead]) rfl ?_
 refine B_rangePJ (y) (tv (usT (ZQ ws a a.length) [] 0#64)) ((usT (ZQ ws a a.length) [] 0#64).2) (fun l0 h => by cases h) rfl (fun l9 G9 K9 hg9 hI9 => Users1_spec y l9 (ZQ ws a a.length) (by rw [Yt]; have := @szP_le a a.length; omega) G9 _ K9 hg9.choose_spec hI9) (σ := {q : Zc × Gz // q.1.length = A.length}) (fun k s => s.1.1 ++ [.dead, k]) ⟨(A, g), rfl⟩ (fun k => by simp) (fun k s => by simp [s.2]) (fun k s => by rw [show (A ++ [VBlk.dead]).length = A.length + 1 by simp]; exact Zx s.2 rfl) (fun k k1 s => by rw [show (A ++ [VBlk.dead]).length = A.length + 1 by simp]; exact ZP s.2) (fun s => s.1.2) (fun d s => ⟨(s.1.1.set y (gaB (s.1.2 + d)), s.1.2 + d), by rw [List.length_set]; exact s.2⟩) (fun pre s => ∃ z, tv (usT (ZQ ws a a.length) [] 0#64) = pre ++ tv (z, (usT (ZQ ws a a.length) [] 0#64).2) ∧ (∀ q, q ∈ z → q.2.length = szP a a.length) ∧ s.1.1[y]? = some (gaB s.1.2) ∧ IterP (psys x) l y (tv (plT a (z, (usT (ZQ ws a a.length) [] 0#64).2))) (usT (ZQ ws a a.length) [] 0#64).2 s.1.1 K) (fun k s pre hI => by obtain ⟨_, _, _, h, _⟩ := hI; exact Zm h) (fun k s d pre hI => by obtain ⟨_, _, _, h, _⟩ := hI; exact Yh (Zw h)) ?_ (fun j pre c s => (j = Code.ret ∧ (K false s.1.1))) rfl ?_ ?_ ?_
 ·exact ⟨(usT (ZQ ws a a.length) [] 0#64).1, rfl, fun q hq => by rw [usT_len q hq, Yt]; simp, hs, hI⟩
 ·intro pre d c post s hx hI Lp kr kb hkr hkb
  obtain ⟨⟨A0, g0⟩, hA0⟩ := s
  try dsimp only at hI ⊢
  have hA0 : A0.length = A.length := hA0
  obtain ⟨z, hz, hzl, hg0, hI⟩ := hI
  obtain ⟨us, z, rfl, rfl⟩ : ∃ us z1, z = (d, us) :: z1 ∧ c = fzN us := tv_cons (List.append_cancel_left (hz.symm.trans hx))
  have hul : us.length = szP a a.length := hzl _ (List.mem_cons_self ..)
  have hI1 := hI g0 hg0
  refine Z4 (env' := u36) rfl ?_
  refine Za ?_
  refine Lo u36 (Zb (.inr rfl) rfl) ?_
  refine Zf ?_
  refine ⟨rfl, ⟨(A0.set y (gaB (g0 + d)), g0 + d), by rw [List.length_set]; exact hA0⟩, rfl, ?_⟩
  try dsimp only
  refine B_heap (H' := A0.set y (gaB (g0 + d)) ++ ([.dead, kb] ++ Lp)) (by simp) ?_
  refine Zn (Ze (Za ?_))
  refine Lo u36 (W47 rfl rfl rfl rfl) ?_
  refine Lo u36 (rfl) ?_
  refine Lo u36 (v_makeSlice rfl rfl rfl rfl rfl (by decide) ⟨by omega, Int.le_refl _, by show (a.length : Int) * (8 : Nat) ≤ _; omega, by omega⟩) ?_
  refine Lo u36 (Zb (.inr rfl) rfl) ?_
  refine Zf (Zd (Ze (Ze (Za ?_))))
  refine Lo u36 (W47 rfl rfl rfl rfl) ?_
  refine Lo u36 (rfl) ?_
  refine Lo u36 (Zh (VVal.int .i64 0) (.inl rfl) rfl) ?_
  refine Zf (Zd (Zn ?_))
  refine ZD (mk 36 68718559175) (env' := u36) rfl ?_
  refine ZH (fun (k : Nat) => a.length - k) (fun (k : Nat) => [(19, iI (k : Nat))]) (fun (k : Nat) G => (k ≤ a.length) ∧ G = A0.set y (gaB (g0 + d)) ++ (([.dead, kb] ++ Lp) ++ [.cells (rcN (plK a us k)) true])) 0 rfl ?_ ?_
  ·refine ⟨?_, (by rw [show plK a us 0 = List.replicate a.length 0 from rfl, ← rep_rc]; rfl)⟩
   exact Nat.zero_le _
  rintro k _ ⟨hk9, rfl⟩
  refine Z4 (env' := u36) rfl ?_
  refine Ze (Za ?_)
  refine Lo u36 (rfl) ?_
  refine Zf (Zd (Ze ?_))
  refine Zp _ rfl (fun hc1 => ?_) (fun hc1 => ?_)
  ·try simp only [qB, qN] at hc1
   refine Zo (Zd (Ze (Zn (Ze (Za ?_)))))
   refine Lo u36 (Zb (.inl rfl) rfl) ?_
   refine Lo u36 (W18 rfl rfl rfl rfl rfl rfl rfl) ?_
   refine Lo u36 (W47 rfl rfl rfl rfl) ?_
   refine Lo u36 (Zb (.inr rfl) rfl) ?_
   refine Lo u36 (Zb (.inr rfl) rfl) ?_
   refine Zf (Zd ?_)
   have hlt := Pat.lt ha (Nat.le_refl a.length) (i := k) (by omega)
   refine Za ?_
   refine Lo u36 (Zb (.inl rfl) rfl) ?_
   refine Lo u36 (Zb (.inl rfl) rfl) ?_
   refine Lo u36 (Zb (.inl rfl) rfl) ?_
   refine Lo u36 (Zb (.inl rfl) rfl) ?_
   refine Lo u36 (W18 rfl rfl rfl rfl rfl rfl rfl) ?_
   refine Lo u36 (W47 rfl rfl rfl rfl) ?_
   refine Lo u36 (W18 rfl rfl rfl rfl rfl rfl rfl) ?_
   refine Lo u36 (W49 rfl rfl rfl rfl rfl rfl rfl) ?_
   refine Zf (ZB (Zd (Za ?_)))
   refine Lo u36 (W14 rfl rfl rfl) ?_
   refine Lo u36 (Zb (.inl rfl) rfl) ?_
   refine Zf ?_
   refine ZR (mk 36 68718559175) (env' := u36) rfl ⟨k + 1, ?_, rfl, ?_⟩
   ·first | omega | (simp only []; omega)
   ·exact ⟨by omega, by rw [plK_step (by omega)]⟩
  ·try simp only [qB, qN] at hc1
   refine ZO (ZM (ZE (ZN (Zd (Ze ?_)))))
   obtain rfl : k = a.length := by omega
   rw [plK_all]
   refine B_gh (Gh.freezeL (l := rcN (plN a us)) 5 ([VBlk.dead, kb] ++ Lp).length rfl YF (cellsAt_all (by rw [List.length_map, plN_len]; rfl)) (Nat.le_refl _) rfl) ?_
   rw [set_end]
   refine Za ?_
   refine Lo u36 (W47 rfl rfl rfl rfl) ?_
   refine Lo u36 (Zb (.inl rfl) rfl) ?_
   refine L_callV rfl rfl rfl (by have h9 : Fv (psys x) (.yield l) [fzN (plN a us)] (A0.set y (gaB (g0 + d)) ++ (([.dead, kb] ++ Lp) ++ [.dead])) _ := hI1 _; rw [fzN_pl] at h9; exact h9) ?_
   rintro _ _ ⟨b, A2, J2, rfl, rfl, hA2, hk⟩; have hA3 : A2.length = A.length := hA2.trans hA0
   refine Le u36 ?_
   refine Lo u36 (rfl) ?_
   refine Zf (Zd ?_)
   refine Zp _ rfl (fun hc2 => ?_) (fun hc2 => ?_)
   ·try simp only [qB, qN] at hc2
    have hb : b = false := by simpa using hc2
    subst hb
    have hk : K false A2 := hk
    refine Zk (ZJ ?_)
    refine ⟨⟨(A2, g0), hA3⟩, .dead :: J2, (by simp), .inr ⟨Code.ret, rfl, ⟨rfl, ?_⟩⟩⟩
    exact hk
   ·try simp only [qB, qN] at hc2
    have hb : b = true := by simpa using hc2
    subst hb
    obtain ⟨⟨g2, hg2⟩, hk2⟩ := hk
    refine Zo (ZB ?_)
    refine ⟨⟨(A2, g2), hA3⟩, .dead :: J2, (by simp), .inl ⟨rfl, ?_⟩⟩
    exact ⟨z, by rw [hz, List.append_assoc]; rfl, fun q hq => hzl q (List.mem_cons_of_mem _ hq), hg2, hk2⟩
 ·intro s k hk hI J9
  obtain ⟨⟨A0, g0⟩, hA0⟩ := s
  try dsimp only at hI ⊢
  obtain ⟨z, hz, hzl, hg0, hI⟩ := hI
  obtain rfl := tv_nil hz
  refine ZB ?_
  refine E_keep (.inl rfl) (vres_none rfl) ?_
  exact W4b
 ·rintro j pre c post s k hk hx (⟨rfl, hX⟩) J9
  obtain ⟨⟨A0, g0⟩, hA0⟩ := s
  try dsimp only
  refine J_ret ?_
  refine ZJ ?_
  refine E_keep (.inr rfl) (vres_none rfl) ?_
  exact W4b
theorem W4c {T : TypeId → Option VTy} {H : Zc} {op : Op} {ρ : Operand → VVal} {t : TypeId} {a : Operand} {y : VTy} {p : VVal} {n : Nat} {vs : List VVal} (ho : op = .load t a) (ha : ρ a = p) (hy : T t = some y) (hd : Zj y.desc = true) (hn : y.size = n) (h : LdOkA H p n vs := by first | exact .inl ⟨_, _, rfl, by first | rfl | assumption⟩ | exact .inr ⟨_, _, _, _, rfl, XH28, by first | rfl | assumption⟩) : vop T ρ H op = some (.agg vs, H) := v_ldA ho ha hy hd hn h
def leA (p : Pb) : Option (List Nat) := if pck p = 0 then fdA p.users.toNat (wsP p) (Z8 p) else none
def leG (p : Pb) : Gz := if pck p = 0 then fdG p.users.toNat (wsP p) (Z8 p) else 0
def leT : Option (List Nat) → VVal
  | some l => .tuple [fzN l, .bool true]
  | none => .tuple [fzN [], .bool false]
theorem rssP_len {p : Pb} : (Z8 p).length = (wsP p).length := by unfold Z8; rw [addR_len, Ye]
theorem rssP_ok {p : Pb} (g : Go.V.Good p) : ∀ i, ((Z8 p).getD i []).length ≤ 1000000 ∧ ∀ r, r ∈ (Z8 p).getD i [] → r.steps.length ≤ 1000000 := fun i => by
  have g3 := g.r32; have g1 := g.n12
  have gs := fun r hr => rck_len (g.ru r hr)
  refine ⟨?_, fun r hr => ?_⟩
  · have := addR_row (n := p.who.length) (i := i) gs (m := p.rules.length) (Nat.le_refl _)
    unfold Z8; omega
  · have hin := fun r hr x hx => by
      have h := g.ru r hr
      unfold rck at h
      rw [Bool.and_eq_true, Bool.and_eq_true] at h
      have := riseA_mem _ _ h.2.1 x hx
      exact (show 0 ≤ x ∧ x < (p.who.length : Int) by omega)
    have := (addR_mem (n := p.who.length) (rs := p.rules) (r' := r) (i := i) hin (m := p.rules.length) (Nat.le_refl _)).1 hr
    rw [List.take_length] at this
    have := gs r this.1; omega
theorem New_N {x : SW} (H : Zc) (p : Pb) (y : Nat) (hy : y < H.length) (g : Go.V.Good p) : F (psys x) 51 [.agg (pbB p), .ptr (some (y, 0))] H fun v G => v = huP (p.users.toNat : Nat) (fzW (wsP p)) (fzRR (Z8 p)) y ∧ G = H := by
  rw [Int.toNat_of_nonneg g.u0]; exact New_spec H p y hy g
theorem Search_in {x : SW} (H L : Zc) {p : Pb} {y : Nat} {g : Gz} (hs : H[y]? = some (gaB g)) (hg : Go.V.Good p) : F (psys x) 52 [iI (p.who.length : Nat), iI 1, kpV p.users.toNat (wsP p) (Z8 p) y] (H ++ L) fun v G => v = .fsl ((frm (kpB (wsP p) (Z8 p)) (kpG p.users.toNat (wsP p) (Z8 p)) (wsP p).length [] 0).2.toList.map fzN) (frm (kpB (wsP p) (Z8 p)) (kpG p.users.toNat (wsP p) (Z8 p)) (wsP p).length [] 0).2.toList.length 1 false ∧ G = H.set y (gaB (g + (frm (kpB (wsP p) (Z8 p)) (kpG p.users.toNat (wsP p) (Z8 p)) (wsP p).length [] 0).1)) ++ L := by
  have g1 := hg.n12
  have := Search_spec (x := x) (u := p.users.toNat) (H ++ L) g (Zm hs) (by rw [Ye]; omega) rssP_len (rssP_ok hg) (by rw [Ye]; exact g1)
  rw [Ye] at this
  rw [Yh (Zw hs)] at this
  rw [Ye]; exact this
theorem Least_bad {x : SW} (H : Zc) (y : Nat) (g : Gz) (hs : H[y]? = some (gaB g)) (p : Pb) (hp : PbL p) (hb : ¬ pck p = 0) : F (psys x) 21 [.ptr (some (y, 0)), .agg (pbB p)] H fun v G => v = .tuple [fzN [], .bool false] ∧ G = H := by
 refine Zs Tryd.func21 rfl u35 rfl ?_
 refine Ze (Za ?_)
 refine Lo u35 (Zy rfl rfl rfl) ?_
 refine Lo u35 (ZG rfl rfl) ?_
 refine Lo u35 (ZG rfl rfl) ?_
 refine Zf (Zd (Ze (Ze ?_)))
 refine B_gh (Gh.freezePtrL (cs := pbB p) 3 0 rfl rfl rfl) ?_
 refine Za ?_
 refine Lo u35 (W4c rfl rfl rfl rfl rfl) ?_
 refine Zl rfl rfl rfl (by exact sCheck_spec _ _ hp) ?_
 rintro _ _ ⟨rfl, rfl⟩
 refine Le u35 ?_
 refine Lo u35 (v_is true rfl (by simp [hb])) ?_
 refine Zf (Zd ?_)
 refine ZV rfl rfl ?_
 refine Ze (Za ?_)
 refine Lo u35 (Yc (VVal.slice none 0 0 true 0) rfl rfl rfl rfl rfl rfl rfl XH0 XH6 XH7) ?_
 refine Lo u35 (Yc (VVal.bool false) rfl rfl rfl rfl rfl rfl rfl XH0 XH6 XH7) ?_
 refine Zf (Zd ?_)
 refine B_gh (Gh.cellNilL 1 0 (es' := 1) rfl rfl) ?_
 refine Zk (Zq ?_)
 refine W10 (.inr rfl) (vres_cells2 rfl rfl rfl rfl rfl rfl rfl XH0 (by rfl) XH0 (by rfl)) ?_
 exact ⟨rfl, rfl⟩
theorem Least_none {x : SW} (H : Zc) (y : Nat) (g : Gz) (hs : H[y]? = some (gaB g)) (p : Pb) (hp : PbL p) (hg0 : pck p = 0) (hf : (frm (kpB (wsP p) (Z8 p)) (kpG p.users.toNat (wsP p) (Z8 p)) (wsP p).length [] 0).2 = none) : F (psys x) 21 [.ptr (some (y, 0)), .agg (pbB p)] H fun v G => v = .tuple [fzN [], .bool false] ∧ G = H.set y (gaB (g + (frm (kpB (wsP p) (Z8 p)) (kpG p.users.toNat (wsP p) (Z8 p)) (wsP p).length [] 0).1)) := by
 have hg : Go.V.Good p := pck_good.1 hg0
 refine Zs Tryd.func21 rfl u35 rfl ?_
 refine Ze (Za ?_)
 refine Lo u35 (Zy rfl rfl rfl) ?_
 refine Lo u35 (ZG rfl rfl) ?_
 refine Lo u35 (ZG rfl rfl) ?_
 refine Zf (Zd (Ze (Ze ?_)))
 refine B_gh (Gh.freezePtrL (cs := pbB p) 3 0 rfl rfl rfl) ?_
 refine Za ?_
 refine Lo u35 (W4c rfl rfl rfl rfl rfl) ?_
 refine Zl rfl rfl rfl (by exact sCheck_spec _ _ hp) ?_
 rintro _ _ ⟨rfl, rfl⟩
 refine Le u35 ?_
 refine Lo u35 (v_is false rfl (by rw [hg0]; rfl)) ?_
 refine Zf (Zd ?_)
 refine Yb rfl rfl ?_
 refine Zo (Zd (Ze ?_))
 refine ZZ [0, 1, 2, 3, 4, 5] #[0, 0, 2, 6, 15, 31] XH2 XH2 XH2 ?_
 refine Oo u35 .look rfl (W4c rfl rfl rfl rfl rfl) ?_
 refine Oo u35 .calm rfl (Zb (.inl rfl) rfl) ?_
 refine Oo u35 .calm rfl (rfl) ?_
 refine Oo u35 .calm rfl (rfl) ?_
 refine Z7 (env' := u35) rfl rfl rfl rfl rfl (by exact New_N _ p y (by have := Zw hs; simp; omega) hg) XH9 rfl rfl ?_
 refine Oo u35 .calm rfl (Zb (.inr rfl) rfl) ?_
 refine ZU [] XH2 (trivial) ?_
 refine Zd (Ze (Ze (Za ?_)))
 refine Lo u35 (rfl) ?_
 refine Lo u35 (W3v rfl rfl rfl rfl) ?_
 refine Lo u35 (rfl) ?_
 refine Lo u35 (Zb (.inl rfl) rfl) ?_
 refine Lo u35 ((rfl : vop _ _ _ _ = some (kpV p.users.toNat (wsP p) (Z8 p) y, _))) ?_
 refine Zl rfl rfl rfl (by exact Search_in H _ hs hg) ?_
 rintro _ _ ⟨rfl, rfl⟩; rw [hf]
 refine Le u35 ?_
 refine Lo u35 (rfl) ?_
 refine Lo u35 (Zh (VVal.int .i64 0) (.inl rfl) rfl) ?_
 refine Zf (Zd (Zn ?_))
 refine ZD (mk 35 34301017999) (env' := u35) rfl ?_
 refine ZH (fun (k : Nat) => 0) (fun (k : Nat) => [(25, iI (k : Nat))]) (fun (k : Nat) G => (k = 0) ∧ G = H.set y (gaB (g + (frm (kpB (wsP p) (Z8 p)) (kpG p.users.toNat (wsP p) (Z8 p)) (wsP p).length [] 0).1)) ++ [.dead, .cells [niS] true, .cells [.bool false] true]) 0 rfl ?_ ?_
 ·refine ⟨?_, rfl⟩
  rfl
 rintro k _ ⟨hk9, rfl⟩
 refine Z4 (env' := u35) rfl ?_
 refine Ze (Za ?_)
 refine Lo u35 (rfl) ?_
 refine Zf (Zd (Ze ?_))
 refine Zp _ rfl (fun hc1 => ?_) (fun hc1 => ?_)
 ·try simp only [qB, qN] at hc1
  exfalso; simp at hc1; omega
 ·try simp only [qB, qN] at hc1
  refine ZO (ZM (ZE (ZN (Zd (Ze (Za ?_))))))
  refine Lo u35 (Yc (VVal.slice none 0 0 true 0) rfl rfl rfl rfl rfl rfl rfl XH26 XH6 (by exact ZP (List.length_set))) ?_
  refine Lo u35 (Yc (VVal.bool false) rfl rfl rfl rfl rfl rfl rfl XH26 XH6 (by exact ZP (List.length_set))) ?_
  refine Zf (Zd ?_)
  refine B_gh (Gh.cellNilL 1 0 (es' := 1) rfl rfl) ?_
  refine Zk ?_
  refine W2o (.inr rfl) (vres_cells2 rfl rfl rfl rfl rfl rfl rfl (by first | exact Zx rfl rfl | exact Zx (List.length_set) rfl) (by rfl) (by first | exact Zx rfl rfl | exact Zx (List.length_set) rfl) (by rfl)) ?_
  exact ⟨rfl, rfl⟩
theorem brk_none {rs : List Rul} {l : List Int} : brk rs l = [] ↔ ∀ r, r ∈ rs → hld r l = true := by
  refine rev_ind (P := fun rs => brk rs l = [] ↔ ∀ r, r ∈ rs → hld r l = true) ⟨fun _ r h => (by cases h), fun _ => rfl⟩ (fun rs r ih => ?_) rs
  rw [brk_app, List.append_eq_nil_iff, ih]
  constructor
  · rintro ⟨h1, h2⟩ x hx
    rcases List.mem_append.1 hx with hx | hx
    · exact h1 x hx
    · rw [List.mem_singleton] at hx; subst hx
      by_cases e : hld x l = true
      · exact e
      · rw [if_neg e] at h2; cases h2
  · intro h
    exact ⟨fun x hx => h x (List.mem_append_left _ hx), by rw [if_pos (h r (by simp))]⟩
theorem flU_none {p : Pb} {l : List Int} : ∀ {n : Nat}, flU p l n = [] ↔ ∀ i, i < n → flk p.users (p.fixed.getD i 0) (p.who.getD i 0) (l.getD i 0) = 0
  | 0 => ⟨fun _ i h => absurd h (by omega), fun _ => rfl⟩
  | n + 1 => by
    rw [flU_succ, List.append_eq_nil_iff, flU_none]
    constructor
    · rintro ⟨h1, h2⟩ i hi
      by_cases e : i = n
      · subst e
        by_cases e2 : flk p.users (p.fixed.getD i 0) (p.who.getD i 0) (l.getD i 0) = 0
        · exact e2
        · rw [if_neg e2] at h2; cases h2
      · exact h1 i (by omega)
    · intro h; exact ⟨fun i hi => h i (by omega), by rw [if_pos (h n (by omega))]⟩
theorem hld_erl {r : Rul} {l : List Int} {n : Int} (h : (l.length : Int) = n) : hld r l = erl r n l := by
  subst h; unfold hld erl; rw [decide_eq_true (Int.le_refl _), Bool.true_and]
theorem hds_iff {p : Pb} {us : List Int} : hds p us = true ↔ Go.V.Good p ∧ us.length = p.who.length ∧ (∀ i, i < p.who.length → myB p i (us.getD i 0) = true) ∧ ∀ r, r ∈ p.rules → erl r p.who.length us = true := by
  unfold hds
  rw [Bool.and_eq_true, decide_eq_true_eq, decide_eq_true_eq, pck_good]
  constructor
  · rintro ⟨g, h⟩
    by_cases hl : us.length = p.who.length
    · rw [flw_in hl] at h
      have h1 := List.append_eq_nil_iff.1 h
      have h2 : brk p.rules us = [] := by
        have := h1.2; unfold flR at this; exact List.map_eq_nil_iff.1 this
      refine ⟨g, hl, fun i hi => ?_, fun r hr => by rw [← hld_erl (by rw [hl])]; exact brk_none.1 h2 r hr⟩
      have := flU_none.1 h1.1 i (by omega)
      show (decide _ && _) = true
      rw [has_flk g hi, decide_eq_true this]
    · rw [flw_len hl] at h; cases h
  · rintro ⟨g, hl, h1, h2⟩
    refine ⟨g, ?_⟩
    rw [flw_in hl, brk_none.2 fun r hr => by rw [hld_erl (n := p.who.length) (by rw [hl])]; exact h2 r hr]
    rw [show flR [] = [] from rfl, List.append_nil]
    refine flU_none.2 fun i hi => ?_
    have h3 : (decide _ && _) = true := h1 i (by omega)
    rw [has_flk g (by omega)] at h3
    exact of_decide_eq_true h3
theorem wsP_get {p : Pb} {i : Nat} (h : i < p.who.length) : (wsP p).getD i 0 = wrd p i := by
  unfold wsP; simp [List.getD_eq_getElem?_getD, h]
theorem zI_get {ns : List Nat} {i : Nat} (h : i < ns.length) : (zI ns).getD i 0 = (ns.getD i 0 : Nat) := by
  unfold zI; simp [List.getD_eq_getElem?_getD, h]
theorem myB_nat {p : Pb} {i n : Nat} : myB p i (n : Nat) = true ↔ (wrd p i).getLsbD n = true := by
  unfold myB
  rw [Bool.and_eq_true, decide_eq_true_eq, Int.toNat_natCast]
  exact ⟨fun h => h.2, fun h => ⟨by have := BitVec.lt_of_getLsbD h; omega, h⟩⟩
theorem hds_plan {p : Pb} {ns : List Nat} : hds p (zI ns) = true ↔ Go.V.Good p ∧ PlanN (wsP p) p.rules ns := by
  rw [hds_iff, zI_len]
  constructor
  · rintro ⟨g, hl, h1, h2⟩
    refine ⟨g, by rw [Ye]; exact hl, fun i hi => ?_, fun r hr => by rw [Ye]; exact h2 r hr⟩
    rw [Ye] at hi
    have := h1 i hi
    rw [zI_get (by omega), myB_nat] at this
    rw [wsP_get hi]; exact this
  · rintro ⟨g, h⟩
    have hl := h.len
    rw [Ye] at hl
    refine ⟨g, hl, fun i hi => ?_, fun r hr => by have := h.rul r hr; rw [Ye] at this; exact this⟩
    have := h.may i (by rw [Ye]; exact hi)
    rw [wsP_get hi] at this
    rw [zI_get (by omega), myB_nat]; exact this
theorem leA_some {p : Pb} {l : List Nat} (h : leA p = some l) : hds p (zI l) = true := by
  unfold leA at h
  split at h
  · rename_i hp
    have g := pck_good.1 hp
    refine hds_plan.2 ⟨g, ?_⟩
    unfold Z8 at h
    rw [← Ye] at h
    exact fd_some (fun r hr => by rw [Ye]; exact g.ru r hr) h
  · cases h
theorem W4j {T : TypeId → Option VTy} {H : Zc} {op : Op} {ρ : VEnv} {H' : Zc} {t : TypeId} {a : Operand} {i : Nat} {v : VVal} {y : VTy} {b off : Nat} {cs new : List VVal} (ho : op = .store t a (.tmp i)) (hv : ρ[i]? = some v) (ha : ρ.eval a = .ptr (some (b, off))) (hy : T t = some y) (hx : v.cells = some new) (hn : new.length = y.size) (h1 : new.all VVal.one = true) (hb : H[b]? = some (.cells cs true) := by exact Zx (List.length_set) rfl) (hl : off + new.length ≤ cs.length := by exact XH30) (hH : H.set b (.cells (Zv cs off new) true) = H' := by exact ZP (List.length_set)) : vop T ρ.eval H op = some (.skip, H') := ZX ho hv ha hy hx hn h1 hb hl hH
theorem W4k {S : V.Sys} {H : Zc} {fn : Func} {ex : Exit} {env : VEnv} {B L : Zc} {v : VVal} {R : VVal → Zc → Prop} (hx : ex = .normal ∨ ex = .ret) (hv : ZW S.C.T env (B ++ L) fn.results = some v) (h : R v B) (hB : BaseOk H B := by exact BaseOk.set (BaseOk.refl _) _ rfl) (hu : v.under H.length = true := by show ((fzN _).under _ && (true && true)) = true; rw [show (fzN (plN a (lst (ZQ (wsP p) a a.length) 0#64))).under _ = true from mapN_under _ _]; rfl) : fnK S fn H R ex env (B ++ L) := E_app hx hv hB hu h
theorem Least_some {x : SW} (H : Zc) (y : Nat) (g : Gz) (hs : H[y]? = some (gaB g)) (p : Pb) (hp : PbL p) (hg0 : pck p = 0) (a : List Nat) (hf : (frm (kpB (wsP p) (Z8 p)) (kpG p.users.toNat (wsP p) (Z8 p)) (wsP p).length [] 0).2 = some a) (d9 : Gz) (z9 : List (Gz × List Nat)) (hq : (usT (ZQ (wsP p) a a.length) [] 0#64).1 = (d9, (lst (ZQ (wsP p) a a.length) 0#64)) :: z9) : F (psys x) 21 [.ptr (some (y, 0)), .agg (pbB p)] H fun v G => v = .tuple [fzN (plN a (lst (ZQ (wsP p) a a.length) 0#64)), .bool true] ∧ G = H.set y (gaB (g + (frm (kpB (wsP p) (Z8 p)) (kpG p.users.toNat (wsP p) (Z8 p)) (wsP p).length [] 0).1 + d9)) := by
 have hg : Go.V.Good p := pck_good.1 hg0
 have hy := Zw hs
 obtain ⟨_, hal, ha, _, _⟩ := fnd_ok hf
 have hw : a.length ≤ (wsP p).length := by omega
 have hn : (wsP p).length ≤ 1000000 := by rw [Ye]; exact hp.w
 obtain ⟨t9, hT9⟩ : ∃ t9, tv (plT a (usT (ZQ (wsP p) a a.length) [] 0#64)) = (d9, fzN (plN a (lst (ZQ (wsP p) a a.length) 0#64))) :: t9 := ⟨_, by unfold plT; rw [hq]; rfl⟩
 refine Zs Tryd.func21 rfl u35 rfl ?_
 refine Ze (Za ?_)
 refine Lo u35 (Zy rfl rfl rfl) ?_
 refine Lo u35 (ZG rfl rfl) ?_
 refine Lo u35 (ZG rfl rfl) ?_
 refine Zf (Zd (Ze (Ze ?_)))
 refine B_gh (Gh.freezePtrL (cs := pbB p) 3 0 rfl rfl rfl) ?_
 refine Za ?_
 refine Lo u35 (W4c rfl rfl rfl rfl rfl) ?_
 refine Zl rfl rfl rfl (by exact sCheck_spec _ _ hp) ?_
 rintro _ _ ⟨rfl, rfl⟩
 refine Le u35 ?_
 refine Lo u35 (v_is false rfl (by rw [hg0]; rfl)) ?_
 refine Zf (Zd ?_)
 refine Yb rfl rfl ?_
 refine Zo (Zd (Ze ?_))
 refine ZZ [0, 1, 2, 3, 4, 5] #[0, 0, 2, 6, 15, 31] XH2 XH2 XH2 ?_
 refine Oo u35 .look rfl (W4c rfl rfl rfl rfl rfl) ?_
 refine Oo u35 .calm rfl (Zb (.inl rfl) rfl) ?_
 refine Oo u35 .calm rfl (rfl) ?_
 refine Oo u35 .calm rfl (rfl) ?_
 refine Z7 (env' := u35) rfl rfl rfl rfl rfl (by exact New_N _ p y (by simp; omega) hg) XH9 rfl rfl ?_
 refine Oo u35 .calm rfl (Zb (.inr rfl) rfl) ?_
 refine ZU [] XH2 (trivial) ?_
 refine Zd (Ze (Ze (Za ?_)))
 refine Lo u35 (rfl) ?_
 refine Lo u35 (W3v rfl rfl rfl rfl) ?_
 refine Lo u35 (rfl) ?_
 refine Lo u35 (Zb (.inl rfl) rfl) ?_
 refine Lo u35 ((rfl : vop _ _ _ _ = some (kpV p.users.toNat (wsP p) (Z8 p) y, _))) ?_
 refine Zl rfl rfl rfl (by exact Search_in H _ hs hg) ?_
 rintro _ _ ⟨rfl, rfl⟩; rw [hf]
 refine Le u35 ?_
 refine Lo u35 (rfl) ?_
 refine Lo u35 (Zh (VVal.int .i64 0) (.inl rfl) rfl) ?_
 refine Zf (Zd (Zn ?_))
 refine ZD (mk 35 34301017999) (env' := u35) rfl ?_
 refine ZH (fun (k : Nat) => 0) (fun (k : Nat) => [(25, iI (k : Nat))]) (fun (k : Nat) G => (k = 0) ∧ G = H.set y (gaB (g + (frm (kpB (wsP p) (Z8 p)) (kpG p.users.toNat (wsP p) (Z8 p)) (wsP p).length [] 0).1)) ++ [.dead, .cells [niS] true, .cells [.bool false] true]) 0 rfl ?_ ?_
 ·refine ⟨?_, rfl⟩
  rfl
 rintro k _ ⟨rfl, rfl⟩
 refine Z4 (env' := u35) rfl ?_
 refine Ze (Za ?_)
 refine Lo u35 (rfl) ?_
 refine Zf (Zd (Ze ?_))
 refine Zp _ rfl (fun hc1 => ?_) (fun hc1 => ?_)
 ·try simp only [qB, qN] at hc1
  refine Zo (Zd (Ze (Zn (Ze (Za ?_)))))
  refine Lo u35 (W18 rfl rfl rfl rfl rfl rfl rfl) ?_
  refine Lo u35 (W3v rfl rfl rfl rfl) ?_
  refine Lo u35 (Zb (.inr rfl) rfl) ?_
  refine Zf (Zd (Ze (Za ?_)))
  refine Lo u35 (Zb (.inl rfl) rfl) ?_
  refine Lo u35 (Zb (.inl rfl) rfl) ?_
  refine Zl rfl rfl rfl (by exact Plans_spec _ y (by simp; omega) a) ?_
  rintro _ _ ⟨rfl, rfl⟩
  refine Le u35 ?_
  refine Zf (Zd (Zn ?_))
  refine ZD (mk 35 32153534351) (env' := u35) rfl ?_
  refine B_rangePJ (y) (tv (plT a (usT (ZQ (wsP p) a a.length) [] 0#64))) ((usT (ZQ (wsP p) a a.length) [] 0#64).2) (fun l0 h => by cases h) rfl (fun l9 G9 K9 hg9 hI9 => Plans1_spec y l9 a ha hw hn G9 _ K9 hg9.choose_spec hI9) (σ := Gz × VVal × Bool) (fun k s => H.set y (gaB s.1) ++ [.dead, .cells [s.2.1] true, .cells [.bool s.2.2] true, k]) (g + (frm (kpB (wsP p) (Z8 p)) (kpG p.users.toNat (wsP p) (Z8 p)) (wsP p).length [] 0).1, niS, false) (fun k => by simp) (fun k s => by simp) (fun k s => by rw [show ((H.set y _) ++ _ : Zc).length = H.length + 3 by simp]; exact Zx (List.length_set) rfl) (fun k k1 s => by rw [show ((H.set y _) ++ _ : Zc).length = H.length + 3 by simp]; exact ZP (List.length_set)) (fun s => s.1) (fun d s => (s.1 + d, s.2)) (fun pre s => pre = [] ∧ s = (g + (frm (kpB (wsP p) (Z8 p)) (kpG p.users.toNat (wsP p) (Z8 p)) (wsP p).length [] 0).1, niS, false)) (fun k s pre hI => by exact Zm (List.getElem?_set_self hy)) (fun k s d pre hI => by rw [Yh XH23, List.set_set]) ?_ (fun j pre c s => (j = Code.ret ∧ (s = (g + (frm (kpB (wsP p) (Z8 p)) (kpG p.users.toNat (wsP p) (Z8 p)) (wsP p).length [] 0).1 + d9, fzN (plN a (lst (ZQ (wsP p) a a.length) 0#64)), true)))) rfl ?_ ?_ ?_
  ·exact ⟨rfl, rfl⟩
  ·intro pre d c post s hx hI Lp kr kb hkr hkb
   obtain ⟨g8, v8, b8⟩ := s
   try dsimp only at hI ⊢
   obtain ⟨rfl, hI⟩ := hI
   obtain ⟨rfl, rfl, rfl⟩ : g8 = _ ∧ v8 = _ ∧ b8 = _ := by simpa using hI
   obtain ⟨rfl, rfl⟩ : d = d9 ∧ c = fzN (plN a (lst (ZQ (wsP p) a a.length) 0#64)) := by
    have h9 : (d9, fzN (plN a (lst (ZQ (wsP p) a a.length) 0#64))) :: t9 = (d, c) :: post := (by rw [← hT9]; exact hx)
    injection h9 with h1 h2; injection h1 with h3 h4; exact ⟨h3.symm, h4.symm⟩
   refine Z4 (env' := u35) rfl ?_
   refine Za ?_
   refine Lo u35 (Zb (.inr rfl) rfl) ?_
   refine Zf ?_
   refine ⟨rfl, (g + (frm (kpB (wsP p) (Z8 p)) (kpG p.users.toNat (wsP p) (Z8 p)) (wsP p).length [] 0).1 + d, niS, false), rfl, ?_⟩
   try dsimp only
   refine B_heap (H' := H.set y (gaB (g + (frm (kpB (wsP p) (Z8 p)) (kpG p.users.toNat (wsP p) (Z8 p)) (wsP p).length [] 0).1 + d)) ++ ([.dead, .cells [niS] true, .cells [.bool false] true, kb] ++ Lp)) (by simp) ?_
   refine Zn (Ze (Za ?_))
   refine Lo u35 (Zb (.inl rfl) rfl) ?_
   refine Lo u35 (W4j rfl rfl rfl rfl rfl rfl rfl) ?_
   refine Lo u35 (Yc (VVal.bool true) rfl rfl rfl rfl rfl rfl rfl XH26 XH6 (by exact ZP (List.length_set))) ?_
   refine Zf (Zd (Zk (ZJ ?_)))
   refine ⟨(g + (frm (kpB (wsP p) (Z8 p)) (kpG p.users.toNat (wsP p) (Z8 p)) (wsP p).length [] 0).1 + d, fzN (plN a (lst (ZQ (wsP p) a a.length) 0#64)), true), [], (by simp; exact ⟨rfl, rfl⟩), .inr ⟨Code.ret, rfl, ⟨rfl, ?_⟩⟩⟩
   rfl
  ·intro s k hk hI J9
   obtain ⟨g8, v8, b8⟩ := s
   try dsimp only at hI ⊢
   exfalso
   obtain ⟨h8, _⟩ := hI
   rw [hT9] at h8; cases h8
  ·rintro j pre c post s k hk hx (⟨rfl, hX⟩) J9
   obtain ⟨g8, v8, b8⟩ := s
   try dsimp only
   obtain ⟨rfl, rfl, rfl⟩ : g8 = _ ∧ v8 = _ ∧ b8 = _ := by simpa using hX
   rw [List.append_assoc (H.set _ _)]
   refine J_ret ?_
   refine ZJ (ZJ (Zq (Yw (ZJ (Zq ?_)))))
   refine W4k (.inr rfl) (vres_cells2 rfl rfl rfl rfl rfl rfl rfl XH26 (by rfl) XH26 (by rfl)) ?_
   exact ⟨rfl, rfl⟩
 ·try simp only [qB, qN] at hc1
  exfalso; simp at hc1
abbrev u3 {a0 a1 a2 : VVal} : VEnv := a0 :: a1 :: a2 :: []
abbrev u14 {a0 a1 a2 a3 a4 a5 a6 a7 a8 a9 a10 a11 a12 a13 : VVal} : VEnv := a0 :: a1 :: a2 :: a3 :: a4 :: a5 :: a6 :: a7 :: a8 :: a9 :: a10 :: a11 :: a12 :: a13 :: []
theorem W4n {T : TypeId → Option VTy} {H : Zc} {op : Op} {ρ : Operand → VVal} {t : TypeId} {a : Operand} {y : VTy} {p : VVal} {n : Nat} {vs : List VVal} (ho : op = .load t a) (ha : ρ a = p) (hy : T t = some y) (hd : Zj y.desc = true) (hn : y.size = n) (h : LdOkA H p n vs := by first | exact .inl ⟨_, _, rfl, XH29⟩ | exact .inr ⟨_, _, _, _, rfl, by first | exact Zm hs | exact Zx rfl rfl, XH29⟩) : vop T ρ H op = some (.agg vs, H) := v_ldA ho ha hy hd hn h
theorem W4o {T : TypeId → Option VTy} {H : Zc} {op : Op} {ρ : VEnv} {H' : Zc} {t : TypeId} {a : Operand} {i : Nat} {v : VVal} {y : VTy} {b off : Nat} {cs new : List VVal} (ho : op = .store t a (.tmp i)) (hv : ρ[i]? = some v) (ha : ρ.eval a = .ptr (some (b, off))) (hy : T t = some y) (hx : v.cells = some new) (hn : new.length = y.size) (h1 : new.all VVal.one = true) (hb : H[b]? = some (.cells cs true) := by first | exact Zm hs | exact Zx rfl rfl) (hl : off + new.length ≤ cs.length := by exact XH30) (hH : H.set b (.cells (Zv cs off new) true) = H' := by exact XH33) : vop T ρ.eval H op = some (.skip, H') := ZX ho hv ha hy hx hn h1 hb hl hH
theorem sLeast_spec {x : SW} (H : Zc) (y : Nat) (g : Gz) (hs : H[y]? = some (gaB g)) (p : Pb) (hp : PbL p) : F (psys x) 21 [.ptr (some (y, 0)), .agg (pbB p)] H fun v G => v = leT (leA p) ∧ G = H.set y (gaB (g + leG p)) := by
  by_cases hg : pck p = 0
  · cases hf : (frm (kpB (wsP p) (Z8 p)) (kpG p.users.toNat (wsP p) (Z8 p)) (wsP p).length [] 0).2 with
    | none =>
      refine (Least_none H y g hs p hp hg hf).mono ?_
      rintro v G ⟨rfl, rfl⟩
      rw [show leA p = none by unfold leA fdA; rw [if_pos hg, hf]; rfl, show leG p = (frm (kpB (wsP p) (Z8 p)) (kpG p.users.toNat (wsP p) (Z8 p)) (wsP p).length [] 0).1 by unfold leG fdG; rw [if_pos hg, hf]; exact Gz.add_zero _]
      exact ⟨rfl, rfl⟩
    | some a =>
      obtain ⟨_, _, _, _, hm⟩ := fnd_ok hf
      obtain ⟨d9, z9, hq⟩ := usT_fst hm
      refine (Least_some H y g hs p hp hg a hf d9 z9 hq).mono ?_
      rintro v G ⟨rfl, rfl⟩
      rw [show leA p = some (plN a (lst (ZQ (wsP p) a a.length) 0#64)) by unfold leA fdA; rw [if_pos hg, hf]; rfl, show leG p = (frm (kpB (wsP p) (Z8 p)) (kpG p.users.toNat (wsP p) (Z8 p)) (wsP p).length [] 0).1 + d9 by unfold leG fdG; rw [if_pos hg, hf]; simp only [hq]; rfl]
      exact ⟨rfl, by rw [Gz.assoc]⟩
  · refine (Least_bad H y g hs p hp hg).mono ?_
    rintro v G ⟨rfl, rfl⟩
    rw [show leA p = none from if_neg hg, show leG p = 0 from if_neg hg, Gz.add_zero, ← set_keep hs]
    exact ⟨rfl, rfl⟩
theorem leT_can {o : Option (List Nat)} : ∃ l, leT o = .tuple [fzN l, .bool o.isSome] := by
  cases o with
  | none => exact ⟨[], rfl⟩
  | some l => exact ⟨l, rfl⟩
theorem sLeast_t {x : SW} (H : Zc) (y : Nat) (g : Gz) (hs : H[y]? = some (gaB g)) (p : Pb) (hp : PbL p) : F (psys x) 21 [.ptr (some (y, 0)), .agg (pbB p)] H fun v G => ∃ l, v = .tuple [fzN l, .bool (leA p).isSome] ∧ G = H.set y (gaB (g + leG p)) := by
  refine (sLeast_spec H y g hs p hp).mono ?_
  rintro v G ⟨rfl, rfl⟩
  obtain ⟨l, h⟩ := @leT_can (leA p)
  exact ⟨l, h, rfl⟩
theorem Can_spec {x : SW} (H : Zc) (y : Nat) (g : Gz) (hs : H[y]? = some (gaB g)) (p : Pb) (hp : PbL p) : F (psys x) 20 [.ptr (some (y, 0)), .agg (pbB p)] H fun v G => v = .bool (leA p).isSome ∧ G = H.set y (gaB (g + leG p)) := by
 refine Zs Tryd.func20 rfl u14 rfl ?_
 refine Ze (Za ?_)
 refine Lo u14 (Zy rfl rfl rfl) ?_
 refine Lo u14 (Zh (VVal.bool false) (.inr rfl) rfl) ?_
 refine Zf (Zd (Ze (Za ?_)))
 refine Lo u14 (Zb (.inl rfl) rfl) ?_
 refine Lo u14 (W11 rfl rfl rfl rfl rfl) ?_
 refine Zl rfl rfl rfl (by exact sLeast_t _ y g (Zm hs) p hp) ?_
 rintro _ _ ⟨l, rfl, rfl⟩; rw [Yh (Zw hs)]
 refine Le u14 ?_
 refine Lo u14 (Zb (.inl rfl) rfl) ?_
 refine Lo u14 (rfl) ?_
 refine Lo u14 (rfl) ?_
 refine Lo u14 (Zb (.inr rfl) rfl) ?_
 refine Lo u14 (Zb (.inr rfl) rfl) ?_
 refine Zf (Zd (Ze (Za ?_)))
 refine Lo u14 (Zb (.inl rfl) rfl) ?_
 refine Lo u14 (Zb (.inr rfl) rfl) ?_
 refine Zf (Zd (Zk ?_))
 refine W2o (.inr rfl) (Zi rfl rfl) ?_
 exact ⟨rfl, rfl⟩
theorem sNew_spec {x : SW} (H : Zc) : F (psys x) 16 [] H fun v G => v = .ptr (some (H.length, 0)) ∧ G = H ++ [gaB 0] := by
 refine Zs Tryd.func16 rfl u3 rfl ?_
 refine Ze (Za ?_)
 refine Lo u3 (Zh (VVal.ptr none) (.inr rfl) rfl) ?_
 refine Zf (Zd (Ze (Za ?_)))
 refine Lo u3 (rfl) ?_
 refine Lo u3 (Zy rfl rfl rfl) ?_
 refine Lo u3 (Zb (.inr rfl) rfl) ?_
 refine Zf (Zd (Zk ?_))
 refine E_keep (.inr rfl) (Zi rfl rfl) ?_
 exact ⟨rfl, rfl⟩
theorem Gauge_spec {x : SW} (H : Zc) (y : Nat) (g : Gz) (hs : H[y]? = some (gaB g)) : F (psys x) 26 [.ptr (some (y, 0))] H fun v G => v = .agg [iN g.n, iN g.p, iN g.e] ∧ G = H := by
 refine Zs Tryd.func26 rfl u7 rfl ?_
 refine Ze (Za ?_)
 refine Lo u7 (ZG rfl rfl) ?_
 refine Zf (Zd (Ze (Za ?_)))
 refine Lo u7 (Zb (.inl rfl) rfl) ?_
 refine Lo u7 (rfl) ?_
 refine Lo u7 (rfl) ?_
 refine Lo u7 (W4n rfl rfl rfl rfl rfl) ?_
 refine Lo u7 (W4o rfl rfl rfl rfl rfl rfl rfl) ?_
 refine Zf (Zd (Zk ?_))
 refine W10 (.inr rfl) (vres_cellA rfl rfl rfl rfl (by first | exact Zm hs | exact Zx rfl rfl) XH8) ?_
 exact ⟨rfl, rfl⟩
abbrev u26 {a0 a1 a2 a3 a4 a5 a6 a7 a8 a9 a10 a11 a12 a13 a14 a15 a16 a17 a18 a19 a20 a21 a22 a23 a24 a25 : VVal} : VEnv := a0 :: a1 :: a2 :: a3 :: a4 :: a5 :: a6 :: a7 :: a8 :: a9 :: a10 :: a11 :: a12 :: a13 :: a14 :: a15 :: a16 :: a17 :: a18 :: a19 :: a20 :: a21 :: a22 :: a23 :: a24 :: a25 :: []
abbrev u41 {a0 a1 a2 a3 a4 a5 a6 a7 a8 a9 a10 a11 a12 a13 a14 a15 a16 a17 a18 a19 a20 a21 a22 a23 a24 a25 a26 a27 a28 a29 a30 a31 a32 a33 a34 a35 a36 a37 a38 a39 a40 : VVal} : VEnv := a0 :: a1 :: a2 :: a3 :: a4 :: a5 :: a6 :: a7 :: a8 :: a9 :: a10 :: a11 :: a12 :: a13 :: a14 :: a15 :: a16 :: a17 :: a18 :: a19 :: a20 :: a21 :: a22 :: a23 :: a24 :: a25 :: a26 :: a27 :: a28 :: a29 :: a30 :: a31 :: a32 :: a33 :: a34 :: a35 :: a36 :: a37 :: a38 :: a39 :: a40 :: []
theorem W4s {T : TypeId → Option VTy} {H : Zc} {op : Op} {ρ : Operand → VVal} {t : TypeId} {a : Operand} {y : VTy} {p v : VVal} (ho : op = .load t a) (ha : ρ a = p) (hy : T t = some y) (hd : Zj y.desc = false) (h : LdOk H p v := by first | exact .inl ⟨_, _, rfl, by first | rfl | exact fgetN (α := Int) 0 (by omega)⟩ | exact .inr ⟨_, _, _, _, rfl, XH28, by first | rfl | exact fgetN (α := Int) 0 (by omega)⟩) : vop T ρ H op = some (v, H) := v_ld ho ha hy hd h
theorem kInts_spec {x : SW} (H : Zc) (l r : List (Int)) (h1 : l.length ≤ 1000000) : F (psys x) 23 [fzI l, fzI r] H fun v G => v = .bool (decide (l = r)) ∧ G = H := by
 refine Zs Tryd.func23 rfl u26 rfl ?_
 refine Ze (Za ?_)
 refine Lo u26 (Zh (VVal.bool false) (.inr rfl) rfl) ?_
 refine Zf (Zd (Ze (Ze (Za ?_))))
 refine Lo u26 (Zb (.inl rfl) rfl) ?_
 refine Lo u26 (rfl) ?_
 refine Lo u26 (Zb (.inl rfl) rfl) ?_
 refine Lo u26 (rfl) ?_
 refine Lo u26 (rfl) ?_
 refine Zf (Zd ?_)
 refine Zp _ rfl (fun hc1 => ?_) (fun hc1 => ?_)
 ·try simp only [qB, qN] at hc1
  refine Ze (Za ?_)
  refine Lo u26 (Zh (VVal.bool false) (.inr rfl) rfl) ?_
  refine Zf (Zd (Zk (Zq ?_)))
  refine W10 (.inr rfl) (Zi rfl rfl) ?_
  exact ⟨by rw [decide_eq_false (fun e => by rw [e] at hc1; omega)], rfl⟩
 ·try simp only [qB, qN] at hc1
  refine Zo (Zd (Ze (Ze (Za ?_))))
  refine Lo u26 (Zh (VVal.int .i64 0) (.inr rfl) rfl) ?_
  refine Zf (Zd (Zn ?_))
  refine ZD (mk 26 67108828) (env' := u26) rfl ?_
  refine ZH (fun (k : Nat) => l.length - k) (fun (k : Nat) => [(5, iI (k : Nat))]) (fun (k : Nat) G => (k ≤ l.length ∧ ∀ j, j < k → l.getD j 0 = r.getD j 0) ∧ G = H ++ []) 0 rfl ?_ ?_
  ·refine ⟨?_, rfl⟩
   exact ⟨Nat.zero_le _, fun j h => by omega⟩
  rintro k _ ⟨⟨hk, hall⟩, rfl⟩
  refine Z4 (env' := u26) rfl ?_
  refine Ze (Ze (Za ?_))
  refine Lo u26 (Zb (.inl rfl) rfl) ?_
  refine Lo u26 (Zb (.inl rfl) rfl) ?_
  refine Lo u26 (rfl) ?_
  refine Lo u26 (rfl) ?_
  refine Zf (Zd ?_)
  refine Zp _ rfl (fun hc2 => ?_) (fun hc2 => ?_)
  ·try simp only [qB, qN] at hc2
   refine Zo (Zd (Ze (Zn (Ze ?_))))
   refine ZZ [0, 1, 2, 3, 4, 5, 6, 7, 8] #[0, 0, 3, 7, 0, 0, 48, 112, 255] XH2 XH2 XH2 ?_
   refine Oo u26 .calm rfl (Zb (.inl rfl) rfl) ?_
   refine Oo u26 .calm rfl (Zb (.inl rfl) rfl) ?_
   refine Oo u26 .calm rfl (W18 rfl rfl rfl rfl rfl rfl rfl) ?_
   refine Oo u26 .look rfl (W4s rfl rfl rfl rfl) ?_
   refine Oo u26 .calm rfl (Zb (.inl rfl) rfl) ?_
   refine Oo u26 .calm rfl (Zb (.inl rfl) rfl) ?_
   refine Oo u26 .calm rfl (W18 rfl rfl rfl rfl rfl rfl rfl) ?_
   refine Oo u26 .look rfl (W4s rfl rfl rfl rfl) ?_
   refine Oo u26 .calm rfl (rfl) ?_
   refine ZU [] XH2 (trivial) ?_
   refine Zd ?_
   refine Zp _ rfl (fun hc3 => ?_) (fun hc3 => ?_)
   ·try simp only [qB, qN] at hc3
    refine Ze (Za ?_)
    refine Lo u26 (Zh (VVal.bool false) (.inr rfl) rfl) ?_
    refine Zf (Zd (Zk (ZJ (Zq (Yw (ZJ (Zq ?_)))))))
    refine W10 (.inr rfl) (Zi rfl rfl) ?_
    exact ⟨by rw [decide_eq_false (fun e => by subst e; exact hc3 rfl)], rfl⟩
   ·try simp only [qB, qN] at hc3
    refine Zo (ZB (Zd (Za ?_)))
    refine Lo u26 (Zb (.inl rfl) rfl) ?_
    refine Lo u26 (W14 rfl rfl rfl) ?_
    refine Lo u26 (Zb (.inr rfl) rfl) ?_
    refine Zf ?_
    refine ZR (mk 26 67108828) (env' := u26) rfl ⟨k + 1, ?_, rfl, ?_⟩
    ·first | omega | (simp only []; omega)
    ·exact ⟨⟨by omega, fun j hj => by by_cases e : j = k; (subst e; assumption); exact hall j (by omega)⟩, rfl⟩
  ·try simp only [qB, qN] at hc2
   refine ZO (ZM (ZE (ZN (Zd (Ze (Za ?_))))))
   refine Lo u26 (Zh (VVal.bool true) (.inr rfl) rfl) ?_
   refine Zf (Zd (Zk ?_))
   refine W10 (.inr rfl) (Zi rfl rfl) ?_
   have e := eq_getD (d := 0) (by omega) (fun j hj => hall j (by omega))
   exact ⟨by rw [decide_eq_true e], rfl⟩
def pw : Pb := (3, [3#64, 3#64, 4#64], [-1, -1, -1], [(1, 0, [0, 1], ())], ())
theorem wk_le : leA pw = some [0, 1, 2] := by decide +kernel
theorem pw_L : PbL pw := ⟨by decide, by decide, by decide, by decide, fun r hr => by
  have hr : r ∈ [((1 : Int), (0 : Int), [(0 : Int), 1], ())] := hr
  rw [List.mem_singleton] at hr; subst hr; decide⟩
theorem wk_h : hds pw [0, 1, 2] = true := by decide +kernel
theorem wk_c : pck pw = 0 := by decide +kernel
theorem wk_t : leT (leA pw) = .tuple [fzI [0, 1, 2], .bool true] := by rw [wk_le]; rfl
theorem at_get {H L : Zc} {k : VBlk} : (H ++ k :: L)[H.length]? = some k := by rw [List.getElem?_append_right (Nat.le_refl _), Nat.sub_self]; rfl
theorem at_set {H L : Zc} {k k' : VBlk} : (H ++ k :: L).set H.length k' = H ++ k' :: L := by rw [List.set_append_right _ _ (Nat.le_refl _), Nat.sub_self]; rfl
theorem sLeast_at {x : SW} (H L : Zc) (g : Gz) (p : Pb) (hp : PbL p) : F (psys x) 21 [.ptr (some (H.length, 0)), .agg (pbB p)] (H ++ gaB g :: L) fun v G => v = leT (leA p) ∧ G = H ++ gaB (g + leG p) :: L := by
  have := sLeast_spec (x := x) (H ++ gaB g :: L) H.length g at_get p hp
  rw [at_set] at this; exact this
theorem Can_at {x : SW} (H L : Zc) (g : Gz) (p : Pb) (hp : PbL p) : F (psys x) 20 [.ptr (some (H.length, 0)), .agg (pbB p)] (H ++ gaB g :: L) fun v G => v = .bool (leA p).isSome ∧ G = H ++ gaB (g + leG p) :: L := by
  have := Can_spec (x := x) (H ++ gaB g :: L) H.length g at_get p hp
  rw [at_set] at this; exact this
theorem wakes_spec {x : SW} (H : Zc) : F (psys x) 17 [] H fun v G => v = .bool true ∧ G = H := by
 refine Zs Tryd.func17 rfl u41 rfl ?_
 refine Ze (Za ?_)
 refine Lo u41 (Zh (VVal.bool false) (.inr rfl) rfl) ?_
 refine Zf (Zd (Ze (Za ?_)))
 refine Zl rfl rfl rfl (by exact sNew_spec _) ?_
 rintro _ _ ⟨rfl, rfl⟩; rw [List.append_nil]
 refine Le u41 ?_
 refine Lo u41 (Zb (.inr rfl) rfl) ?_
 refine Zf (Zd (Ze (Ze (Za ?_))))
 refine Lo u41 (Zb (.inl rfl) rfl) ?_
 refine Lo u41 (v_is false rfl rfl) ?_
 refine Zf (Zd ?_)
 refine Yb rfl rfl ?_
 refine Zo (Zd (Ze (Za ?_)))
 refine Lo u41 (Zt rfl rfl (by decide) rfl) ?_
 refine Lo u41 (Zt rfl rfl (by decide) rfl) ?_
 refine Lo u41 (Zt rfl rfl (by decide) rfl) ?_
 refine Lo u41 (rfl) ?_
 refine Lo u41 (Zt rfl rfl (by decide) rfl) ?_
 refine Lo u41 (rfl) ?_
 refine Lo u41 (ZG rfl rfl) ?_
 refine Lo u41 (W13 rfl rfl rfl rfl rfl rfl rfl) ?_
 refine Zf (Zd (Ze (Za ?_)))
 refine L_gh (Gh.cellL (l := [iI 0, iI 1]) 4 2 3 rfl rfl (by decide) rfl rfl (Nat.le_refl _)) ?_
 refine L_gh (Gh.cellL (l := [iW 3#64, iW 3#64, iW 4#64]) 5 1 1 rfl rfl (by decide) rfl rfl (Nat.le_refl _)) ?_
 refine L_gh (Gh.cellL (l := [iI (-1), iI (-1), iI (-1)]) 5 2 2 rfl rfl (by decide) rfl rfl (Nat.le_refl _)) ?_
 refine L_gh (Gh.cellL (l := rlB (1, 0, [0, 1], ())) 5 3 4 rfl rfl (by decide) rfl rfl (Nat.le_refl _)) ?_
 refine Lo u41 (Zb (.inl rfl) rfl) ?_
 refine Lo u41 (W11 rfl rfl rfl rfl rfl) ?_
 refine Zl rfl rfl rfl (by exact sLeast_at H _ 0 pw pw_L) ?_
 rintro v _ ⟨hv, rfl⟩; rw [wk_t] at hv; subst hv
 refine Le u41 ?_
 refine Lo u41 (Zb (.inl rfl) rfl) ?_
 refine Lo u41 (rfl) ?_
 refine Lo u41 (rfl) ?_
 refine Lo u41 (Zb (.inr rfl) rfl) ?_
 refine Lo u41 (Zb (.inr rfl) rfl) ?_
 refine Zf (Zd (Ze (Za ?_)))
 refine Lo u41 (Zb (.inl rfl) rfl) ?_
 refine Lo u41 (Zb (.inl rfl) rfl) ?_
 refine Lo u41 (Zb (.inl rfl) rfl) ?_
 refine Lo u41 (Zt rfl rfl (by decide) rfl) ?_
 refine L_gh (Gh.freezeL (l := [iI 0, iI 1, iI 2]) 23 6 rfl rfl rfl (Nat.le_refl _) rfl) ?_
 refine Zl rfl rfl rfl (by exact kInts_spec _ [0, 1, 2] [0, 1, 2] (by decide)) ?_
 rintro v _ ⟨hv, rfl⟩; obtain rfl : v = .bool true := hv.trans (congrArg VVal.bool (by decide))
 refine Le u41 ?_
 refine Lo u41 (ZA rfl rfl rfl) ?_
 refine Lo u41 (Zb (.inl rfl) rfl) ?_
 refine Lo u41 (Zb (.inl rfl) rfl) ?_
 refine Lo u41 (W11 rfl rfl rfl rfl rfl) ?_
 refine Zl rfl rfl rfl (by exact Can_at H _ (0 + leG pw) pw pw_L) ?_
 rintro v _ ⟨hv, rfl⟩; obtain rfl : v = .bool true := hv.trans (congrArg VVal.bool (by rw [wk_le]; rfl))
 refine Le u41 ?_
 refine Lo u41 (ZA rfl rfl rfl) ?_
 refine Lo u41 (Zb (.inl rfl) rfl) ?_
 refine Lo u41 (W11 rfl rfl rfl rfl rfl) ?_
 refine Lo u41 (Zb (.inl rfl) rfl) ?_
 refine Zl rfl rfl rfl (by exact Holds_spec _ pw [0, 1, 2] pw_L (by decide)) ?_
 rintro v _ ⟨hv, rfl⟩; obtain rfl : v = .bool true := hv.trans (congrArg VVal.bool wk_h)
 refine Le u41 ?_
 refine Lo u41 (ZA rfl rfl rfl) ?_
 refine Lo u41 (Zb (.inl rfl) rfl) ?_
 refine Lo u41 (W11 rfl rfl rfl rfl rfl) ?_
 refine Zl rfl rfl rfl (by exact sCheck_spec _ pw pw_L) ?_
 rintro v _ ⟨hv, rfl⟩; rw [wk_c] at hv; subst hv
 refine Le u41 ?_
 refine Lo u41 (rfl) ?_
 refine Lo u41 (ZA rfl rfl rfl) ?_
 refine Lo u41 (Zb (.inr rfl) rfl) ?_
 refine Zf (Zd (Zk ?_))
 refine W10 (.inr rfl) (Zi rfl rfl) ?_
 exact ⟨rfl, rfl⟩
theorem myB_inN {p : Pb} {i n : Nat} (g : Go.V.Good p) (hi : i < p.who.length) (h : (wrd p i).getLsbD n = true) : n < p.users.toNat := by
  have g4 := g.u0; have g2 := g.u64
  have hm : myB p i (n : Nat) = true := myB_nat.2 h
  by_cases hf : 0 ≤ p.fixed.getD i 0
  · rw [myB_f g hi hf, decide_eq_true_eq] at hm
    have := (okW_in g hi).1
    omega
  · rw [myB_w g hi (by omega), Bool.and_eq_true, decide_eq_true_eq] at hm
    omega
structure Pm (t : List Int) : Prop where
  rg : ∀ i, i < t.length → 0 ≤ t.getD i 0 ∧ t.getD i 0 < t.length
  ij : ∀ i j, i < t.length → j < t.length → t.getD i 0 = t.getD j 0 → i = j
section
variable {t : List Int} {q : Pb}
end
def wdP (q : Pb) (W : List (BitVec 64)) : Pb := (q.users, W, q.fixed, q.rules, ())
theorem set_get {X : Zc} {j : Nat} {a b : VBlk} (h : X[j]? = some a) : (X.set j b)[j]? = some b := List.getElem?_set_self (Zw h)
theorem set_far {X : Zc} {j k : Nat} {a b : VBlk} (h : X[k]? = some a) (d : j ≠ k) : (X.set j b)[k]? = some a := by rw [List.getElem?_set_ne d]; exact h
theorem rep_cellsI : ∀ {n : Nat}, Zu [iI 0] n = (List.replicate n (0 : Int)).map iI
  | 0 => rfl
  | n + 1 => by rw [Zu, rep_cellsI, List.replicate_succ]; rfl
theorem tm_n (x : Int) {u : Int} (h : 1 ≤ u) : (-u < x.tmod u ∧ x.tmod u < u) ∧ ∃ a : Nat, (x.tmod u + u).tmod u = (a : Int) ∧ (a : Int) < u := by
  have h1 : -u < x.tmod u ∧ x.tmod u < u := by
    have hb : (u.natAbs : Int) = u := by omega
    have h3 := Int.tmod_lt_of_pos x (b := u) (by omega)
    have h4 := Int.tmod_lt_of_pos (-x) (b := u) (by omega)
    rw [Int.neg_tmod] at h4
    omega
  refine ⟨h1, ((x.tmod u + u).tmod u).toNat, ?_, ?_⟩
  · have := Int.tmod_nonneg (a := x.tmod u + u) u (by omega); omega
  · have := Int.tmod_nonneg (a := x.tmod u + u) u (by omega)
    have := Int.tmod_lt_of_pos (x.tmod u + u) (b := u) (by omega); omega
theorem fget0N {l : List Int} {k : Nat} (h : k < l.length) : (l.map iI)[0 + ((k : Nat) : Int).toNat * 1]? = some (iI (l.getD k 0)) := by rw [Nat.zero_add]; exact fgetN (0 : Int) h
theorem fget0W {l : List (BitVec 64)} {k : Nat} (h : k < l.length) : (l.map iW)[0 + ((k : Nat) : Int).toNat * 1]? = some (iW (l.getD k 0)) := by rw [Nat.zero_add]; exact fgetN (0 : BitVec 64) h
theorem spl_Wt {l : List (BitVec 64)} {k : Nat} {w : BitVec 64} (h : k < l.length) : Zv (l.map iW) (0 + ((k : Nat) : Int).toNat * 1) [iW w] = (l.set k w).map iW := by rw [Int.toNat_natCast]; exact spl_W h
abbrev u5 {a0 a1 a2 a3 a4 : VVal} : VEnv := a0 :: a1 :: a2 :: a3 :: a4 :: []
abbrev u57 {a0 a1 a2 a3 a4 a5 a6 a7 a8 a9 a10 a11 a12 a13 a14 a15 a16 a17 a18 a19 a20 a21 a22 a23 a24 a25 a26 a27 a28 a29 a30 a31 a32 a33 a34 a35 a36 a37 a38 a39 a40 a41 a42 a43 a44 a45 a46 a47 a48 a49 a50 a51 a52 a53 a54 a55 a56 : VVal} : VEnv := a0 :: a1 :: a2 :: a3 :: a4 :: a5 :: a6 :: a7 :: a8 :: a9 :: a10 :: a11 :: a12 :: a13 :: a14 :: a15 :: a16 :: a17 :: a18 :: a19 :: a20 :: a21 :: a22 :: a23 :: a24 :: a25 :: a26 :: a27 :: a28 :: a29 :: a30 :: a31 :: a32 :: a33 :: a34 :: a35 :: a36 :: a37 :: a38 :: a39 :: a40 :: a41 :: a42 :: a43 :: a44 :: a45 :: a46 :: a47 :: a48 :: a49 :: a50 :: a51 :: a52 :: a53 :: a54 :: a55 :: a56 :: []
theorem W4z {T : TypeId → Option VTy} {H : Zc} {op : Op} {ρ : Operand → VVal} {t : TypeId} {a : Operand} {y : VTy} {p v : VVal} (ho : op = .load t a) (ha : ρ a = p) (hy : T t = some y) (hd : Zj y.desc = false) (h : LdOk H p v := by first | exact .inl ⟨_, _, rfl, by exact fget0W (by omega)⟩ | exact .inr ⟨_, _, _, _, rfl, XH28, by exact fget0W (by omega)⟩) : vop T ρ H op = some (v, H) := v_ld ho ha hy hd h
theorem W50 {T : TypeId → Option VTy} {H : Zc} {op : Op} {ρ : Operand → VVal} {t : TypeId} {a : Operand} {y : VTy} {p v : VVal} (ho : op = .load t a) (ha : ρ a = p) (hy : T t = some y) (hd : Zj y.desc = false) (h : LdOk H p v := by first | exact .inl ⟨_, _, rfl, by exact fget0W2 (by omega)⟩ | exact .inr ⟨_, _, _, _, rfl, XH28, by exact fget0W2 (by omega)⟩) : vop T ρ H op = some (v, H) := v_ld ho ha hy hd h
theorem W51 {T : TypeId → Option VTy} {H : Zc} {op : Op} {ρ : VEnv} {H' : Zc} {t : TypeId} {a : Operand} {i : Nat} {v : VVal} {y : VTy} {b off : Nat} {cs new : List VVal} (ho : op = .store t a (.tmp i)) (hv : ρ[i]? = some v) (ha : ρ.eval a = .ptr (some (b, off))) (hy : T t = some y) (hx : v.cells = some new) (hn : new.length = y.size) (h1 : new.all VVal.one = true) (hb : H[b]? = some (.cells cs true) := by exact XH28) (hl : off + new.length ≤ cs.length := by show 0 + ((b : Nat) : Int).toNat * 1 + 1 ≤ _; rw [List.length_map]; omega) (hH : H.set b (.cells (Zv cs off new) true) = H' := by exact (ZP rfl).trans (congrArg (fun c => H ++ [VBlk.cells c true]) (spl_Wt (l := R) (k := b) (by omega)))) : vop T ρ.eval H op = some (.skip, H') := ZX ho hv ha hy hx hn h1 hb hl hH
theorem cv_n {b : Nat} : VVal.int .u64 (IntKind.u64.wrap (b : Int)) = iN b := by
  congr 1
theorem cv_n1 {b : Nat} : VVal.int .u64 (IntKind.u64.wrap ((b : Int) + 1)) = iN (b + 1) := cv_n (b := b + 1)
theorem bo_w {n U : Nat} : 4#64 * BitVec.ofNat 64 (n + 1) * BitVec.ofNat 64 (n + 1) * BitVec.ofNat 64 (n + 1) * BitVec.ofNat 64 (U + 1) * oB n 0 = BitVec.ofNat 64 (boN n U) := by
  unfold oB boN
  rw [show (4#64) = BitVec.ofNat 64 4 from rfl]
  simp only [ofN_mul]
theorem rep_W : ∀ {n : Nat}, Zu [iW 0#64] n = (List.replicate n 0#64).map iW
  | 0 => rfl
  | n + 1 => by rw [Zu, rep_W, List.replicate_succ]; rfl
theorem fget0W2 {l : List (BitVec 64)} {k : Nat} (h : k + 1 < l.length) : (l.map iW)[0 + (((k : Nat) : Int) + 1).toNat * 1]? = some (iW (l.getD (k + 1) 0)) := by
  have := fget0W (l := l) (k := k + 1) h
  rw [Int.toNat_natCast] at this
  rw [show (((k : Nat) : Int) + 1).toNat = k + 1 by omega]; exact this
theorem ways_spec {x : SW} (H : Zc) (n m : Nat) (hn : n + m ≤ 1000) : F (psys x) 91 [iI (n : Nat), iI (m : Nat)] H fun v G => v = iW (oB n m) ∧ G = H := by
 refine Zs Tryd.func91 rfl u57 rfl ?_
 refine Ze (Za ?_)
 refine Lo u57 (Zh (VVal.int .u64 0) (.inr rfl) rfl) ?_
 refine Zf (Zd (Ze (Za ?_)))
 refine Lo u57 (Zb (.inl rfl) rfl) ?_
 refine Lo u57 (Zb (.inl rfl) rfl) ?_
 refine Lo u57 (W14 rfl rfl rfl) ?_
 refine Lo u57 (W14 rfl rfl rfl) ?_
 refine Lo u57 (v_makeSlice rfl rfl rfl rfl rfl (by decide) ⟨by omega, Int.le_refl _, by show (((n : Nat) : Int) + (m : Nat) + 2) * (8 : Nat) ≤ _; omega, by omega⟩) ?_
 refine Lo u57 (Zb (.inr rfl) rfl) ?_
 refine Zf (Zd (Ze (Ze ?_)))
 rw [show (((n : Nat) : Int) + (m : Nat) + 2).toNat = n + m + 2 by omega]
 refine Za ?_
 refine Lo u57 (Zh (VVal.int .i64 0) (.inr rfl) rfl) ?_
 refine Zf (Zd (Zn ?_))
 refine ZD (mk 57 144115188075855772) (env' := u57) rfl ?_
 refine ZH (fun (i : Nat) => (n + m + 2) - i) (fun (i : Nat) => [(6, iI (i : Nat))]) (fun (i : Nat) G => (i ≤ (n + m + 2)) ∧ ∃ R : List (BitVec 64), G = H ++ [VBlk.cells ((R).map iW) true] ∧ R.length = (n + m + 2) ∧ ∀ j, j < i → R.getD j 0 = 1#64) 0 rfl ?_ ?_
 ·refine ⟨?_, ⟨List.replicate (n + m + 2) 0#64, by rw [← rep_W]; rfl, List.length_replicate, fun j h => absurd h (Nat.not_lt_zero _)⟩⟩
  exact Nat.zero_le _
 rintro i _ ⟨hi, ⟨R, rfl, hRl, hR⟩⟩
 refine Z4 (env' := u57) rfl ?_
 refine Ze (Ze (Za ?_))
 refine Lo u57 (Zb (.inl rfl) rfl) ?_
 refine Lo u57 (Zb (.inl rfl) rfl) ?_
 refine Lo u57 (rfl) ?_
 refine Lo u57 (rfl) ?_
 refine Zf (Zd ?_)
 refine Zp _ rfl (fun hc1 => ?_) (fun hc1 => ?_)
 ·try simp only [qB, qN] at hc1
  refine Zo (Zd (Ze (Zn ?_)))
  have hi9 : i < n + m + 2 := by omega
  refine Za ?_
  refine Lo u57 (Zb (.inl rfl) rfl) ?_
  refine Lo u57 (Zb (.inl rfl) rfl) ?_
  refine Lo u57 (W18 rfl rfl rfl rfl rfl rfl rfl) ?_
  refine Lo u57 (Yc (VVal.int .u64 1) rfl rfl rfl rfl rfl rfl rfl XH0 (by show 0 + ((i : Nat) : Int).toNat * 1 + 1 ≤ _; rw [List.length_map]; omega) (by exact (ZP rfl).trans (congrArg (fun c => H ++ [VBlk.cells c true]) (spl_Wt (l := R) (k := i) (w := 1#64) (by omega))))) ?_
  refine Zf (ZB (Zd (Za ?_)))
  refine Lo u57 (Zb (.inl rfl) rfl) ?_
  refine Lo u57 (W14 rfl rfl rfl) ?_
  refine Lo u57 (Zb (.inr rfl) rfl) ?_
  refine Zf ?_
  refine ZR (mk 57 144115188075855772) (env' := u57) rfl ⟨i + 1, ?_, rfl, ?_⟩
  ·first | omega | (simp only []; omega)
  ·exact ⟨by omega, _, rfl, by rw [List.length_set]; exact hRl, fun j hj => by rw [getD_setL]; split; rfl; exact hR j (by omega)⟩
 ·try simp only [qB, qN] at hc1
  refine ZO (ZM (ZE (ZN (Zd (Ze (Ze (Za ?_)))))))
  refine Lo u57 (Zh (VVal.int .i64 0) (.inr rfl) rfl) ?_
  refine Zf (Zd (Zn ?_))
  refine ZD (mk 57 144115188075855708) (env' := u57) rfl ?_
  refine ZH (fun (k : Nat) => n - k) (fun (k : Nat) => [(7, iI (k : Nat))]) (fun (k : Nat) G => (k ≤ n) ∧ ∃ R : List (BitVec 64), G = H ++ [VBlk.cells ((R).map iW) true] ∧ R.length = (n + m + 2) ∧ ∀ j, j < (n + m + 2) - k → R.getD j 0 = oB k j) 0 rfl ?_ ?_
  ·refine ⟨?_, ⟨R, rfl, hRl, fun j hj => (hR j (by omega)).trans oB_0.symm⟩⟩
   exact Nat.zero_le _
  rintro k _ ⟨hk, ⟨R, rfl, hRl, hR⟩⟩
  refine Z4 (env' := u57) rfl ?_
  refine Ze (Ze (Za ?_))
  refine Lo u57 (Zb (.inl rfl) rfl) ?_
  refine Lo u57 (Zb (.inl rfl) rfl) ?_
  refine Lo u57 (rfl) ?_
  refine Zf (Zd ?_)
  refine Zp _ rfl (fun hc2 => ?_) (fun hc2 => ?_)
  ·try simp only [qB, qN] at hc2
   refine Zo (Zd (Ze (Zn (Ze (Za ?_)))))
   refine Lo u57 (Zh (VVal.int .i64 0) (.inr rfl) rfl) ?_
   refine Zf (Zd (Zn ?_))
   refine ZD (mk 57 144115188075855452) (env' := u57) rfl ?_
   refine ZH (fun (b : Nat) => (n + m + 2) - b) (fun (b : Nat) => [(8, iI (b : Nat))]) (fun (b : Nat) G => (b + k + 1 ≤ (n + m + 2)) ∧ ∃ R : List (BitVec 64), G = H ++ [VBlk.cells ((R).map iW) true] ∧ R.length = (n + m + 2) ∧ (∀ j, j < b → R.getD j 0 = oB (k + 1) j) ∧ (∀ j, b ≤ j → j < (n + m + 2) - k → R.getD j 0 = oB k j)) 0 rfl ?_ ?_
   ·refine ⟨?_, ⟨R, rfl, hRl, fun j h => absurd h (Nat.not_lt_zero _), fun j _ h => hR j h⟩⟩
    show 0 + k + 1 ≤ _; omega
   rintro b _ ⟨hb, ⟨R, rfl, hRl, hR1, hR2⟩⟩
   refine Z4 (env' := u57) rfl ?_
   refine Ze (Ze (Za ?_))
   refine Lo u57 (Zb (.inl rfl) rfl) ?_
   refine Lo u57 (W14 rfl rfl rfl) ?_
   refine Lo u57 (Zb (.inl rfl) rfl) ?_
   refine Lo u57 (rfl) ?_
   refine Lo u57 (Zb (.inl rfl) rfl) ?_
   refine Lo u57 (W2g rfl rfl rfl) ?_
   refine Lo u57 (rfl) ?_
   refine Zf (Zd ?_)
   refine Zp _ rfl (fun hc3 => ?_) (fun hc3 => ?_)
   ·try simp only [qB, qN] at hc3
    refine Zo (Zd (Ze (Zn ?_)))
    have hb9 : b + 1 + k < n + m + 2 := by omega
    have e1 := hR2 b (Nat.le_refl _) (by omega)
    have e2 := hR2 (b + 1) (by omega) (by omega)
    refine ZZ [0, 1, 2, 3, 4, 5, 6, 7, 8, 9, 10, 11, 12, 13, 14, 15, 16] #[0, 0, 0, 4, 0, 0, 48, 112, 252, 0, 0, 1024, 3584, 7680, 16380, 32767, 65535] XH2 XH2 XH2 ?_
    refine Oo u57 .calm rfl (Zb (.inl rfl) rfl) ?_
    refine Oo u57 .calm rfl (Zb (.inl rfl) rfl) ?_
    refine Oo u57 .calm rfl (Zb (.inl rfl) rfl) ?_
    refine Oo u57 .calm rfl (v_val (u := iN b) rfl cv_n) ?_
    refine Oo u57 .calm rfl (Zb (.inl rfl) rfl) ?_
    refine Oo u57 .calm rfl (Zb (.inl rfl) rfl) ?_
    refine Oo u57 .calm rfl (W18 rfl rfl rfl rfl rfl rfl rfl) ?_
    refine Oo u57 .look rfl (W4z rfl rfl rfl rfl) ?_
    refine Oo u57 .calm rfl (v_mulW rfl rfl rfl) ?_
    refine Oo u57 .calm rfl (Zb (.inl rfl) rfl) ?_
    refine Oo u57 .calm rfl (Zb (.inl rfl) rfl) ?_
    refine Oo u57 .calm rfl (W14 rfl rfl rfl) ?_
    refine Oo u57 .calm rfl (W18 rfl rfl rfl rfl rfl rfl rfl) ?_
    refine Oo u57 .look rfl (W50 rfl rfl rfl rfl) ?_
    refine Oo u57 .calm rfl (v_addW rfl rfl rfl) ?_
    refine Oo u57 .calm rfl (W18 rfl rfl rfl rfl rfl rfl rfl) ?_
    refine Oo u57 .turn rfl (W51 rfl rfl rfl rfl rfl rfl rfl) ?_
    refine ZU [] XH2 (trivial) ?_
    refine ZB (Zd (Za ?_))
    refine Lo u57 (Zb (.inl rfl) rfl) ?_
    refine Lo u57 (W14 rfl rfl rfl) ?_
    refine Lo u57 (Zb (.inr rfl) rfl) ?_
    refine Zf ?_
    refine ZR (mk 57 144115188075855452) (env' := u57) rfl ⟨b + 1, ?_, rfl, ?_⟩
    ·first | omega | (simp only []; omega)
    ·exact ⟨by omega, _, rfl, by rw [List.length_set]; exact hRl, fun j hj => by rw [getD_setL]; split; (rename_i e; rw [e.1, e1, e2]; exact oB_s); exact hR1 j (by omega), fun j h1 h2 => by rw [getD_setL, if_neg (fun e => by omega)]; exact hR2 j (by omega) h2⟩
   ·try simp only [qB, qN] at hc3
    refine ZO (ZM (ZE (ZN (ZB (Zd (Za ?_))))))
    refine Lo u57 (Zb (.inl rfl) rfl) ?_
    refine Lo u57 (W14 rfl rfl rfl) ?_
    refine Lo u57 (Zb (.inr rfl) rfl) ?_
    refine Zf ?_
    refine ZR (mk 57 144115188075855708) (env' := u57) rfl ⟨k + 1, ?_, rfl, ?_⟩
    ·first | omega | (simp only []; omega)
    ·exact ⟨by omega, _, rfl, hRl, fun j hj => hR1 j (by omega)⟩
  ·try simp only [qB, qN] at hc2
   refine ZO (ZM (ZE (ZN (Zd (Ze (Za ?_))))))
   refine Lo u57 (Zb (.inl rfl) rfl) ?_
   refine Lo u57 (Zb (.inl rfl) rfl) ?_
   refine Lo u57 (W18 rfl rfl rfl rfl rfl rfl rfl) ?_
   refine Lo u57 (W4z rfl rfl rfl rfl) ?_
   refine Lo u57 (Zb (.inr rfl) rfl) ?_
   refine Zf (Zd (Zk ?_))
   refine W10 (.inr rfl) (Zi rfl rfl) ?_
   obtain rfl : k = n := by omega
   exact ⟨by rw [hR m (by omega)], rfl⟩
theorem Bell_spec {x : SW} (H : Zc) (n : Nat) (hn : n ≤ 1000) : F (psys x) 56 [iI (n : Nat)] H fun v G => v = iW (oB n 0) ∧ G = H := by
 refine Zs Tryd.func56 rfl u5 rfl ?_
 refine Ze (Za ?_)
 refine Lo u5 (Zh (VVal.int .u64 0) (.inr rfl) rfl) ?_
 refine Zf (Zd (Ze (Za ?_)))
 refine Lo u5 (Zb (.inl rfl) rfl) ?_
 refine Zl rfl rfl rfl (by exact ways_spec _ n 0 (by omega)) ?_
 rintro _ _ ⟨rfl, rfl⟩
 refine Le u5 ?_
 refine Lo u5 (Zb (.inr rfl) rfl) ?_
 refine Zf (Zd (Zk ?_))
 refine W10 (.inr rfl) (Zi rfl rfl) ?_
 exact ⟨rfl, rfl⟩
theorem Bound_spec {x : SW} (H : Zc) (n U : Nat) (hn : n ≤ 100) (hU : U ≤ 100) : F (psys x) 25 [iI (n : Nat), iI (U : Nat)] H fun v G => v = iN (boN n U) ∧ G = H := by
 refine Zs Tryd.func25 rfl u22 rfl ?_
 refine Ze (Za ?_)
 refine Lo u22 (Zh (VVal.int .u64 0) (.inr rfl) rfl) ?_
 refine Zf (Zd (Ze (Za ?_)))
 refine Lo u22 (Zb (.inl rfl) rfl) ?_
 refine Lo u22 (W14 rfl rfl rfl) ?_
 refine Lo u22 (v_val (u := iN (n + 1)) rfl cv_n1) ?_
 refine Lo u22 (Zb (.inr rfl) rfl) ?_
 refine Zf (Zd (Ze (Za ?_)))
 refine Lo u22 (Zb (.inl rfl) rfl) ?_
 refine Lo u22 (v_mulW (a := 4#64) rfl rfl rfl) ?_
 refine Lo u22 (Zb (.inl rfl) rfl) ?_
 refine Lo u22 (v_mulW rfl rfl rfl) ?_
 refine Lo u22 (Zb (.inl rfl) rfl) ?_
 refine Lo u22 (v_mulW rfl rfl rfl) ?_
 refine Lo u22 (Zb (.inl rfl) rfl) ?_
 refine Lo u22 (W14 rfl rfl rfl) ?_
 refine Lo u22 (v_val (u := iN (U + 1)) rfl cv_n1) ?_
 refine Lo u22 (v_mulW rfl rfl rfl) ?_
 refine Lo u22 (Zb (.inl rfl) rfl) ?_
 refine Zl rfl rfl rfl (by exact Bell_spec _ n (by omega)) ?_
 rintro _ _ ⟨rfl, rfl⟩
 refine Le u22 ?_
 refine Lo u22 (v_mulW rfl rfl rfl) ?_
 refine Lo u22 (Zb (.inr rfl) rfl) ?_
 refine Zf (Zd (Zk ?_))
 refine W10 (.inr rfl) (Zi rfl rfl) ?_
 exact ⟨by rw [bo_w], rfl⟩
theorem wsP_bl {q : Pb} (g : Go.V.Good q) (k : Nat) : Bl q.users.toNat ((wsP q).getD k 0) := by
  by_cases h : k < q.who.length
  · rw [wsP_get h]; exact fun i hi => myB_inN g h hi
  · rw [List.getD_eq_getElem?_getD, List.getElem?_eq_none (by rw [Ye]; omega)]; exact Bl_0
theorem leG_le {q : Pb} (h0 : pck q = 0) (hn : q.who.length ≤ 9) : (leG q).t ≤ boN q.who.length q.users.toNat := by
  have g := pck_good.1 h0
  unfold leG fdG
  rw [if_pos h0, Gz.t_add]
  have h1 := frm_le (kp := kpB (wsP q) (Z8 q)) (n := (wsP q).length) (K := 1 + q.users.toNat + (wsP q).length * q.users.toNat) (fun a ha => kpG_le (rss := Z8 q) (wsP_bl g) ha) (wsP q).length [] 0 (by simp)
  have h3 := bo_le (U := q.users.toNat) hn
  rw [← Ye] at h3 hn ⊢
  refine Nat.le_trans (Nat.add_le_add h1 ?_) h3
  cases e : (frm (kpB (wsP q) (Z8 q)) (kpG q.users.toNat (wsP q) (Z8 q)) (wsP q).length [] 0).2 with
  | none => exact Nat.zero_le _
  | some a =>
    obtain ⟨_, hl, _, _, hm⟩ := fnd_ok e
    obtain ⟨d, y, z, e1, hd⟩ := usT_t (us := []) (blk_lo (a := a) (wsP_bl g) a.length) hm
    show Gz.t (((usT (ZQ (wsP q) a a.length) [] 0#64).1.head?.map Prod.fst).getD 0) ≤ _
    rw [e1]
    show d.t ≤ _
    rw [Yt] at hd
    have hs : szP a a.length ≤ (wsP q).length := Nat.le_trans szP_le (by omega)
    refine Nat.le_trans hd (Nat.mul_le_mul (Nat.mul_le_mul hs hs) ?_)
    have := Nat.mul_le_mul_right q.users.toNat hs
    omega
def alW : Nat → BitVec 64
  | 0 => 0#64
  | k + 1 => alW k ||| 1#64 <<< k
def tgP (m u : Nat) (w : BitVec 64) : Pb := ((u : Int), List.replicate (m - 1) (alW u) ++ [w], List.replicate m (-1), [], ())
theorem tg_all0 : ∀ m, m < 8 → ∀ u, u < 64 → leA (tgP (m + 1) (u + 1) (alW (u + 1))) = some (List.replicate (m + 1) 0) := by decide +kernel
theorem tg_all {m u : Nat} (hm : m < 9) (hu : u < 65) (h1 : 1 ≤ m) (h2 : 1 ≤ u) : leA (tgP m u (alW u)) = some (List.replicate m 0) := by
  have := tg_all0 (m - 1) (by omega) (u - 1) (by omega)
  rwa [Nat.sub_add_cancel h1, Nat.sub_add_cancel h2] at this
theorem tg_ok1 : ∀ m, m < 9 → ∀ u, u < 65 → 1 ≤ m → pck (tgP m u (alW u)) = 0 := by decide +kernel
theorem tg_ok0 : ∀ m, m < 9 → ∀ u, u < 65 → 1 ≤ m → pck (tgP m u 0#64) = 0 := by decide +kernel
theorem tg_len {m u : Nat} {w : BitVec 64} (h : 1 ≤ m) : (tgP m u w).who.length = m := by
  show (List.replicate (m - 1) (alW u) ++ [w]).length = m
  rw [List.length_append, List.length_replicate]; show m - 1 + 1 = m; omega
theorem tg_none {m u : Nat} (h8 : m < 9) (hu : u < 65) (h : 1 ≤ m) : leA (tgP m u 0#64) = none := by
  cases e : leA (tgP m u 0#64) with
  | none => rfl
  | some l =>
    exfalso
    obtain ⟨g, _, h2, _⟩ := hds_iff.1 (leA_some e)
    have h3 := h2 (m - 1) (by rw [tg_len h]; omega)
    have hf : (tgP m u 0#64).fixed.getD (m - 1) 0 = -1 := by
      show (List.replicate m (-1 : Int)).getD (m - 1) 0 = -1
      rw [List.getD_eq_getElem?_getD, List.getElem?_replicate, if_pos (by omega)]; rfl
    have hw : (tgP m u 0#64).who.getD (m - 1) 0 = 0#64 := by
      show (List.replicate (m - 1) (alW u) ++ [0#64]).getD (m - 1) 0 = 0#64
      rw [List.getD_eq_getElem?_getD, List.getElem?_append_right (by rw [List.length_replicate]; omega), List.length_replicate, Nat.sub_self]; rfl
    rw [myB_w g (by rw [tg_len h]; omega) (by rw [hf]; omega), hw] at h3
    simp at h3
theorem tg_L {m u : Nat} {w : BitVec 64} (h8 : m < 9) (hu : u < 65) (h : 1 ≤ m) : PbL (tgP m u w) :=
  ⟨(show -9223372036854775808 ≤ ((u : Nat) : Int) ∧ ((u : Nat) : Int) < 9223372036854775808 by omega), by rw [tg_len h]; omega, by show (List.replicate m (-1 : Int)).length ≤ _; rw [List.length_replicate]; omega, by show ([] : List Rul).length ≤ _; exact Nat.zero_le _, fun r hr => by cases hr⟩
theorem tg_set {m u : Nat} {a b : BitVec 64} (h : 1 ≤ m) : (List.replicate (m - 1) (alW u) ++ [a]).set (m - 1) b = List.replicate (m - 1) (alW u) ++ [b] := by
  rw [List.set_append_right _ _ (by rw [List.length_replicate]; omega), List.length_replicate, Nat.sub_self]; rfl
theorem tg_rep {m u : Nat} (h : 1 ≤ m) : List.replicate m (alW u) = List.replicate (m - 1) (alW u) ++ [alW u] := by
  obtain ⟨k, rfl⟩ : ∃ k, m = k + 1 := ⟨m - 1, by omega⟩
  rw [List.replicate_succ']; rfl
theorem le_yes {a b : Nat} (h : a ≤ b) (hb : b < 9223372036854775808) : decide (((BitVec.ofNat 64 a).toNat : Int) ≤ ((BitVec.ofNat 64 b).toNat : Int)) = true := by
  rw [BitVec.toNat_ofNat, BitVec.toNat_ofNat, Nat.mod_eq_of_lt (by omega), Nat.mod_eq_of_lt (by omega)]
  exact decide_eq_true (by omega)
theorem sub_ofN {a b : Nat} : BitVec.ofNat 64 (a + b) - BitVec.ofNat 64 a = BitVec.ofNat 64 b := by rw [← iN_add, BitVec.add_comm, BitVec.add_sub_cancel]
theorem tm_abs (x : Int) {k : Nat} (h : 0 < k) : (x.tmod (k : Nat) < 0 → ∃ a : Nat, -(x.tmod (k : Nat)) = (a : Int) ∧ a < k) ∧ (0 ≤ x.tmod (k : Nat) → ∃ a : Nat, x.tmod (k : Nat) = (a : Int) ∧ a < k) := by
  have := (tm_n x (u := (k : Int)) (by omega)).1
  exact ⟨fun _ => ⟨(-(x.tmod (k : Nat))).toNat, by omega, by omega⟩, fun _ => ⟨(x.tmod (k : Nat)).toNat, by omega, by omega⟩⟩
end Go.Proofs.YtenkjadobkjaeaaDoor.VT
