/- Proved: Rows.SolveTightCardSaid, the statement SolveTight with its card, of the given program at the commit; no conditions beyond those in the statement. -/
import Derived.Test.YtenkjadobkjaeaaDoorC9x16
import Derived.Test.YtenkjadobkjaeaaDoorRows
import Derived.LaidMore
import Derived.Stop.Joined
set_option autoImplicit false
set_option linter.unusedVariables false
set_option maxRecDepth 100000
namespace Go.Proofs.YtenkjadobkjaeaaDoor.VT
open Go Go.V Go.RowKit Go.Shelf Go.ChangeShapes Go.WideShapes Go.ChangeAt Go.WideMaps Go.WideElems
theorem own : ownKnob Tryd.prog.godebug = none := by kernel_rfl
theorem laidOut : laidOutB Tryd.prog = true := by kernel_rfl
theorem gTab : Tryd.prog.globalNamed "math/bits.deBruijn64tab" = some 0 := by kernel_rfl
theorem tTab : (Tryd.prog.globals[0]?).map (·.type) = some 162 := by kernel_rfl
abbrev laidL : List (String × DataW Unit) := [("math/bits.deBruijn64tab", Rows.laid_math_bits_deBruijn64tab)]
theorem door_met (os : Os) (args : Array Value) : laidMetH Tryd.prog laidL ((World.doorLaid Tryd.prog 400 os).forCall (fun _ _ => 0) ⟨#[], args, []⟩).memory :=
  laidMetH_of_parts3 (fuel := 8) (laidMet_of_run' 8 XH2 XH2) XH2 XH2
theorem laid_tab : (Rows.laid_math_bits_deBruijn64tab : DataW Unit) = .agg (Lib.deBruijn64tab.map fun n : Nat => .lit (.int .u8 (n : Int))) := by kernel_rfl
theorem of_laid {W : World} (h : laidMetH Tryd.prog laidL W) : 0 < W.heap.size ∧ TabAt 0 Lib.deBruijn64tab W := by
  rw [MakeChecks.laidMetH_plain _ _ _ XH2] at h
  obtain ⟨ps, ⟨g0, t0, cs0, f0, p0, q0, hg0, ht0, hv0, hd0, _, _⟩, _, _⟩ := h
  obtain rfl := Option.some.inj (gTab.symm.trans hg0)
  obtain rfl := Option.some.inj (tTab.symm.trans ht0)
  obtain ⟨xs, m, rfl, hx, hlen, hn, hel⟩ := DataW.trod_array Tryd.underlying162 hd0
  have c5 : Tryd.prog.cellsOf 5 = 1 := by kernel_rfl
  rw [c5] at hel
  simp only [Prod.mk.injEq] at hx
  have hx1 := hx.1
  rw [laid_tab] at hx1
  simp only [DataW.agg.injEq] at hx1
  have key : TabAt 0 Lib.deBruijn64tab W := by
    intro j hj
    have hj' : j < 64 := hj
    have h1 := hel j hj'
    have hxl : j < xs.length := by rw [hn]; exact hj'
    have hxj : xs[j]? = some xs[j] := by simp [hxl]
    rw [hxj] at h1
    obtain ⟨n, e1, e2, _⟩ := DataW.trod_int Tryd.underlying5 h1
    have h2 : (xs.map (·.1))[j]? = (Lib.deBruijn64tab.map fun n : Nat => (DataW.lit (.int .u8 (n : Int)) : DataW Unit))[j]? := by rw [← hx1]
    rw [List.getElem?_map, List.getElem?_map, hxj] at h2
    have hjl : j < Lib.deBruijn64tab.length := hj
    rw [List.getElem?_eq_getElem hjl] at h2
    simp only [Option.map_some, Option.some.injEq] at h2
    rw [e2] at h2
    simp only [DataW.lit.injEq, Lit.int.injEq, true_and] at h2
    have h3 := World.var?_cell hg0 hv0 j
    have h4 : cs0[j]? = some (.int .u8 n) := by
      have : cs0.toList[j]? = some (.int .u8 n) := by
        rw [← List.head?_drop]
        rw [Nat.mul_one] at e1
        cases hd : cs0.toList.drop j with
        | nil => rw [hd] at e1; simp at e1
        | cons c r => rw [hd] at e1; simp at e1; rw [e1]; rfl
      simpa using this
    rw [h4] at h3
    rw [h3, h2]
    simp [List.getD_eq_getElem?_getD, hjl]
  refine ⟨?_, key⟩
  have h0 := key 0 (by decide)
  simp only [World.cell?] at h0
  split at h0
  · rename_i hh; exact (Array.getElem?_eq_some_iff.1 hh).1
  · cases h0
def sw {W : World} (h : laidMetH Tryd.prog laidL W) : SW := ⟨W, (of_laid h).1, (of_laid h).2⟩
open Go Go.V Go.RowKit Go.ChangeShapes
abbrev T3 : Type := Int
abbrev e3 : T3 → List VVal := fun x => [iI x]
abbrev k3 : T3 → Prop := fun n => -9223372036854775808 ≤ n ∧ n < 9223372036854775808
theorem op3 : Opens Tryd.prog 3 T3 e3 k3 := Opens.int Tryd.underlying3 XH2
set_option linter.unusedSimpArgs false
set_option maxHeartbeats 4000000
open Go Go.V Go.RowKit
abbrev Zg {a0 a1 a2 a3 a4 a5 a6 a7 a8 a9 a10 a11 a12 a13 a14 a15 a16 a17 a18 a19 a20 a21 a22 a23 a24 a25 a26 a27 a28 a29 a30 a31 a32 a33 a34 a35 a36 a37 a38 a39 a40 a41 a42 a43 a44 a45 a46 a47 a48 a49 a50 a51 a52 a53 a54 a55 a56 a57 a58 a59 a60 a61 a62 a63 a64 a65 a66 a67 a68 a69 a70 a71 a72 a73 a74 a75 a76 a77 a78 a79 a80 a81 a82 a83 a84 a85 a86 a87 a88 a89 a90 a91 a92 a93 a94 a95 a96 a97 a98 a99 a100 a101 a102 a103 a104 a105 a106 a107 a108 a109 a110 a111 a112 a113 a114 a115 a116 : VVal} : VEnv := a0 :: a1 :: a2 :: a3 :: a4 :: a5 :: a6 :: a7 :: a8 :: a9 :: a10 :: a11 :: a12 :: a13 :: a14 :: a15 :: a16 :: a17 :: a18 :: a19 :: a20 :: a21 :: a22 :: a23 :: a24 :: a25 :: a26 :: a27 :: a28 :: a29 :: a30 :: a31 :: a32 :: a33 :: a34 :: a35 :: a36 :: a37 :: a38 :: a39 :: a40 :: a41 :: a42 :: a43 :: a44 :: a45 :: a46 :: a47 :: a48 :: a49 :: a50 :: a51 :: a52 :: a53 :: a54 :: a55 :: a56 :: a57 :: a58 :: a59 :: a60 :: a61 :: a62 :: a63 :: a64 :: a65 :: a66 :: a67 :: a68 :: a69 :: a70 :: a71 :: a72 :: a73 :: a74 :: a75 :: a76 :: a77 :: a78 :: a79 :: a80 :: a81 :: a82 :: a83 :: a84 :: a85 :: a86 :: a87 :: a88 :: a89 :: a90 :: a91 :: a92 :: a93 :: a94 :: a95 :: a96 :: a97 :: a98 :: a99 :: a100 :: a101 :: a102 :: a103 :: a104 :: a105 :: a106 :: a107 :: a108 :: a109 :: a110 :: a111 :: a112 :: a113 :: a114 :: a115 :: a116 :: []
theorem W5g {T : TypeId → Option VTy} {H : Zc} {op : Op} {ρ : Operand → VVal} {t : TypeId} {a : Operand} {y : VTy} {p v : VVal} (ho : op = .load t a) (ha : ρ a = p) (hy : T t = some y) (hd : Zj y.desc = false) (h : LdOk H p v := by first | exact .inl ⟨_, _, rfl, XH31⟩ | exact .inr ⟨_, _, _, _, rfl, XH28, XH31⟩) : vop T ρ H op = some (v, H) := v_ld ho ha hy hd h
theorem W5j {T : TypeId → Option VTy} {H : Zc} {op : Op} {ρ : Operand → VVal} {t : TypeId} {a : Operand} {y : VTy} {p : VVal} {n : Nat} {vs : List VVal} (ho : op = .load t a) (ha : ρ a = p) (hy : T t = some y) (hd : Zj y.desc = true) (hn : y.size = n) (h : LdOkA H p n vs := by first | exact .inl ⟨_, _, rfl, XH31⟩ | exact .inr ⟨_, _, _, _, rfl, by exact Zm (Zm YF), XH31⟩) : vop T ρ H op = some (.agg vs, H) := v_ldA ho ha hy hd hn h
theorem W5k {T : TypeId → Option VTy} {H : Zc} {op : Op} {ρ : Operand → VVal} {t : TypeId} {a : Operand} {y : VTy} {p v : VVal} (ho : op = .load t a) (ha : ρ a = p) (hy : T t = some y) (hd : Zj y.desc = false) (h : LdOk H p v := by first | exact .inl ⟨_, _, rfl, XH31⟩ | exact .inr ⟨_, _, _, _, rfl, by exact Zm (Zm YF), XH31⟩) : vop T ρ H op = some (v, H) := v_ld ho ha hy hd h
theorem W5l {T : TypeId → Option VTy} {H : Zc} {op : Op} {ρ : VEnv} {H' : Zc} {t : TypeId} {a : Operand} {i : Nat} {v : VVal} {y : VTy} {b off : Nat} {cs new : List VVal} (ho : op = .store t a (.tmp i)) (hv : ρ[i]? = some v) (ha : ρ.eval a = .ptr (some (b, off))) (hy : T t = some y) (hx : v.cells = some new) (hn : new.length = y.size) (h1 : new.all VVal.one = true) (hb : H[b]? = some (.cells cs true) := by exact Zm (Zx (by simp) (set_get hb))) (hl : off + new.length ≤ cs.length := by show 0 + (((m : Nat) : Int) - 1).toNat * 1 + 1 ≤ _; rw [List.length_map, hWl]; omega) (hH : H.set b (.cells (Zv cs off new) true) = H' := by exact (setB (by simp) (by rw [List.length_set]; exact hbl)).trans (congrArg (fun z => ((H ++ [pqB (u : Nat) (.slice (some (H.length + 1 + b, 0)) m m false 1) (.slice (some (H.length + 1 + c, 0)) m m false 1) Yk]) ++ z) ++ [gaB (0 + leG (tgP m u 0#64))]) (tset2 (tg_spl (w := alW u) (by omega))))) : vop T ρ.eval H op = some (.skip, H') := ZX ho hv ha hy hx hn h1 hb hl hH
theorem SolveTight_walk {x : SW} (H : Zc) (n us : Int) : F (psys x) 6 [iI n, iI us] H fun v G => v = .bool true ∧ G = H := by
 refine Zs Tryd.func6 rfl Zg rfl ?_
 refine Ze (Za ?_)
 refine Lo Zg (Zh (VVal.bool false) (.inr rfl) rfl) ?_
 refine Zf (Zd (Ze (Za ?_)))
 refine Lo Zg (Zb (.inl rfl) rfl) ?_
 refine Lo Zg (rfl) ?_
 refine Lo Zg (Zb (.inr rfl) rfl) ?_
 refine Zf (Zd (Ze (Ze (Za ?_))))
 refine Lo Zg (Zb (.inl rfl) rfl) ?_
 refine Lo Zg (rfl) ?_
 refine Zf (Zd ?_)
 refine Zp _ rfl (fun hc1 => ?_) (fun hc1 => ?_)
 ·try simp only [qB, qN] at hc1
  refine Za ?_
  refine Lo Zg (Zb (.inl rfl) rfl) ?_
  refine Lo Zg (v_val (u := iI (-(n.tmod 8))) rfl (neg_w (x := n.tmod 8) (by have := (tm_n n (u := (8 : Int)) (by decide)).1; omega))) ?_
  refine Lo Zg (Zb (.inr rfl) rfl) ?_
  refine Zf (Zd (Ze ?_))
  first | (obtain ⟨m0, hme, hml⟩ := (tm_abs n (k := 8) (by decide)).1 (by assumption); rw [show -(n.tmod 8) = (m0 : Int) from hme]) | (obtain ⟨m0, hme, hml⟩ := (tm_abs n (k := 8) (by decide)).2 (by assumption); rw [show n.tmod 8 = (m0 : Int) from hme])
  refine Za ?_
  refine Lo Zg (Zb (.inl rfl) rfl) ?_
  refine Lo Zg (W14 rfl rfl rfl) ?_
  refine Lo Zg (Zb (.inr rfl) rfl) ?_
  refine Zf (Zd (Ze ?_))
  obtain ⟨m, hm⟩ : ∃ m, m = m0 + 1 := ⟨_, rfl⟩
  rw [show (m0 : Int) + 1 = ((m : Nat) : Int) by omega]
  refine Za ?_
  refine Lo Zg (Zb (.inl rfl) rfl) ?_
  refine Lo Zg (rfl) ?_
  refine Lo Zg (Zb (.inr rfl) rfl) ?_
  refine Zf (Zd (Ze (Ze (Za ?_))))
  refine Lo Zg (Zb (.inl rfl) rfl) ?_
  refine Lo Zg (rfl) ?_
  refine Zf (Zd ?_)
  refine Zp _ rfl (fun hc2 => ?_) (fun hc2 => ?_)
  ·try simp only [qB, qN] at hc2
   refine Za ?_
   refine Lo Zg (Zb (.inl rfl) rfl) ?_
   refine Lo Zg (v_val (u := iI (-(us.tmod 64))) rfl (neg_w (x := us.tmod 64) (by have := (tm_n us (u := (64 : Int)) (by decide)).1; omega))) ?_
   refine Lo Zg (Zb (.inr rfl) rfl) ?_
   refine Zf (Zd (Ze ?_))
   first | (obtain ⟨u0, hue, hul⟩ := (tm_abs us (k := 64) (by decide)).1 (by assumption); rw [show -(us.tmod 64) = (u0 : Int) from hue]) | (obtain ⟨u0, hue, hul⟩ := (tm_abs us (k := 64) (by decide)).2 (by assumption); rw [show us.tmod 64 = (u0 : Int) from hue])
   refine Za ?_
   refine Lo Zg (Zb (.inl rfl) rfl) ?_
   refine Lo Zg (W14 rfl rfl rfl) ?_
   refine Lo Zg (Zb (.inr rfl) rfl) ?_
   refine Zf (Zd (Ze ?_))
   obtain ⟨u, hu⟩ : ∃ u, u = u0 + 1 := ⟨_, rfl⟩
   rw [show (u0 : Int) + 1 = ((u : Nat) : Int) by omega]
   refine Za ?_
   refine Lo Zg (Zb (.inl rfl) rfl) ?_
   refine Lo Zg (rfl) ?_
   refine Lo Zg (ZG rfl rfl) ?_
   refine Lo Zg (W13 rfl rfl rfl rfl rfl rfl rfl) ?_
   refine Zf (Zd (Ze (Za ?_)))
   refine Lo Zg (Zh (VVal.int .u64 0) (.inr rfl) rfl) ?_
   refine Zf (Zd (Ze (Ze (Za ?_))))
   refine Lo Zg (Zh (VVal.int .i64 0) (.inr rfl) rfl) ?_
   refine Zf (Zd (Zn ?_))
   refine ZD (mk 117 166153499473114484112975882535042079) (env' := Zg) rfl ?_
   refine ZH (fun (k : Nat) => u - k) (fun (k : Nat) => [(8, iW (alW k)), (9, iI (k : Nat))]) (fun (k : Nat) G => (k ≤ u) ∧ G = H ++ [pqB (u : Nat) Yk Yk Yk]) 0 rfl ?_ ?_
   ·refine ⟨?_, rfl⟩
    exact Nat.zero_le _
   rintro k _ ⟨hk, rfl⟩
   refine Z4 (env' := Zg) rfl ?_
   refine Ze (Ze (Za ?_))
   refine Lo Zg (Zb (.inl rfl) rfl) ?_
   refine Lo Zg (Zb (.inl rfl) rfl) ?_
   refine Lo Zg (rfl) ?_
   refine Zf (Zd ?_)
   refine Zp _ rfl (fun hc3 => ?_) (fun hc3 => ?_)
   ·try simp only [qB, qN] at hc3
    refine Zo (Zd (Ze (Zn (Za ?_))))
    refine Lo Zg (Zb (.inl rfl) rfl) ?_
    refine Lo Zg (Zb (.inl rfl) rfl) ?_
    refine Lo Zg (v_shl1 rfl rfl rfl XH3) ?_
    refine Lo Zg (v_orW rfl rfl rfl) ?_
    refine Lo Zg (Zb (.inr rfl) rfl) ?_
    refine Zf (ZB (Zd (Za ?_)))
    refine Lo Zg (Zb (.inl rfl) rfl) ?_
    refine Lo Zg (W14 rfl rfl rfl) ?_
    refine Lo Zg (Zb (.inr rfl) rfl) ?_
    refine Zf ?_
    refine ZR (mk 117 166153499473114484112975882535042079) (env' := Zg) rfl ⟨k + 1, ?_, rfl, ?_⟩
    ·first | omega | (simp only []; omega)
    ·exact ⟨by omega, rfl⟩
   ·try simp only [qB, qN] at hc3
    refine ZO (ZM (ZE (ZN (Zd (Ze (Ze ?_))))))
    obtain rfl : u = k := by omega
    refine Za ?_
    refine Lo Zg (Zh (VVal.int .i64 0) (.inr rfl) rfl) ?_
    refine Zf (Zd (Zn ?_))
    refine ZD (mk 117 166153499473114484112975882535041567) (env' := Zg) rfl ?_
    refine ZH (fun (i : Nat) => m - i) (fun (i : Nat) => [(10, iI (i : Nat))]) (fun (i : Nat) G => (i ≤ m) ∧ ∃ wv fv X, G = (H ++ [pqB (u : Nat) wv fv Yk]) ++ X ∧ LV (H.length + 1) 1 X wv ((List.replicate i (alW u)).map iW) i ∧ LV (H.length + 1) 1 X fv ((List.replicate i (-1 : Int)).map iI) i ∧ Dj wv fv) 0 rfl ?_ ?_
    ·refine ⟨?_, ⟨_, _, [], by rw [List.append_nil], LV.nil _ _ _, LV.nil _ _ _, Dj.nil _⟩⟩
     exact Nat.zero_le _
    rintro i _ ⟨hi, ⟨wv, fv, X, rfl, hw, hf, hd⟩⟩
    refine Z4 (env' := Zg) rfl ?_
    refine Ze (Ze (Za ?_))
    refine Lo Zg (Zb (.inl rfl) rfl) ?_
    refine Lo Zg (Zb (.inl rfl) rfl) ?_
    refine Lo Zg (rfl) ?_
    refine Zf (Zd ?_)
    refine Zp _ rfl (fun hc4 => ?_) (fun hc4 => ?_)
    ·try simp only [qB, qN] at hc4
     refine Zo (Zd (Ze (Zn (Ze (Za ?_)))))
     refine Lo Zg (rfl) ?_
     refine Lo Zg (W5g rfl rfl rfl rfl) ?_
     refine Lo Zg (Zb (.inl rfl) rfl) ?_
     refine Lo Zg (Zt rfl rfl (by decide) rfl) ?_
     refine L_opX rfl rfl (YE rfl rfl rfl rfl rfl rfl rfl (by simp) hw rfl rfl (by decide) XH19 (by decide)) ?_
     rintro _ _ ⟨Y1, rfl, rfl, hY1, hY2, hY3⟩
     refine Le Zg ?_
     refine Lo Zg (rfl) ?_
     refine Lo Zg (W13 rfl rfl rfl rfl rfl rfl rfl) ?_
     have hf1 := LV.keepN hY3 hf hd.symm hY2
     have hd1 := LV.djN hY3 hf
     have hw1 := hY3
     refine Zf (Zd (Za ?_))
     refine Lo Zg (rfl) ?_
     refine Lo Zg (W5g rfl rfl rfl rfl) ?_
     refine Lo Zg (Zt rfl rfl (by decide) rfl) ?_
     refine L_opX rfl rfl (YE rfl rfl rfl rfl rfl rfl rfl (by simp) hf1 rfl rfl (by decide) XH19 (by decide)) ?_
     rintro _ _ ⟨Y1, rfl, rfl, hY1, hY2, hY3⟩
     refine Le Zg ?_
     refine Lo Zg (rfl) ?_
     refine Lo Zg (W13 rfl rfl rfl rfl rfl rfl rfl) ?_
     have hw2 := LV.keepN hY3 hw1 hd1.symm hY2
     have hd2 := LV.djN hY3 hw1
     refine Zf (ZB (Zd (Za ?_)))
     refine Lo Zg (Zb (.inl rfl) rfl) ?_
     refine Lo Zg (W14 rfl rfl rfl) ?_
     refine Lo Zg (Zb (.inr rfl) rfl) ?_
     refine Zf ?_
     refine ZR (mk 117 166153499473114484112975882535041567) (env' := Zg) rfl ⟨i + 1, ?_, rfl, ?_⟩
     ·first | omega | (simp only []; omega)
     ·exact ⟨by omega, _, _, _, rfl, by rw [rep_push]; exact hw2, by rw [rep_push]; exact hY3, hd2⟩
    ·try simp only [qB, qN] at hc4
     refine ZO (ZM (ZE (ZN (Zd (Ze ?_)))))
     obtain rfl : m = i := by omega
     obtain ⟨b, hb1, hb⟩ := hw.pos (by omega)
     obtain ⟨c, hc1, hc⟩ := hf.pos (by omega)
     subst hb1 hc1
     have hbc : b ≠ c := fun e => hd (H.length + 1 + b) rfl (by rw [e]; rfl)
     have hbl := Zw hb
     have hcl := Zw hc
     rw [tg_rep (by omega)] at hb
     have hWl : (List.replicate (m - 1) (alW u) ++ [0#64]).length = m := tg_len (u := u) (by omega)
     have hWl1 : (List.replicate (m - 1) (alW u) ++ [alW u]).length = m := tg_len (u := u) (by omega)
     have hFl : (List.replicate m (-1 : Int)).length = m := List.length_replicate
     have hP0 := tg_ok0 m (by omega) u (by omega) (by omega)
     have hP1 := tg_ok1 m (by omega) u (by omega) (by omega)
     have hG0 := tg_g (u := u) 0#64 hP0 (by omega) (by omega)
     have hG1 := tg_g (u := u) (alW u) hP1 (by omega) (by omega)
     have hBB := bo_big (n := m) (U := u) (by omega) (by omega)
     refine Za ?_
     refine Lo Zg (rfl) ?_
     refine Lo Zg (W5g rfl rfl rfl rfl) ?_
     refine Lo Zg (Zb (.inl rfl) rfl) ?_
     refine Lo Zg (W2g rfl rfl rfl) ?_
     refine Lo Zg (W18 rfl rfl rfl rfl rfl rfl rfl) ?_
     refine Lo Zg (Yc (VVal.int .u64 0) rfl rfl rfl rfl rfl rfl rfl (by exact Zx (by simp) hb) XH21 XH10) ?_
     refine Zf (Zd (Ze (Za ?_)))
     refine Zl rfl rfl rfl (by exact sNew_spec _) ?_
     rintro _ _ ⟨rfl, rfl⟩
     refine Le Zg ?_
     refine Lo Zg (Zb (.inr rfl) rfl) ?_
     refine Zf (Zd (Ze (Ze (Za ?_))))
     refine Lo Zg (Zb (.inl rfl) rfl) ?_
     refine Lo Zg (v_is false rfl rfl) ?_
     refine Lo Zg (Zb (.inl rfl) rfl) ?_
     refine Zl rfl rfl rfl (by exact wakes_spec _) ?_
     rintro _ _ ⟨rfl, rfl⟩
     refine Le Zg ?_
     refine Lo Zg (rfl) ?_
     refine Lo Zg (Ya rfl rfl rfl) ?_
     refine Lo Zg (Zb (.inl rfl) rfl) ?_
     refine Lo Zg (Zb (.inl rfl) rfl) ?_
     refine Lo Zg (W5j rfl rfl rfl rfl rfl) ?_
     refine Zl rfl rfl rfl XH5 ?_
     rintro _ _ ⟨rfl, rfl⟩
     refine Le Zg ?_
     refine Zl rfl rfl rfl XH22 ?_
     rintro v _ ⟨hv, rfl⟩; rw [tg_none (by omega) (by omega) (by omega)] at hv; obtain rfl : v = .bool false := hv; rw [set_end]
     refine Le Zg ?_
     refine Lo Zg (Ya rfl rfl rfl) ?_
     refine Zf (Zd ?_)
     refine Yb rfl rfl ?_
     refine Zo (Zd (Ze (Za ?_)))
     refine Lo Zg (Zb (.inl rfl) rfl) ?_
     refine Zl rfl rfl rfl (by exact Gauge_spec _ _ _ YF) ?_
     rintro _ _ ⟨rfl, rfl⟩
     refine Le Zg ?_
     refine Zl rfl rfl rfl XH18 ?_
     rintro _ _ ⟨rfl, rfl⟩
     refine Le Zg ?_
     refine Lo Zg (Zb (.inr rfl) rfl) ?_
     refine Zf (Zd (Ze (Za ?_)))
     refine Lo Zg (rfl) ?_
     refine Lo Zg (W5k rfl rfl rfl rfl) ?_
     refine Lo Zg (Zb (.inl rfl) rfl) ?_
     refine Lo Zg (W2g rfl rfl rfl) ?_
     refine Lo Zg (Zb (.inl rfl) rfl) ?_
     refine Lo Zg (W18 rfl rfl rfl rfl rfl rfl rfl) ?_
     refine Lo Zg (W5l rfl rfl rfl rfl rfl rfl rfl) ?_
     refine Zf (Zd (Ze (Za ?_)))
     refine Lo Zg (Zb (.inl rfl) rfl) ?_
     refine Lo Zg (W5j rfl rfl rfl rfl rfl) ?_
     refine Zl rfl rfl rfl XH4 ?_
     rintro _ _ ⟨rfl, rfl⟩
     refine Le Zg ?_
     refine Zl rfl rfl rfl XH14 ?_
     rintro v _ ⟨hv, rfl⟩; rw [tg_all (by omega) (by omega) (by omega) (by omega)] at hv; obtain rfl : v = .tuple [fzN (List.replicate m 0), .bool true] := hv
     refine Le Zg ?_
     refine Lo Zg (Zb (.inl rfl) rfl) ?_
     refine Lo Zg (rfl) ?_
     refine Lo Zg (rfl) ?_
     refine Lo Zg (Zb (.inr rfl) rfl) ?_
     refine Lo Zg (Zb (.inr rfl) rfl) ?_
     refine Zf (Zd (Ze ?_))
     unfold Gz.t at hG0 hG1
     refine Za ?_
     refine Lo Zg (Zb (.inl rfl) rfl) ?_
     refine Lo Zg (Zb (.inl rfl) rfl) ?_
     refine Lo Zg (Zb (.inl rfl) rfl) ?_
     refine Zl rfl rfl rfl XH15 ?_
     rintro _ _ ⟨rfl, rfl⟩
     refine Le Zg ?_
     refine Lo Zg (v_is true rfl (le_yes (by rw [Gz.zero_add]; exact hG0) (by omega))) ?_
     refine Lo Zg (Zb (.inl rfl) rfl) ?_
     refine Lo Zg (Zb (.inl rfl) rfl) ?_
     refine Zl rfl rfl rfl (by exact Gauge_E (by simp)) ?_
     rintro _ _ ⟨rfl, rfl⟩
     refine Le Zg ?_
     refine Zl rfl rfl rfl XH13 ?_
     rintro _ _ ⟨rfl, rfl⟩
     refine Le Zg ?_
     refine Lo Zg (Zb (.inl rfl) rfl) ?_
     refine Lo Zg (v_subW rfl rfl rfl) ?_
     refine Lo Zg (Zb (.inl rfl) rfl) ?_
     refine Lo Zg (Zb (.inl rfl) rfl) ?_
     refine Zl rfl rfl rfl XH15 ?_
     rintro _ _ ⟨rfl, rfl⟩
     refine Le Zg ?_
     refine Lo Zg (v_is true rfl (le_no3 (g := (0 + leG (tgP m u 0#64))) (d := leG (tgP m u (alW u))) (by rw [Gz.zero_add]; omega) hG1 (by omega))) ?_
     refine Lo Zg (ZA rfl rfl rfl) ?_
     refine Lo Zg (Zb (.inl rfl) rfl) ?_
     refine Lo Zg (Zb (.inl rfl) rfl) ?_
     refine Lo Zg (ZA rfl rfl rfl) ?_
     refine Lo Zg (Zb (.inl rfl) rfl) ?_
     refine Lo Zg (Zb (.inl rfl) rfl) ?_
     refine Lo Zg (Zb (.inl rfl) rfl) ?_
     refine Zl rfl rfl rfl (by exact First_spec _ m (by omega)) ?_
     rintro _ _ ⟨rfl, rfl⟩
     refine Le Zg ?_
     refine Zl rfl rfl rfl (by exact tg_ints _ m (by omega)) ?_
     rintro _ _ ⟨rfl, rfl⟩
     refine Le Zg ?_
     refine Lo Zg (ZA rfl rfl rfl) ?_
     refine Lo Zg (Zb (.inr rfl) rfl) ?_
     refine Zf (Zd ?_)
     try refine B_heap ((List.append_assoc _ _ _).trans (List.append_assoc _ _ _)) ?_
     refine Zk ?_
     refine W10 (.inr rfl) (Zi rfl rfl) ?_
     exact ⟨rfl, rfl⟩
  ·try simp only [qB, qN] at hc2
   refine Zo (Zd (Ze ?_))
   first | (obtain ⟨u0, hue, hul⟩ := (tm_abs us (k := 64) (by decide)).1 (by assumption); rw [show -(us.tmod 64) = (u0 : Int) from hue]) | (obtain ⟨u0, hue, hul⟩ := (tm_abs us (k := 64) (by decide)).2 (by assumption); rw [show us.tmod 64 = (u0 : Int) from hue])
   refine Za ?_
   refine Lo Zg (Zb (.inl rfl) rfl) ?_
   refine Lo Zg (W14 rfl rfl rfl) ?_
   refine Lo Zg (Zb (.inr rfl) rfl) ?_
   refine Zf (Zd (Ze ?_))
   obtain ⟨u, hu⟩ : ∃ u, u = u0 + 1 := ⟨_, rfl⟩
   rw [show (u0 : Int) + 1 = ((u : Nat) : Int) by omega]
   refine Za ?_
   refine Lo Zg (Zb (.inl rfl) rfl) ?_
   refine Lo Zg (rfl) ?_
   refine Lo Zg (ZG rfl rfl) ?_
   refine Lo Zg (W13 rfl rfl rfl rfl rfl rfl rfl) ?_
   refine Zf (Zd (Ze (Za ?_)))
   refine Lo Zg (Zh (VVal.int .u64 0) (.inr rfl) rfl) ?_
   refine Zf (Zd (Ze (Ze (Za ?_))))
   refine Lo Zg (Zh (VVal.int .i64 0) (.inr rfl) rfl) ?_
   refine Zf (Zd (Zn ?_))
   refine ZD (mk 117 166153499473114484112975882535042079) (env' := Zg) rfl ?_
   refine ZH (fun (k : Nat) => u - k) (fun (k : Nat) => [(8, iW (alW k)), (9, iI (k : Nat))]) (fun (k : Nat) G => (k ≤ u) ∧ G = H ++ [pqB (u : Nat) Yk Yk Yk]) 0 rfl ?_ ?_
   ·refine ⟨?_, rfl⟩
    exact Nat.zero_le _
   rintro k _ ⟨hk, rfl⟩
   refine Z4 (env' := Zg) rfl ?_
   refine Ze (Ze (Za ?_))
   refine Lo Zg (Zb (.inl rfl) rfl) ?_
   refine Lo Zg (Zb (.inl rfl) rfl) ?_
   refine Lo Zg (rfl) ?_
   refine Zf (Zd ?_)
   refine Zp _ rfl (fun hc5 => ?_) (fun hc5 => ?_)
   ·try simp only [qB, qN] at hc5
    refine Zo (Zd (Ze (Zn (Za ?_))))
    refine Lo Zg (Zb (.inl rfl) rfl) ?_
    refine Lo Zg (Zb (.inl rfl) rfl) ?_
    refine Lo Zg (v_shl1 rfl rfl rfl XH3) ?_
    refine Lo Zg (v_orW rfl rfl rfl) ?_
    refine Lo Zg (Zb (.inr rfl) rfl) ?_
    refine Zf (ZB (Zd (Za ?_)))
    refine Lo Zg (Zb (.inl rfl) rfl) ?_
    refine Lo Zg (W14 rfl rfl rfl) ?_
    refine Lo Zg (Zb (.inr rfl) rfl) ?_
    refine Zf ?_
    refine ZR (mk 117 166153499473114484112975882535042079) (env' := Zg) rfl ⟨k + 1, ?_, rfl, ?_⟩
    ·first | omega | (simp only []; omega)
    ·exact ⟨by omega, rfl⟩
   ·try simp only [qB, qN] at hc5
    refine ZO (ZM (ZE (ZN (Zd (Ze (Ze ?_))))))
    obtain rfl : u = k := by omega
    refine Za ?_
    refine Lo Zg (Zh (VVal.int .i64 0) (.inr rfl) rfl) ?_
    refine Zf (Zd (Zn ?_))
    refine ZD (mk 117 166153499473114484112975882535041567) (env' := Zg) rfl ?_
    refine ZH (fun (i : Nat) => m - i) (fun (i : Nat) => [(10, iI (i : Nat))]) (fun (i : Nat) G => (i ≤ m) ∧ ∃ wv fv X, G = (H ++ [pqB (u : Nat) wv fv Yk]) ++ X ∧ LV (H.length + 1) 1 X wv ((List.replicate i (alW u)).map iW) i ∧ LV (H.length + 1) 1 X fv ((List.replicate i (-1 : Int)).map iI) i ∧ Dj wv fv) 0 rfl ?_ ?_
    ·refine ⟨?_, ⟨_, _, [], by rw [List.append_nil], LV.nil _ _ _, LV.nil _ _ _, Dj.nil _⟩⟩
     exact Nat.zero_le _
    rintro i _ ⟨hi, ⟨wv, fv, X, rfl, hw, hf, hd⟩⟩
    refine Z4 (env' := Zg) rfl ?_
    refine Ze (Ze (Za ?_))
    refine Lo Zg (Zb (.inl rfl) rfl) ?_
    refine Lo Zg (Zb (.inl rfl) rfl) ?_
    refine Lo Zg (rfl) ?_
    refine Zf (Zd ?_)
    refine Zp _ rfl (fun hc6 => ?_) (fun hc6 => ?_)
    ·try simp only [qB, qN] at hc6
     refine Zo (Zd (Ze (Zn (Ze (Za ?_)))))
     refine Lo Zg (rfl) ?_
     refine Lo Zg (W5g rfl rfl rfl rfl) ?_
     refine Lo Zg (Zb (.inl rfl) rfl) ?_
     refine Lo Zg (Zt rfl rfl (by decide) rfl) ?_
     refine L_opX rfl rfl (YE rfl rfl rfl rfl rfl rfl rfl (by simp) hw rfl rfl (by decide) XH19 (by decide)) ?_
     rintro _ _ ⟨Y1, rfl, rfl, hY1, hY2, hY3⟩
     refine Le Zg ?_
     refine Lo Zg (rfl) ?_
     refine Lo Zg (W13 rfl rfl rfl rfl rfl rfl rfl) ?_
     have hf1 := LV.keepN hY3 hf hd.symm hY2
     have hd1 := LV.djN hY3 hf
     have hw1 := hY3
     refine Zf (Zd (Za ?_))
     refine Lo Zg (rfl) ?_
     refine Lo Zg (W5g rfl rfl rfl rfl) ?_
     refine Lo Zg (Zt rfl rfl (by decide) rfl) ?_
     refine L_opX rfl rfl (YE rfl rfl rfl rfl rfl rfl rfl (by simp) hf1 rfl rfl (by decide) XH19 (by decide)) ?_
     rintro _ _ ⟨Y1, rfl, rfl, hY1, hY2, hY3⟩
     refine Le Zg ?_
     refine Lo Zg (rfl) ?_
     refine Lo Zg (W13 rfl rfl rfl rfl rfl rfl rfl) ?_
     have hw2 := LV.keepN hY3 hw1 hd1.symm hY2
     have hd2 := LV.djN hY3 hw1
     refine Zf (ZB (Zd (Za ?_)))
     refine Lo Zg (Zb (.inl rfl) rfl) ?_
     refine Lo Zg (W14 rfl rfl rfl) ?_
     refine Lo Zg (Zb (.inr rfl) rfl) ?_
     refine Zf ?_
     refine ZR (mk 117 166153499473114484112975882535041567) (env' := Zg) rfl ⟨i + 1, ?_, rfl, ?_⟩
     ·first | omega | (simp only []; omega)
     ·exact ⟨by omega, _, _, _, rfl, by rw [rep_push]; exact hw2, by rw [rep_push]; exact hY3, hd2⟩
    ·try simp only [qB, qN] at hc6
     refine ZO (ZM (ZE (ZN (Zd (Ze ?_)))))
     obtain rfl : m = i := by omega
     obtain ⟨b, hb1, hb⟩ := hw.pos (by omega)
     obtain ⟨c, hc1, hc⟩ := hf.pos (by omega)
     subst hb1 hc1
     have hbc : b ≠ c := fun e => hd (H.length + 1 + b) rfl (by rw [e]; rfl)
     have hbl := Zw hb
     have hcl := Zw hc
     rw [tg_rep (by omega)] at hb
     have hWl : (List.replicate (m - 1) (alW u) ++ [0#64]).length = m := tg_len (u := u) (by omega)
     have hWl1 : (List.replicate (m - 1) (alW u) ++ [alW u]).length = m := tg_len (u := u) (by omega)
     have hFl : (List.replicate m (-1 : Int)).length = m := List.length_replicate
     have hP0 := tg_ok0 m (by omega) u (by omega) (by omega)
     have hP1 := tg_ok1 m (by omega) u (by omega) (by omega)
     have hG0 := tg_g (u := u) 0#64 hP0 (by omega) (by omega)
     have hG1 := tg_g (u := u) (alW u) hP1 (by omega) (by omega)
     have hBB := bo_big (n := m) (U := u) (by omega) (by omega)
     refine Za ?_
     refine Lo Zg (rfl) ?_
     refine Lo Zg (W5g rfl rfl rfl rfl) ?_
     refine Lo Zg (Zb (.inl rfl) rfl) ?_
     refine Lo Zg (W2g rfl rfl rfl) ?_
     refine Lo Zg (W18 rfl rfl rfl rfl rfl rfl rfl) ?_
     refine Lo Zg (Yc (VVal.int .u64 0) rfl rfl rfl rfl rfl rfl rfl (by exact Zx (by simp) hb) XH21 XH10) ?_
     refine Zf (Zd (Ze (Za ?_)))
     refine Zl rfl rfl rfl (by exact sNew_spec _) ?_
     rintro _ _ ⟨rfl, rfl⟩
     refine Le Zg ?_
     refine Lo Zg (Zb (.inr rfl) rfl) ?_
     refine Zf (Zd (Ze (Ze (Za ?_))))
     refine Lo Zg (Zb (.inl rfl) rfl) ?_
     refine Lo Zg (v_is false rfl rfl) ?_
     refine Lo Zg (Zb (.inl rfl) rfl) ?_
     refine Zl rfl rfl rfl (by exact wakes_spec _) ?_
     rintro _ _ ⟨rfl, rfl⟩
     refine Le Zg ?_
     refine Lo Zg (rfl) ?_
     refine Lo Zg (Ya rfl rfl rfl) ?_
     refine Lo Zg (Zb (.inl rfl) rfl) ?_
     refine Lo Zg (Zb (.inl rfl) rfl) ?_
     refine Lo Zg (W5j rfl rfl rfl rfl rfl) ?_
     refine Zl rfl rfl rfl XH5 ?_
     rintro _ _ ⟨rfl, rfl⟩
     refine Le Zg ?_
     refine Zl rfl rfl rfl XH22 ?_
     rintro v _ ⟨hv, rfl⟩; rw [tg_none (by omega) (by omega) (by omega)] at hv; obtain rfl : v = .bool false := hv; rw [set_end]
     refine Le Zg ?_
     refine Lo Zg (Ya rfl rfl rfl) ?_
     refine Zf (Zd ?_)
     refine Yb rfl rfl ?_
     refine Zo (Zd (Ze (Za ?_)))
     refine Lo Zg (Zb (.inl rfl) rfl) ?_
     refine Zl rfl rfl rfl (by exact Gauge_spec _ _ _ YF) ?_
     rintro _ _ ⟨rfl, rfl⟩
     refine Le Zg ?_
     refine Zl rfl rfl rfl XH18 ?_
     rintro _ _ ⟨rfl, rfl⟩
     refine Le Zg ?_
     refine Lo Zg (Zb (.inr rfl) rfl) ?_
     refine Zf (Zd (Ze (Za ?_)))
     refine Lo Zg (rfl) ?_
     refine Lo Zg (W5k rfl rfl rfl rfl) ?_
     refine Lo Zg (Zb (.inl rfl) rfl) ?_
     refine Lo Zg (W2g rfl rfl rfl) ?_
     refine Lo Zg (Zb (.inl rfl) rfl) ?_
     refine Lo Zg (W18 rfl rfl rfl rfl rfl rfl rfl) ?_
     refine Lo Zg (W5l rfl rfl rfl rfl rfl rfl rfl) ?_
     refine Zf (Zd (Ze (Za ?_)))
     refine Lo Zg (Zb (.inl rfl) rfl) ?_
     refine Lo Zg (W5j rfl rfl rfl rfl rfl) ?_
     refine Zl rfl rfl rfl XH4 ?_
     rintro _ _ ⟨rfl, rfl⟩
     refine Le Zg ?_
     refine Zl rfl rfl rfl XH14 ?_
     rintro v _ ⟨hv, rfl⟩; rw [tg_all (by omega) (by omega) (by omega) (by omega)] at hv; obtain rfl : v = .tuple [fzN (List.replicate m 0), .bool true] := hv
     refine Le Zg ?_
     refine Lo Zg (Zb (.inl rfl) rfl) ?_
     refine Lo Zg (rfl) ?_
     refine Lo Zg (rfl) ?_
     refine Lo Zg (Zb (.inr rfl) rfl) ?_
     refine Lo Zg (Zb (.inr rfl) rfl) ?_
     refine Zf (Zd (Ze ?_))
     unfold Gz.t at hG0 hG1
     refine Za ?_
     refine Lo Zg (Zb (.inl rfl) rfl) ?_
     refine Lo Zg (Zb (.inl rfl) rfl) ?_
     refine Lo Zg (Zb (.inl rfl) rfl) ?_
     refine Zl rfl rfl rfl XH15 ?_
     rintro _ _ ⟨rfl, rfl⟩
     refine Le Zg ?_
     refine Lo Zg (v_is true rfl (le_yes (by rw [Gz.zero_add]; exact hG0) (by omega))) ?_
     refine Lo Zg (Zb (.inl rfl) rfl) ?_
     refine Lo Zg (Zb (.inl rfl) rfl) ?_
     refine Zl rfl rfl rfl (by exact Gauge_E (by simp)) ?_
     rintro _ _ ⟨rfl, rfl⟩
     refine Le Zg ?_
     refine Zl rfl rfl rfl XH13 ?_
     rintro _ _ ⟨rfl, rfl⟩
     refine Le Zg ?_
     refine Lo Zg (Zb (.inl rfl) rfl) ?_
     refine Lo Zg (v_subW rfl rfl rfl) ?_
     refine Lo Zg (Zb (.inl rfl) rfl) ?_
     refine Lo Zg (Zb (.inl rfl) rfl) ?_
     refine Zl rfl rfl rfl XH15 ?_
     rintro _ _ ⟨rfl, rfl⟩
     refine Le Zg ?_
     refine Lo Zg (v_is true rfl (le_no3 (g := (0 + leG (tgP m u 0#64))) (d := leG (tgP m u (alW u))) (by rw [Gz.zero_add]; omega) hG1 (by omega))) ?_
     refine Lo Zg (ZA rfl rfl rfl) ?_
     refine Lo Zg (Zb (.inl rfl) rfl) ?_
     refine Lo Zg (Zb (.inl rfl) rfl) ?_
     refine Lo Zg (ZA rfl rfl rfl) ?_
     refine Lo Zg (Zb (.inl rfl) rfl) ?_
     refine Lo Zg (Zb (.inl rfl) rfl) ?_
     refine Lo Zg (Zb (.inl rfl) rfl) ?_
     refine Zl rfl rfl rfl (by exact First_spec _ m (by omega)) ?_
     rintro _ _ ⟨rfl, rfl⟩
     refine Le Zg ?_
     refine Zl rfl rfl rfl (by exact tg_ints _ m (by omega)) ?_
     rintro _ _ ⟨rfl, rfl⟩
     refine Le Zg ?_
     refine Lo Zg (ZA rfl rfl rfl) ?_
     refine Lo Zg (Zb (.inr rfl) rfl) ?_
     refine Zf (Zd ?_)
     try refine B_heap ((List.append_assoc _ _ _).trans (List.append_assoc _ _ _)) ?_
     refine Zk ?_
     refine W10 (.inr rfl) (Zi rfl rfl) ?_
     exact ⟨rfl, rfl⟩
 ·try simp only [qB, qN] at hc1
  refine Zo (Zd (Ze ?_))
  first | (obtain ⟨m0, hme, hml⟩ := (tm_abs n (k := 8) (by decide)).1 (by assumption); rw [show -(n.tmod 8) = (m0 : Int) from hme]) | (obtain ⟨m0, hme, hml⟩ := (tm_abs n (k := 8) (by decide)).2 (by assumption); rw [show n.tmod 8 = (m0 : Int) from hme])
  refine Za ?_
  refine Lo Zg (Zb (.inl rfl) rfl) ?_
  refine Lo Zg (W14 rfl rfl rfl) ?_
  refine Lo Zg (Zb (.inr rfl) rfl) ?_
  refine Zf (Zd (Ze ?_))
  obtain ⟨m, hm⟩ : ∃ m, m = m0 + 1 := ⟨_, rfl⟩
  rw [show (m0 : Int) + 1 = ((m : Nat) : Int) by omega]
  refine Za ?_
  refine Lo Zg (Zb (.inl rfl) rfl) ?_
  refine Lo Zg (rfl) ?_
  refine Lo Zg (Zb (.inr rfl) rfl) ?_
  refine Zf (Zd (Ze (Ze (Za ?_))))
  refine Lo Zg (Zb (.inl rfl) rfl) ?_
  refine Lo Zg (rfl) ?_
  refine Zf (Zd ?_)
  refine Zp _ rfl (fun hc7 => ?_) (fun hc7 => ?_)
  ·try simp only [qB, qN] at hc7
   refine Za ?_
   refine Lo Zg (Zb (.inl rfl) rfl) ?_
   refine Lo Zg (v_val (u := iI (-(us.tmod 64))) rfl (neg_w (x := us.tmod 64) (by have := (tm_n us (u := (64 : Int)) (by decide)).1; omega))) ?_
   refine Lo Zg (Zb (.inr rfl) rfl) ?_
   refine Zf (Zd (Ze ?_))
   first | (obtain ⟨u0, hue, hul⟩ := (tm_abs us (k := 64) (by decide)).1 (by assumption); rw [show -(us.tmod 64) = (u0 : Int) from hue]) | (obtain ⟨u0, hue, hul⟩ := (tm_abs us (k := 64) (by decide)).2 (by assumption); rw [show us.tmod 64 = (u0 : Int) from hue])
   refine Za ?_
   refine Lo Zg (Zb (.inl rfl) rfl) ?_
   refine Lo Zg (W14 rfl rfl rfl) ?_
   refine Lo Zg (Zb (.inr rfl) rfl) ?_
   refine Zf (Zd (Ze ?_))
   obtain ⟨u, hu⟩ : ∃ u, u = u0 + 1 := ⟨_, rfl⟩
   rw [show (u0 : Int) + 1 = ((u : Nat) : Int) by omega]
   refine Za ?_
   refine Lo Zg (Zb (.inl rfl) rfl) ?_
   refine Lo Zg (rfl) ?_
   refine Lo Zg (ZG rfl rfl) ?_
   refine Lo Zg (W13 rfl rfl rfl rfl rfl rfl rfl) ?_
   refine Zf (Zd (Ze (Za ?_)))
   refine Lo Zg (Zh (VVal.int .u64 0) (.inr rfl) rfl) ?_
   refine Zf (Zd (Ze (Ze (Za ?_))))
   refine Lo Zg (Zh (VVal.int .i64 0) (.inr rfl) rfl) ?_
   refine Zf (Zd (Zn ?_))
   refine ZD (mk 117 166153499473114484112975882535042079) (env' := Zg) rfl ?_
   refine ZH (fun (k : Nat) => u - k) (fun (k : Nat) => [(8, iW (alW k)), (9, iI (k : Nat))]) (fun (k : Nat) G => (k ≤ u) ∧ G = H ++ [pqB (u : Nat) Yk Yk Yk]) 0 rfl ?_ ?_
   ·refine ⟨?_, rfl⟩
    exact Nat.zero_le _
   rintro k _ ⟨hk, rfl⟩
   refine Z4 (env' := Zg) rfl ?_
   refine Ze (Ze (Za ?_))
   refine Lo Zg (Zb (.inl rfl) rfl) ?_
   refine Lo Zg (Zb (.inl rfl) rfl) ?_
   refine Lo Zg (rfl) ?_
   refine Zf (Zd ?_)
   refine Zp _ rfl (fun hc8 => ?_) (fun hc8 => ?_)
   ·try simp only [qB, qN] at hc8
    refine Zo (Zd (Ze (Zn (Za ?_))))
    refine Lo Zg (Zb (.inl rfl) rfl) ?_
    refine Lo Zg (Zb (.inl rfl) rfl) ?_
    refine Lo Zg (v_shl1 rfl rfl rfl XH3) ?_
    refine Lo Zg (v_orW rfl rfl rfl) ?_
    refine Lo Zg (Zb (.inr rfl) rfl) ?_
    refine Zf (ZB (Zd (Za ?_)))
    refine Lo Zg (Zb (.inl rfl) rfl) ?_
    refine Lo Zg (W14 rfl rfl rfl) ?_
    refine Lo Zg (Zb (.inr rfl) rfl) ?_
    refine Zf ?_
    refine ZR (mk 117 166153499473114484112975882535042079) (env' := Zg) rfl ⟨k + 1, ?_, rfl, ?_⟩
    ·first | omega | (simp only []; omega)
    ·exact ⟨by omega, rfl⟩
   ·try simp only [qB, qN] at hc8
    refine ZO (ZM (ZE (ZN (Zd (Ze (Ze ?_))))))
    obtain rfl : u = k := by omega
    refine Za ?_
    refine Lo Zg (Zh (VVal.int .i64 0) (.inr rfl) rfl) ?_
    refine Zf (Zd (Zn ?_))
    refine ZD (mk 117 166153499473114484112975882535041567) (env' := Zg) rfl ?_
    refine ZH (fun (i : Nat) => m - i) (fun (i : Nat) => [(10, iI (i : Nat))]) (fun (i : Nat) G => (i ≤ m) ∧ ∃ wv fv X, G = (H ++ [pqB (u : Nat) wv fv Yk]) ++ X ∧ LV (H.length + 1) 1 X wv ((List.replicate i (alW u)).map iW) i ∧ LV (H.length + 1) 1 X fv ((List.replicate i (-1 : Int)).map iI) i ∧ Dj wv fv) 0 rfl ?_ ?_
    ·refine ⟨?_, ⟨_, _, [], by rw [List.append_nil], LV.nil _ _ _, LV.nil _ _ _, Dj.nil _⟩⟩
     exact Nat.zero_le _
    rintro i _ ⟨hi, ⟨wv, fv, X, rfl, hw, hf, hd⟩⟩
    refine Z4 (env' := Zg) rfl ?_
    refine Ze (Ze (Za ?_))
    refine Lo Zg (Zb (.inl rfl) rfl) ?_
    refine Lo Zg (Zb (.inl rfl) rfl) ?_
    refine Lo Zg (rfl) ?_
    refine Zf (Zd ?_)
    refine Zp _ rfl (fun hc9 => ?_) (fun hc9 => ?_)
    ·try simp only [qB, qN] at hc9
     refine Zo (Zd (Ze (Zn (Ze (Za ?_)))))
     refine Lo Zg (rfl) ?_
     refine Lo Zg (W5g rfl rfl rfl rfl) ?_
     refine Lo Zg (Zb (.inl rfl) rfl) ?_
     refine Lo Zg (Zt rfl rfl (by decide) rfl) ?_
     refine L_opX rfl rfl (YE rfl rfl rfl rfl rfl rfl rfl (by simp) hw rfl rfl (by decide) XH19 (by decide)) ?_
     rintro _ _ ⟨Y1, rfl, rfl, hY1, hY2, hY3⟩
     refine Le Zg ?_
     refine Lo Zg (rfl) ?_
     refine Lo Zg (W13 rfl rfl rfl rfl rfl rfl rfl) ?_
     have hf1 := LV.keepN hY3 hf hd.symm hY2
     have hd1 := LV.djN hY3 hf
     have hw1 := hY3
     refine Zf (Zd (Za ?_))
     refine Lo Zg (rfl) ?_
     refine Lo Zg (W5g rfl rfl rfl rfl) ?_
     refine Lo Zg (Zt rfl rfl (by decide) rfl) ?_
     refine L_opX rfl rfl (YE rfl rfl rfl rfl rfl rfl rfl (by simp) hf1 rfl rfl (by decide) XH19 (by decide)) ?_
     rintro _ _ ⟨Y1, rfl, rfl, hY1, hY2, hY3⟩
     refine Le Zg ?_
     refine Lo Zg (rfl) ?_
     refine Lo Zg (W13 rfl rfl rfl rfl rfl rfl rfl) ?_
     have hw2 := LV.keepN hY3 hw1 hd1.symm hY2
     have hd2 := LV.djN hY3 hw1
     refine Zf (ZB (Zd (Za ?_)))
     refine Lo Zg (Zb (.inl rfl) rfl) ?_
     refine Lo Zg (W14 rfl rfl rfl) ?_
     refine Lo Zg (Zb (.inr rfl) rfl) ?_
     refine Zf ?_
     refine ZR (mk 117 166153499473114484112975882535041567) (env' := Zg) rfl ⟨i + 1, ?_, rfl, ?_⟩
     ·first | omega | (simp only []; omega)
     ·exact ⟨by omega, _, _, _, rfl, by rw [rep_push]; exact hw2, by rw [rep_push]; exact hY3, hd2⟩
    ·try simp only [qB, qN] at hc9
     refine ZO (ZM (ZE (ZN (Zd (Ze ?_)))))
     obtain rfl : m = i := by omega
     obtain ⟨b, hb1, hb⟩ := hw.pos (by omega)
     obtain ⟨c, hc1, hc⟩ := hf.pos (by omega)
     subst hb1 hc1
     have hbc : b ≠ c := fun e => hd (H.length + 1 + b) rfl (by rw [e]; rfl)
     have hbl := Zw hb
     have hcl := Zw hc
     rw [tg_rep (by omega)] at hb
     have hWl : (List.replicate (m - 1) (alW u) ++ [0#64]).length = m := tg_len (u := u) (by omega)
     have hWl1 : (List.replicate (m - 1) (alW u) ++ [alW u]).length = m := tg_len (u := u) (by omega)
     have hFl : (List.replicate m (-1 : Int)).length = m := List.length_replicate
     have hP0 := tg_ok0 m (by omega) u (by omega) (by omega)
     have hP1 := tg_ok1 m (by omega) u (by omega) (by omega)
     have hG0 := tg_g (u := u) 0#64 hP0 (by omega) (by omega)
     have hG1 := tg_g (u := u) (alW u) hP1 (by omega) (by omega)
     have hBB := bo_big (n := m) (U := u) (by omega) (by omega)
     refine Za ?_
     refine Lo Zg (rfl) ?_
     refine Lo Zg (W5g rfl rfl rfl rfl) ?_
     refine Lo Zg (Zb (.inl rfl) rfl) ?_
     refine Lo Zg (W2g rfl rfl rfl) ?_
     refine Lo Zg (W18 rfl rfl rfl rfl rfl rfl rfl) ?_
     refine Lo Zg (Yc (VVal.int .u64 0) rfl rfl rfl rfl rfl rfl rfl (by exact Zx (by simp) hb) XH21 XH10) ?_
     refine Zf (Zd (Ze (Za ?_)))
     refine Zl rfl rfl rfl (by exact sNew_spec _) ?_
     rintro _ _ ⟨rfl, rfl⟩
     refine Le Zg ?_
     refine Lo Zg (Zb (.inr rfl) rfl) ?_
     refine Zf (Zd (Ze (Ze (Za ?_))))
     refine Lo Zg (Zb (.inl rfl) rfl) ?_
     refine Lo Zg (v_is false rfl rfl) ?_
     refine Lo Zg (Zb (.inl rfl) rfl) ?_
     refine Zl rfl rfl rfl (by exact wakes_spec _) ?_
     rintro _ _ ⟨rfl, rfl⟩
     refine Le Zg ?_
     refine Lo Zg (rfl) ?_
     refine Lo Zg (Ya rfl rfl rfl) ?_
     refine Lo Zg (Zb (.inl rfl) rfl) ?_
     refine Lo Zg (Zb (.inl rfl) rfl) ?_
     refine Lo Zg (W5j rfl rfl rfl rfl rfl) ?_
     refine Zl rfl rfl rfl XH5 ?_
     rintro _ _ ⟨rfl, rfl⟩
     refine Le Zg ?_
     refine Zl rfl rfl rfl XH22 ?_
     rintro v _ ⟨hv, rfl⟩; rw [tg_none (by omega) (by omega) (by omega)] at hv; obtain rfl : v = .bool false := hv; rw [set_end]
     refine Le Zg ?_
     refine Lo Zg (Ya rfl rfl rfl) ?_
     refine Zf (Zd ?_)
     refine Yb rfl rfl ?_
     refine Zo (Zd (Ze (Za ?_)))
     refine Lo Zg (Zb (.inl rfl) rfl) ?_
     refine Zl rfl rfl rfl (by exact Gauge_spec _ _ _ YF) ?_
     rintro _ _ ⟨rfl, rfl⟩
     refine Le Zg ?_
     refine Zl rfl rfl rfl XH18 ?_
     rintro _ _ ⟨rfl, rfl⟩
     refine Le Zg ?_
     refine Lo Zg (Zb (.inr rfl) rfl) ?_
     refine Zf (Zd (Ze (Za ?_)))
     refine Lo Zg (rfl) ?_
     refine Lo Zg (W5k rfl rfl rfl rfl) ?_
     refine Lo Zg (Zb (.inl rfl) rfl) ?_
     refine Lo Zg (W2g rfl rfl rfl) ?_
     refine Lo Zg (Zb (.inl rfl) rfl) ?_
     refine Lo Zg (W18 rfl rfl rfl rfl rfl rfl rfl) ?_
     refine Lo Zg (W5l rfl rfl rfl rfl rfl rfl rfl) ?_
     refine Zf (Zd (Ze (Za ?_)))
     refine Lo Zg (Zb (.inl rfl) rfl) ?_
     refine Lo Zg (W5j rfl rfl rfl rfl rfl) ?_
     refine Zl rfl rfl rfl XH4 ?_
     rintro _ _ ⟨rfl, rfl⟩
     refine Le Zg ?_
     refine Zl rfl rfl rfl XH14 ?_
     rintro v _ ⟨hv, rfl⟩; rw [tg_all (by omega) (by omega) (by omega) (by omega)] at hv; obtain rfl : v = .tuple [fzN (List.replicate m 0), .bool true] := hv
     refine Le Zg ?_
     refine Lo Zg (Zb (.inl rfl) rfl) ?_
     refine Lo Zg (rfl) ?_
     refine Lo Zg (rfl) ?_
     refine Lo Zg (Zb (.inr rfl) rfl) ?_
     refine Lo Zg (Zb (.inr rfl) rfl) ?_
     refine Zf (Zd (Ze ?_))
     unfold Gz.t at hG0 hG1
     refine Za ?_
     refine Lo Zg (Zb (.inl rfl) rfl) ?_
     refine Lo Zg (Zb (.inl rfl) rfl) ?_
     refine Lo Zg (Zb (.inl rfl) rfl) ?_
     refine Zl rfl rfl rfl XH15 ?_
     rintro _ _ ⟨rfl, rfl⟩
     refine Le Zg ?_
     refine Lo Zg (v_is true rfl (le_yes (by rw [Gz.zero_add]; exact hG0) (by omega))) ?_
     refine Lo Zg (Zb (.inl rfl) rfl) ?_
     refine Lo Zg (Zb (.inl rfl) rfl) ?_
     refine Zl rfl rfl rfl (by exact Gauge_E (by simp)) ?_
     rintro _ _ ⟨rfl, rfl⟩
     refine Le Zg ?_
     refine Zl rfl rfl rfl XH13 ?_
     rintro _ _ ⟨rfl, rfl⟩
     refine Le Zg ?_
     refine Lo Zg (Zb (.inl rfl) rfl) ?_
     refine Lo Zg (v_subW rfl rfl rfl) ?_
     refine Lo Zg (Zb (.inl rfl) rfl) ?_
     refine Lo Zg (Zb (.inl rfl) rfl) ?_
     refine Zl rfl rfl rfl XH15 ?_
     rintro _ _ ⟨rfl, rfl⟩
     refine Le Zg ?_
     refine Lo Zg (v_is true rfl (le_no3 (g := (0 + leG (tgP m u 0#64))) (d := leG (tgP m u (alW u))) (by rw [Gz.zero_add]; omega) hG1 (by omega))) ?_
     refine Lo Zg (ZA rfl rfl rfl) ?_
     refine Lo Zg (Zb (.inl rfl) rfl) ?_
     refine Lo Zg (Zb (.inl rfl) rfl) ?_
     refine Lo Zg (ZA rfl rfl rfl) ?_
     refine Lo Zg (Zb (.inl rfl) rfl) ?_
     refine Lo Zg (Zb (.inl rfl) rfl) ?_
     refine Lo Zg (Zb (.inl rfl) rfl) ?_
     refine Zl rfl rfl rfl (by exact First_spec _ m (by omega)) ?_
     rintro _ _ ⟨rfl, rfl⟩
     refine Le Zg ?_
     refine Zl rfl rfl rfl (by exact tg_ints _ m (by omega)) ?_
     rintro _ _ ⟨rfl, rfl⟩
     refine Le Zg ?_
     refine Lo Zg (ZA rfl rfl rfl) ?_
     refine Lo Zg (Zb (.inr rfl) rfl) ?_
     refine Zf (Zd ?_)
     try refine B_heap ((List.append_assoc _ _ _).trans (List.append_assoc _ _ _)) ?_
     refine Zk ?_
     refine W10 (.inr rfl) (Zi rfl rfl) ?_
     exact ⟨rfl, rfl⟩
  ·try simp only [qB, qN] at hc7
   refine Zo (Zd (Ze ?_))
   first | (obtain ⟨u0, hue, hul⟩ := (tm_abs us (k := 64) (by decide)).1 (by assumption); rw [show -(us.tmod 64) = (u0 : Int) from hue]) | (obtain ⟨u0, hue, hul⟩ := (tm_abs us (k := 64) (by decide)).2 (by assumption); rw [show us.tmod 64 = (u0 : Int) from hue])
   refine Za ?_
   refine Lo Zg (Zb (.inl rfl) rfl) ?_
   refine Lo Zg (W14 rfl rfl rfl) ?_
   refine Lo Zg (Zb (.inr rfl) rfl) ?_
   refine Zf (Zd (Ze ?_))
   obtain ⟨u, hu⟩ : ∃ u, u = u0 + 1 := ⟨_, rfl⟩
   rw [show (u0 : Int) + 1 = ((u : Nat) : Int) by omega]
   refine Za ?_
   refine Lo Zg (Zb (.inl rfl) rfl) ?_
   refine Lo Zg (rfl) ?_
   refine Lo Zg (ZG rfl rfl) ?_
   refine Lo Zg (W13 rfl rfl rfl rfl rfl rfl rfl) ?_
   refine Zf (Zd (Ze (Za ?_)))
   refine Lo Zg (Zh (VVal.int .u64 0) (.inr rfl) rfl) ?_
   refine Zf (Zd (Ze (Ze (Za ?_))))
   refine Lo Zg (Zh (VVal.int .i64 0) (.inr rfl) rfl) ?_
   refine Zf (Zd (Zn ?_))
   refine ZD (mk 117 166153499473114484112975882535042079) (env' := Zg) rfl ?_
   refine ZH (fun (k : Nat) => u - k) (fun (k : Nat) => [(8, iW (alW k)), (9, iI (k : Nat))]) (fun (k : Nat) G => (k ≤ u) ∧ G = H ++ [pqB (u : Nat) Yk Yk Yk]) 0 rfl ?_ ?_
   ·refine ⟨?_, rfl⟩
    exact Nat.zero_le _
   rintro k _ ⟨hk, rfl⟩
   refine Z4 (env' := Zg) rfl ?_
   refine Ze (Ze (Za ?_))
   refine Lo Zg (Zb (.inl rfl) rfl) ?_
   refine Lo Zg (Zb (.inl rfl) rfl) ?_
   refine Lo Zg (rfl) ?_
   refine Zf (Zd ?_)
   refine Zp _ rfl (fun hc10 => ?_) (fun hc10 => ?_)
   ·try simp only [qB, qN] at hc10
    refine Zo (Zd (Ze (Zn (Za ?_))))
    refine Lo Zg (Zb (.inl rfl) rfl) ?_
    refine Lo Zg (Zb (.inl rfl) rfl) ?_
    refine Lo Zg (v_shl1 rfl rfl rfl XH3) ?_
    refine Lo Zg (v_orW rfl rfl rfl) ?_
    refine Lo Zg (Zb (.inr rfl) rfl) ?_
    refine Zf (ZB (Zd (Za ?_)))
    refine Lo Zg (Zb (.inl rfl) rfl) ?_
    refine Lo Zg (W14 rfl rfl rfl) ?_
    refine Lo Zg (Zb (.inr rfl) rfl) ?_
    refine Zf ?_
    refine ZR (mk 117 166153499473114484112975882535042079) (env' := Zg) rfl ⟨k + 1, ?_, rfl, ?_⟩
    ·first | omega | (simp only []; omega)
    ·exact ⟨by omega, rfl⟩
   ·try simp only [qB, qN] at hc10
    refine ZO (ZM (ZE (ZN (Zd (Ze (Ze ?_))))))
    obtain rfl : u = k := by omega
    refine Za ?_
    refine Lo Zg (Zh (VVal.int .i64 0) (.inr rfl) rfl) ?_
    refine Zf (Zd (Zn ?_))
    refine ZD (mk 117 166153499473114484112975882535041567) (env' := Zg) rfl ?_
    refine ZH (fun (i : Nat) => m - i) (fun (i : Nat) => [(10, iI (i : Nat))]) (fun (i : Nat) G => (i ≤ m) ∧ ∃ wv fv X, G = (H ++ [pqB (u : Nat) wv fv Yk]) ++ X ∧ LV (H.length + 1) 1 X wv ((List.replicate i (alW u)).map iW) i ∧ LV (H.length + 1) 1 X fv ((List.replicate i (-1 : Int)).map iI) i ∧ Dj wv fv) 0 rfl ?_ ?_
    ·refine ⟨?_, ⟨_, _, [], by rw [List.append_nil], LV.nil _ _ _, LV.nil _ _ _, Dj.nil _⟩⟩
     exact Nat.zero_le _
    rintro i _ ⟨hi, ⟨wv, fv, X, rfl, hw, hf, hd⟩⟩
    refine Z4 (env' := Zg) rfl ?_
    refine Ze (Ze (Za ?_))
    refine Lo Zg (Zb (.inl rfl) rfl) ?_
    refine Lo Zg (Zb (.inl rfl) rfl) ?_
    refine Lo Zg (rfl) ?_
    refine Zf (Zd ?_)
    refine Zp _ rfl (fun hc11 => ?_) (fun hc11 => ?_)
    ·try simp only [qB, qN] at hc11
     refine Zo (Zd (Ze (Zn (Ze (Za ?_)))))
     refine Lo Zg (rfl) ?_
     refine Lo Zg (W5g rfl rfl rfl rfl) ?_
     refine Lo Zg (Zb (.inl rfl) rfl) ?_
     refine Lo Zg (Zt rfl rfl (by decide) rfl) ?_
     refine L_opX rfl rfl (YE rfl rfl rfl rfl rfl rfl rfl (by simp) hw rfl rfl (by decide) XH19 (by decide)) ?_
     rintro _ _ ⟨Y1, rfl, rfl, hY1, hY2, hY3⟩
     refine Le Zg ?_
     refine Lo Zg (rfl) ?_
     refine Lo Zg (W13 rfl rfl rfl rfl rfl rfl rfl) ?_
     have hf1 := LV.keepN hY3 hf hd.symm hY2
     have hd1 := LV.djN hY3 hf
     have hw1 := hY3
     refine Zf (Zd (Za ?_))
     refine Lo Zg (rfl) ?_
     refine Lo Zg (W5g rfl rfl rfl rfl) ?_
     refine Lo Zg (Zt rfl rfl (by decide) rfl) ?_
     refine L_opX rfl rfl (YE rfl rfl rfl rfl rfl rfl rfl (by simp) hf1 rfl rfl (by decide) XH19 (by decide)) ?_
     rintro _ _ ⟨Y1, rfl, rfl, hY1, hY2, hY3⟩
     refine Le Zg ?_
     refine Lo Zg (rfl) ?_
     refine Lo Zg (W13 rfl rfl rfl rfl rfl rfl rfl) ?_
     have hw2 := LV.keepN hY3 hw1 hd1.symm hY2
     have hd2 := LV.djN hY3 hw1
     refine Zf (ZB (Zd (Za ?_)))
     refine Lo Zg (Zb (.inl rfl) rfl) ?_
     refine Lo Zg (W14 rfl rfl rfl) ?_
     refine Lo Zg (Zb (.inr rfl) rfl) ?_
     refine Zf ?_
     refine ZR (mk 117 166153499473114484112975882535041567) (env' := Zg) rfl ⟨i + 1, ?_, rfl, ?_⟩
     ·first | omega | (simp only []; omega)
     ·exact ⟨by omega, _, _, _, rfl, by rw [rep_push]; exact hw2, by rw [rep_push]; exact hY3, hd2⟩
    ·try simp only [qB, qN] at hc11
     refine ZO (ZM (ZE (ZN (Zd (Ze ?_)))))
     obtain rfl : m = i := by omega
     obtain ⟨b, hb1, hb⟩ := hw.pos (by omega)
     obtain ⟨c, hc1, hc⟩ := hf.pos (by omega)
     subst hb1 hc1
     have hbc : b ≠ c := fun e => hd (H.length + 1 + b) rfl (by rw [e]; rfl)
     have hbl := Zw hb
     have hcl := Zw hc
     rw [tg_rep (by omega)] at hb
     have hWl : (List.replicate (m - 1) (alW u) ++ [0#64]).length = m := tg_len (u := u) (by omega)
     have hWl1 : (List.replicate (m - 1) (alW u) ++ [alW u]).length = m := tg_len (u := u) (by omega)
     have hFl : (List.replicate m (-1 : Int)).length = m := List.length_replicate
     have hP0 := tg_ok0 m (by omega) u (by omega) (by omega)
     have hP1 := tg_ok1 m (by omega) u (by omega) (by omega)
     have hG0 := tg_g (u := u) 0#64 hP0 (by omega) (by omega)
     have hG1 := tg_g (u := u) (alW u) hP1 (by omega) (by omega)
     have hBB := bo_big (n := m) (U := u) (by omega) (by omega)
     refine Za ?_
     refine Lo Zg (rfl) ?_
     refine Lo Zg (W5g rfl rfl rfl rfl) ?_
     refine Lo Zg (Zb (.inl rfl) rfl) ?_
     refine Lo Zg (W2g rfl rfl rfl) ?_
     refine Lo Zg (W18 rfl rfl rfl rfl rfl rfl rfl) ?_
     refine Lo Zg (Yc (VVal.int .u64 0) rfl rfl rfl rfl rfl rfl rfl (by exact Zx (by simp) hb) XH21 XH10) ?_
     refine Zf (Zd (Ze (Za ?_)))
     refine Zl rfl rfl rfl (by exact sNew_spec _) ?_
     rintro _ _ ⟨rfl, rfl⟩
     refine Le Zg ?_
     refine Lo Zg (Zb (.inr rfl) rfl) ?_
     refine Zf (Zd (Ze (Ze (Za ?_))))
     refine Lo Zg (Zb (.inl rfl) rfl) ?_
     refine Lo Zg (v_is false rfl rfl) ?_
     refine Lo Zg (Zb (.inl rfl) rfl) ?_
     refine Zl rfl rfl rfl (by exact wakes_spec _) ?_
     rintro _ _ ⟨rfl, rfl⟩
     refine Le Zg ?_
     refine Lo Zg (rfl) ?_
     refine Lo Zg (Ya rfl rfl rfl) ?_
     refine Lo Zg (Zb (.inl rfl) rfl) ?_
     refine Lo Zg (Zb (.inl rfl) rfl) ?_
     refine Lo Zg (W5j rfl rfl rfl rfl rfl) ?_
     refine Zl rfl rfl rfl XH5 ?_
     rintro _ _ ⟨rfl, rfl⟩
     refine Le Zg ?_
     refine Zl rfl rfl rfl XH22 ?_
     rintro v _ ⟨hv, rfl⟩; rw [tg_none (by omega) (by omega) (by omega)] at hv; obtain rfl : v = .bool false := hv; rw [set_end]
     refine Le Zg ?_
     refine Lo Zg (Ya rfl rfl rfl) ?_
     refine Zf (Zd ?_)
     refine Yb rfl rfl ?_
     refine Zo (Zd (Ze (Za ?_)))
     refine Lo Zg (Zb (.inl rfl) rfl) ?_
     refine Zl rfl rfl rfl (by exact Gauge_spec _ _ _ YF) ?_
     rintro _ _ ⟨rfl, rfl⟩
     refine Le Zg ?_
     refine Zl rfl rfl rfl XH18 ?_
     rintro _ _ ⟨rfl, rfl⟩
     refine Le Zg ?_
     refine Lo Zg (Zb (.inr rfl) rfl) ?_
     refine Zf (Zd (Ze (Za ?_)))
     refine Lo Zg (rfl) ?_
     refine Lo Zg (W5k rfl rfl rfl rfl) ?_
     refine Lo Zg (Zb (.inl rfl) rfl) ?_
     refine Lo Zg (W2g rfl rfl rfl) ?_
     refine Lo Zg (Zb (.inl rfl) rfl) ?_
     refine Lo Zg (W18 rfl rfl rfl rfl rfl rfl rfl) ?_
     refine Lo Zg (W5l rfl rfl rfl rfl rfl rfl rfl) ?_
     refine Zf (Zd (Ze (Za ?_)))
     refine Lo Zg (Zb (.inl rfl) rfl) ?_
     refine Lo Zg (W5j rfl rfl rfl rfl rfl) ?_
     refine Zl rfl rfl rfl XH4 ?_
     rintro _ _ ⟨rfl, rfl⟩
     refine Le Zg ?_
     refine Zl rfl rfl rfl XH14 ?_
     rintro v _ ⟨hv, rfl⟩; rw [tg_all (by omega) (by omega) (by omega) (by omega)] at hv; obtain rfl : v = .tuple [fzN (List.replicate m 0), .bool true] := hv
     refine Le Zg ?_
     refine Lo Zg (Zb (.inl rfl) rfl) ?_
     refine Lo Zg (rfl) ?_
     refine Lo Zg (rfl) ?_
     refine Lo Zg (Zb (.inr rfl) rfl) ?_
     refine Lo Zg (Zb (.inr rfl) rfl) ?_
     refine Zf (Zd (Ze ?_))
     unfold Gz.t at hG0 hG1
     refine Za ?_
     refine Lo Zg (Zb (.inl rfl) rfl) ?_
     refine Lo Zg (Zb (.inl rfl) rfl) ?_
     refine Lo Zg (Zb (.inl rfl) rfl) ?_
     refine Zl rfl rfl rfl XH15 ?_
     rintro _ _ ⟨rfl, rfl⟩
     refine Le Zg ?_
     refine Lo Zg (v_is true rfl (le_yes (by rw [Gz.zero_add]; exact hG0) (by omega))) ?_
     refine Lo Zg (Zb (.inl rfl) rfl) ?_
     refine Lo Zg (Zb (.inl rfl) rfl) ?_
     refine Zl rfl rfl rfl (by exact Gauge_E (by simp)) ?_
     rintro _ _ ⟨rfl, rfl⟩
     refine Le Zg ?_
     refine Zl rfl rfl rfl XH13 ?_
     rintro _ _ ⟨rfl, rfl⟩
     refine Le Zg ?_
     refine Lo Zg (Zb (.inl rfl) rfl) ?_
     refine Lo Zg (v_subW rfl rfl rfl) ?_
     refine Lo Zg (Zb (.inl rfl) rfl) ?_
     refine Lo Zg (Zb (.inl rfl) rfl) ?_
     refine Zl rfl rfl rfl XH15 ?_
     rintro _ _ ⟨rfl, rfl⟩
     refine Le Zg ?_
     refine Lo Zg (v_is true rfl (le_no3 (g := (0 + leG (tgP m u 0#64))) (d := leG (tgP m u (alW u))) (by rw [Gz.zero_add]; omega) hG1 (by omega))) ?_
     refine Lo Zg (ZA rfl rfl rfl) ?_
     refine Lo Zg (Zb (.inl rfl) rfl) ?_
     refine Lo Zg (Zb (.inl rfl) rfl) ?_
     refine Lo Zg (ZA rfl rfl rfl) ?_
     refine Lo Zg (Zb (.inl rfl) rfl) ?_
     refine Lo Zg (Zb (.inl rfl) rfl) ?_
     refine Lo Zg (Zb (.inl rfl) rfl) ?_
     refine Zl rfl rfl rfl (by exact First_spec _ m (by omega)) ?_
     rintro _ _ ⟨rfl, rfl⟩
     refine Le Zg ?_
     refine Zl rfl rfl rfl (by exact tg_ints _ m (by omega)) ?_
     rintro _ _ ⟨rfl, rfl⟩
     refine Le Zg ?_
     refine Lo Zg (ZA rfl rfl rfl) ?_
     refine Lo Zg (Zb (.inr rfl) rfl) ?_
     refine Zf (Zd ?_)
     try refine B_heap ((List.append_assoc _ _ _).trans (List.append_assoc _ _ _)) ?_
     refine Zk ?_
     refine W10 (.inr rfl) (Zi rfl rfl) ?_
     exact ⟨rfl, rfl⟩
theorem SolveTight_law {x : SW} (n us : Int) : F (psys x) 6 [iI n, iI us] [] fun v G => v = .bool true := (SolveTight_walk [] n us).mono fun v G h => h.1
end Go.Proofs.YtenkjadobkjaeaaDoor.VT
