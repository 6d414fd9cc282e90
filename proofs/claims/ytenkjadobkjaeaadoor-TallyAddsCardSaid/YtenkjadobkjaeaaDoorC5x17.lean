/- Proved: Rows.TallyAddsCardSaid, the statement TallyAdds with its card, of the given program at the commit; no conditions beyond those in the statement. -/
import Derived.Test.YtenkjadobkjaeaaDoorC5x16
import Derived.Test.YtenkjadobkjaeaaDoorRows
import Derived.LaidMore
import Derived.Stop.Joined
set_option autoImplicit false
set_option linter.unusedVariables false
set_option maxRecDepth 100000
namespace Go.Proofs.YtenkjadobkjaeaaDoor.VT
open Go Go.V Go.RowKit Go.Shelf Go.ChangeShapes Go.WideShapes Go.ChangeAt Go.WideMaps Go.WideElems
theorem own : ownKnob Tryd.prog.godebug = none := by kernel_rfl
theorem laidOut : laidOutB Tryd.prog = true := by kernel_rfl
theorem gTab : Tryd.prog.globalNamed "math/bits.deBruijn64tab" = some 0 := by kernel_rfl
theorem tTab : (Tryd.prog.globals[0]?).map (·.type) = some 162 := by kernel_rfl
abbrev laidL : List (String × DataW Unit) := [("math/bits.deBruijn64tab", Rows.laid_math_bits_deBruijn64tab)]
theorem door_met (os : Os) (args : Array Value) : laidMetH Tryd.prog laidL ((World.doorLaid Tryd.prog 400 os).forCall (fun _ _ => 0) ⟨#[], args, []⟩).memory :=
  laidMetH_of_parts3 (fuel := 8) (laidMet_of_run' 8 XH5 XH5) XH5 XH5
theorem laid_tab : (Rows.laid_math_bits_deBruijn64tab : DataW Unit) = .agg (Lib.deBruijn64tab.map fun n : Nat => .lit (.int .u8 (n : Int))) := by kernel_rfl
theorem of_laid {W : World} (h : laidMetH Tryd.prog laidL W) : 0 < W.heap.size ∧ TabAt 0 Lib.deBruijn64tab W := by
  rw [MakeChecks.laidMetH_plain _ _ _ XH5] at h
  obtain ⟨ps, ⟨g0, t0, cs0, f0, p0, q0, hg0, ht0, hv0, hd0, _, _⟩, _, _⟩ := h
  obtain rfl := Option.some.inj (gTab.symm.trans hg0)
  obtain rfl := Option.some.inj (tTab.symm.trans ht0)
  obtain ⟨xs, m, rfl, hx, hlen, hn, hel⟩ := DataW.trod_array Tryd.underlying162 hd0
  have c5 : Tryd.prog.cellsOf 5 = 1 := by kernel_rfl
  rw [c5] at hel
  simp only [Prod.mk.injEq] at hx
  have hx1 := hx.1
  rw [laid_tab] at hx1
  simp only [DataW.agg.injEq] at hx1
  have key : TabAt 0 Lib.deBruijn64tab W := by
    intro j hj
    have hj' : j < 64 := hj
    have h1 := hel j hj'
    have hxl : j < xs.length := by rw [hn]; exact hj'
    have hxj : xs[j]? = some xs[j] := by simp [hxl]
    rw [hxj] at h1
    obtain ⟨n, e1, e2, _⟩ := DataW.trod_int Tryd.underlying5 h1
    have h2 : (xs.map (·.1))[j]? = (Lib.deBruijn64tab.map fun n : Nat => (DataW.lit (.int .u8 (n : Int)) : DataW Unit))[j]? := by rw [← hx1]
    rw [List.getElem?_map, List.getElem?_map, hxj] at h2
    have hjl : j < Lib.deBruijn64tab.length := hj
    rw [List.getElem?_eq_getElem hjl] at h2
    simp only [Option.map_some, Option.some.injEq] at h2
    rw [e2] at h2
    simp only [DataW.lit.injEq, Lit.int.injEq, true_and] at h2
    have h3 := World.var?_cell hg0 hv0 j
    have h4 : cs0[j]? = some (.int .u8 n) := by
      have : cs0.toList[j]? = some (.int .u8 n) := by
        rw [← List.head?_drop]
        rw [Nat.mul_one] at e1
        cases hd : cs0.toList.drop j with
        | nil => rw [hd] at e1; simp at e1
        | cons c r => rw [hd] at e1; simp at e1; rw [e1]; rfl
      simpa using this
    rw [h4] at h3
    rw [h3, h2]
    simp [List.getD_eq_getElem?_getD, hjl]
  refine ⟨?_, key⟩
  have h0 := key 0 (by decide)
  simp only [World.cell?] at h0
  split at h0
  · rename_i hh; exact (Array.getElem?_eq_some_iff.1 hh).1
  · cases h0
def sw {W : World} (h : laidMetH Tryd.prog laidL W) : SW := ⟨W, (of_laid h).1, (of_laid h).2⟩
open Go Go.V Go.RowKit Go.ChangeShapes
abbrev T3 : Type := Int
abbrev e3 : T3 → List VVal := fun x => [iI x]
abbrev k3 : T3 → Prop := fun n => -9223372036854775808 ≤ n ∧ n < 9223372036854775808
theorem op3 : Opens Tryd.prog 3 T3 e3 k3 := Opens.int Tryd.underlying3 XH5
abbrev T35 : Type := BitVec 64
abbrev e35 : T35 → List VVal := fun x => [iW x]
abbrev k35 : T35 → Prop := fun _ => True
theorem op35 : Opens Tryd.prog 35 T35 e35 k35 := Opens.word Tryd.underlying35 XH5
abbrev T22 : Type := List T35
abbrev e22 : T22 → List VVal := fun x => [(fun l : List T35 => VVal.fsl (l.map iW) l.length 1 false) x]
abbrev k22 : T22 → Prop := fun l => l.length * 8 ≤ 140737488351232 ∧ ∀ x, x ∈ l → k35 x
theorem op22 : Opens Tryd.prog 22 T22 e22 k22 := Opens.slice1 (g := iW) 8 op35 Tryd.underlying22 XH5 XH5 XH5
abbrev T23 : Type := List T3
abbrev e23 : T23 → List VVal := fun x => [(fun l : List T3 => VVal.fsl (l.map iI) l.length 1 false) x]
abbrev k23 : T23 → Prop := fun l => l.length * 8 ≤ 140737488351232 ∧ ∀ x, x ∈ l → k3 x
theorem op23 : Opens Tryd.prog 23 T23 e23 k23 := Opens.slice1 (g := iI) 8 op3 Tryd.underlying23 XH5 XH5 XH5
abbrev T71 : Type := T3 × T3 × T23 × Unit
abbrev e71 : T71 → List VVal := fun x => e3 (x.1) ++ (e3 (x.2.1) ++ (e23 (x.2.2.1) ++ ([])))
abbrev k71 : T71 → Prop := fun x => k3 (x.1) ∧ (k3 (x.2.1) ∧ (k23 (x.2.2.1) ∧ (True)))
theorem op71 : Opens Tryd.prog 71 T71 e71 k71 := Opens.struct Tryd.underlying71 (.cons op3 XH5 (.cons op3 XH5 (.cons op23 XH5 (.nil _)))) (fun a => by kernel_rfl)
abbrev T24 : Type := List T71
abbrev e24 : T24 → List VVal := fun x => [(fun l : List T71 => VVal.fsl (l.flatMap e71) l.length 3 false) x]
abbrev k24 : T24 → Prop := fun l => l.length * 40 ≤ 140737488351232 ∧ ∀ x, x ∈ l → k71 x
theorem op24 : Opens Tryd.prog 24 T24 e24 k24 := Opens.slice 3 40 op71 Tryd.underlying24 XH5 XH5 XH5 (by decide)
abbrev T26 : Type := T3 × T22 × T23 × T24 × Unit
abbrev e26 : T26 → List VVal := fun x => e3 (x.1) ++ (e22 (x.2.1) ++ (e23 (x.2.2.1) ++ (e24 (x.2.2.2.1) ++ ([]))))
abbrev k26 : T26 → Prop := fun x => k3 (x.1) ∧ (k22 (x.2.1) ∧ (k23 (x.2.2.1) ∧ (k24 (x.2.2.2.1) ∧ (True))))
theorem op26 : Opens Tryd.prog 26 T26 e26 k26 := Opens.struct Tryd.underlying26 (.cons op3 XH5 (.cons op22 XH5 (.cons op23 XH5 (.cons op24 XH5 (.nil _))))) (fun a => by kernel_rfl)
set_option linter.unusedSimpArgs false
set_option maxHeartbeats 4000000
open Go Go.V Go.RowKit
abbrev Zv {a0 a1 a2 a3 a4 a5 a6 a7 a8 a9 a10 a11 a12 a13 a14 a15 a16 a17 a18 a19 a20 a21 a22 a23 a24 a25 a26 a27 a28 a29 a30 a31 a32 a33 a34 a35 a36 a37 a38 a39 a40 a41 a42 a43 a44 a45 a46 a47 a48 a49 a50 a51 a52 a53 a54 a55 a56 a57 a58 a59 a60 a61 a62 a63 a64 a65 a66 a67 a68 a69 a70 a71 a72 a73 a74 a75 a76 a77 a78 a79 a80 a81 a82 a83 a84 a85 a86 a87 a88 a89 a90 a91 a92 a93 a94 a95 a96 a97 a98 a99 a100 a101 a102 a103 : VVal} : VEnv := a0 :: a1 :: a2 :: a3 :: a4 :: a5 :: a6 :: a7 :: a8 :: a9 :: a10 :: a11 :: a12 :: a13 :: a14 :: a15 :: a16 :: a17 :: a18 :: a19 :: a20 :: a21 :: a22 :: a23 :: a24 :: a25 :: a26 :: a27 :: a28 :: a29 :: a30 :: a31 :: a32 :: a33 :: a34 :: a35 :: a36 :: a37 :: a38 :: a39 :: a40 :: a41 :: a42 :: a43 :: a44 :: a45 :: a46 :: a47 :: a48 :: a49 :: a50 :: a51 :: a52 :: a53 :: a54 :: a55 :: a56 :: a57 :: a58 :: a59 :: a60 :: a61 :: a62 :: a63 :: a64 :: a65 :: a66 :: a67 :: a68 :: a69 :: a70 :: a71 :: a72 :: a73 :: a74 :: a75 :: a76 :: a77 :: a78 :: a79 :: a80 :: a81 :: a82 :: a83 :: a84 :: a85 :: a86 :: a87 :: a88 :: a89 :: a90 :: a91 :: a92 :: a93 :: a94 :: a95 :: a96 :: a97 :: a98 :: a99 :: a100 :: a101 :: a102 :: a103 :: []
theorem W4y {T : TypeId → Option VTy} {H : Zd} {op : Op} {ρ : Operand → VVal} {t : TypeId} {a : Operand} {y : VTy} {p : VVal} {n : Nat} {vs : List VVal} (ho : op = .load t a) (ha : ρ a = p) (hy : T t = some y) (hd : Zj y.desc = true) (hn : y.size = n) (h : LdOkA H p n vs := by first | exact .inl ⟨_, _, rfl, XH38⟩ | exact .inr ⟨_, _, _, _, rfl, XH36, XH38⟩) : vop T ρ H op = some (.agg vs, H) := v_ldA ho ha hy hd hn h
theorem W51 {T : TypeId → Option VTy} {H : Zd} {op : Op} {ρ : Operand → VVal} {t : TypeId} {a : Operand} {y : VTy} {p v : VVal} (ho : op = .load t a) (ha : ρ a = p) (hy : T t = some y) (hd : Zj y.desc = false) (h : LdOk H p v := by first | exact .inl ⟨_, _, rfl, XH38⟩ | exact .inr ⟨_, _, _, _, rfl, XH36, XH38⟩) : vop T ρ H op = some (v, H) := v_ld ho ha hy hd h
theorem wsP_fx {q : Pb} {i u : Nat} (h : fxE q (i : Nat) (u : Nat) = 0) : wsP (fxP q (i : Nat) (u : Nat)) = (wsP q).set i (1#64 <<< u) := by
  obtain ⟨g, h1, h2⟩ := fxE_ok.1 h
  have g5 := g.fx
  rw [fxP_ok h]
  refine list_ext_D (by rw [List.length_set, Yi, Yi]) fun j hj => ?_
  have hj : j < q.who.length := by rw [Yi] at hj; exact hj
  rw [wsP_get (p := (q.users, q.who, q.fixed.set ((i : Nat) : Int).toNat (u : Nat), q.rules, ())) hj, show ((wsP q).set i (1#64 <<< u)).getD j 0 = if j = i ∧ i < (wsP q).length then 1#64 <<< u else (wsP q).getD j 0 from getD_setL]
  show (if 0 ≤ (q.fixed.set ((i : Nat) : Int).toNat u).getD j 0 then 1#64 <<< ((q.fixed.set ((i : Nat) : Int).toNat u).getD j 0).toNat else q.who.getD j 0) = _
  by_cases e : j = i
  · have h3 : (q.fixed.set ((i : Nat) : Int).toNat (u : Nat)).getD j 0 = (u : Int) := by rw [Int.toNat_natCast, getD_setL, if_pos ⟨e, by omega⟩]
    rw [h3, if_pos (by omega), Int.toNat_natCast, if_pos ⟨e, by rw [Yi]; omega⟩]
  · have h3 : (q.fixed.set ((i : Nat) : Int).toNat (u : Nat)).getD j 0 = q.fixed.getD j 0 := by rw [Int.toNat_natCast, getD_setL, if_neg (fun e2 => e e2.1)]
    rw [h3, if_neg (c := j = i ∧ i < (wsP q).length) (fun e2 => e e2.1), wsP_get hj]; rfl
theorem wrd_free {q : Pb} {i : Nat} (h : q.fixed.getD i 0 < 0) : wrd q i = q.who.getD i 0 := by
  unfold wrd; rw [if_neg (by omega)]
theorem who_lt {q : Pb} {i u : Nat} (g : Go.V.Good q) (hi : i < q.who.length) (h : q.fixed.getD i 0 < 0) (hb : (q.who.getD i 0).getLsbD u = true) : (u : Int) < q.users := by
  have hm : myB q i (u : Nat) = true := by rw [myB_nat, wrd_free h]; exact hb
  exact (myB_in' g hi hm).2
theorem sumP_part {q : Pb} {i : Nat} (h : pck q = 0) (hi : i < q.who.length) (hf : q.fixed.getD i 0 < 0) : sumP q = sTo (fun u => sumP (fxP q (i : Nat) (u : Nat))) (q.who.getD i 0) q.users.toNat := by
  have g := pck_good.1 h
  have g2 := g.u64
  have hw : (wsP q).getD i 0 = q.who.getD i 0 := by rw [wsP_get hi, wrd_free hf]
  have hlt : ∀ a, (q.who.getD i 0).getLsbD a = true → a < q.users.toNat := fun a ha => by have := who_lt g hi hf ha; omega
  unfold sTo
  rw [plTo_all (by omega) hlt, sumP_ok h]
  have := toF_part (ws := wsP q) (rs := q.rules) (i := i) (by rw [Yi]; exact hi)
  rw [Yi, hw] at this
  rw [this]
  congr 1
  apply List.map_congr_left
  intro u hu
  have hE : fxE q (i : Nat) (u : Nat) = 0 := fxE_ok.2 ⟨g, by omega, by have := who_lt g hi hf (mem_pl.1 hu).2.2; omega⟩
  rw [sumP_ok (pck_good.2 (fx_good hE)), wsP_fx hE]
  rw [fxP_ok hE]
theorem sumP_fix {q : Pb} (h : pck q = 0) (hf : ∀ j, j < q.who.length → ¬ q.fixed.getD j 0 < 0) : sumP q ≤ 1 := by
  rw [sumP_ok h]
  have g := pck_good.1 h
  refine toF_le1 (f := fun i => (q.fixed.getD i 0).toNat) (fun i hi v hv => ?_) Pat_nil (by rw [Yi]; simp)
  rw [Yi] at hi
  have h0 := hf i hi
  have ok := (okW_in g hi).1
  rw [wsP_get hi] at hv
  unfold wrd at hv
  rw [if_pos (by omega)] at hv
  apply Decidable.byContradiction
  intro e
  rw [(one_bit (by have := g.u64; omega)).2 e] at hv; cases hv
theorem md_le {m : BitVec 64} : (m % 2000#64).toNat ≤ 65536 := by
  rw [BitVec.toNat_umod]
  have := Nat.mod_lt m.toNat (show 0 < 2000 by decide)
  show m.toNat % 2000 ≤ 65536; omega
theorem TallyAdds_walk {x : SW} (H : Zd) (p : Pb) (most : BitVec 64) (hu : -9223372036854775808 ≤ p.users ∧ p.users < 9223372036854775808) : F (psys x) 10 [.agg (pbB p), iW most] H fun v G => v = .bool true ∧ G = H := by
 have hL := fewP_L (m := 8) hu
 refine Zs Tryd.func10 rfl Zv rfl ?_
 refine Ze (Za ?_)
 refine Lo Zv (ZI rfl rfl rfl) ?_
 refine Lo Zv (Zg (VVal.bool false) (.inr rfl) rfl) ?_
 refine Zf (Zc (Ze ?_))
 refine Yv (Gh.freezePtrL (cs := pbB p) 2 0 rfl rfl rfl) ?_
 refine Za ?_
 refine Lo Zv (W4y rfl rfl rfl rfl rfl) ?_
 refine Zt rfl rfl rfl (by exact Few_spec _ p 8 hu) ?_
 rintro _ _ ⟨rfl, rfl⟩
 refine Le Zv ?_
 refine Lo Zv (ZF rfl rfl) ?_
 refine Lo Zv (W13 rfl rfl rfl rfl rfl rfl rfl) ?_
 refine Zf (Zc (Ze (Ze ?_)))
 refine Yv (Gh.freezePtrL (cs := pbB (Yr p 8)) 5 1 rfl rfl rfl) ?_
 refine Za ?_
 refine Lo Zv (W4y rfl rfl rfl rfl rfl) ?_
 refine Zt rfl rfl rfl (by exact Cut_few _ p 8) ?_
 rintro _ _ ⟨rfl, rfl⟩
 refine Le Zv ?_
 refine Zt rfl rfl rfl (by exact sCheck_spec _ (Yr p 8) hL) ?_
 rintro _ _ ⟨rfl, rfl⟩
 refine Le Zv ?_
 refine Lo Zv (rfl) ?_
 refine Zf (Zc ?_)
 refine Zk _ rfl (fun hc1 => ?_) (fun hc1 => ?_)
 ·try simp only [qB, qN] at hc1
  refine Ze (Za ?_)
  refine Lo Zv (W4y rfl rfl rfl rfl rfl) ?_
  refine Zt rfl rfl rfl (by exact Cut_few _ p 8) ?_
  rintro _ _ ⟨rfl, rfl⟩
  refine Le Zv ?_
  refine Lo Zv (Zb (.inl rfl) rfl) ?_
  refine Zt rfl rfl rfl (by exact tPlans_spec _ (Yr p 8) hL most) ?_
  rintro _ _ ⟨rfl, rfl⟩
  refine Le Zv ?_
  refine Lo Zv (v_is true rfl (by rw [sumP_no (by assumption), satW_0]; rfl)) ?_
  refine Lo Zv (Zb (.inl rfl) rfl) ?_
  refine Zt rfl rfl rfl (by exact twakes_spec _) ?_
  rintro _ _ ⟨rfl, rfl⟩
  refine Le Zv ?_
  refine Lo Zv (ZN rfl rfl rfl) ?_
  refine Lo Zv (Zb (.inr rfl) rfl) ?_
  refine Zf (Zc ?_)
  try refine B_heap (List.append_assoc _ _ _) ?_
  refine Zi (Zo ?_)
  refine W10 (.inr rfl) (Zh rfl rfl) ?_
  exact ⟨rfl, rfl⟩
 ·try simp only [qB, qN] at hc1
  refine Zl (Zc (Ze ?_))
  have h0 : pck (Yr p 8) = 0 := by first | assumption | simp_all
  have g := pck_good.1 h0
  have g5 := g.fx; have g2 := g.u64; have g4 := g.u0; have g1 := g.n12
  have hfl : (Yr p 8).fixed.length = (Yr p 8).who.length := g5
  refine Za ?_
  refine Lo Zv (Zg (VVal.int .i64 (-1)) (.inr rfl) rfl) ?_
  refine Zf (Zc (Ze (Ze (Za ?_))))
  refine Lo Zv (rfl) ?_
  refine Lo Zv (W51 rfl rfl rfl rfl) ?_
  refine Lo Zv (rfl) ?_
  refine Lo Zv (YL (v_subI rfl rfl rfl (by omega)) (show iI _ = iI ((((Yr p 8).who.length : Nat) : Int) - 1 - ((0 : Nat) : Int)) by congr 1; omega)) ?_
  refine Lo Zv (Zb (.inr rfl) rfl) ?_
  refine Zf (Zc (Zn ?_))
  refine ZB (mk 104 20282409603651670423947251285789) (env' := Zv) rfl ?_
  refine ZO (fun (d : Nat) => (Yr p 8).who.length - d) (fun (d : Nat) => [(6, iI (atF (Yr p 8).fixed d)), (7, iI ((((Yr p 8).who.length : Nat) : Int) - 1 - ((d : Nat) : Int)))]) (fun (d : Nat) G => (d ≤ (Yr p 8).who.length) ∧ G = H ++ [.dead, .dead]) 0 rfl ?_ ?_
  ·refine ⟨?_, rfl⟩
   exact Nat.zero_le _
  rintro d _ ⟨hd, rfl⟩
  refine Z6 (env' := Zv) rfl ?_
  refine Ze (Ze (Za ?_))
  refine Lo Zv (Zb (.inl rfl) rfl) ?_
  refine Lo Zv (rfl) ?_
  refine Zf (Zc ?_)
  refine Zk _ rfl (fun hc2 => ?_) (fun hc2 => ?_)
  ·try simp only [qB, qN] at hc2
   refine Zl (Zc (Ze (Zn (Ze ?_))))
   have hix : ((((Yr p 8).who.length : Nat) : Int) - 1 - (d : Nat)).toNat = (Yr p 8).fixed.length - 1 - d := by omega
   refine Za ?_
   refine Lo Zv (rfl) ?_
   refine Lo Zv (W51 rfl rfl rfl rfl) ?_
   refine Lo Zv (Zb (.inl rfl) rfl) ?_
   refine Lo Zv (W48 rfl rfl rfl rfl rfl rfl rfl) ?_
   refine Lo Zv (W51 rfl rfl rfl rfl) ?_
   refine Lo Zv (rfl) ?_
   refine Zf (Zc ?_)
   refine Zk _ rfl (fun hc3 => ?_) (fun hc3 => ?_)
   ·try simp only [qB, qN] at hc3
    rw [hix] at hc3
    refine Za ?_
    refine Lo Zv (Zb (.inl rfl) rfl) ?_
    refine Lo Zv (Zb (.inr rfl) rfl) ?_
    refine Zf (Zx (Zc (Za ?_)))
    refine Lo Zv (Zb (.inl rfl) rfl) ?_
    refine Lo Zv (YL (v_subI rfl rfl rfl (by omega)) (show iI _ = iI ((((Yr p 8).who.length : Nat) : Int) - 1 - ((d + 1 : Nat) : Int)) by congr 1; omega)) ?_
    refine Lo Zv (Zb (.inr rfl) rfl) ?_
    refine Zf ?_
    refine ZE (mk 104 20282409603651670423947251285789) (env' := Zv) rfl ⟨d + 1, ?_, XH24, ?_⟩
    ·first | omega | (simp only []; omega)
    ·exact ⟨by omega, rfl⟩
   ·try simp only [qB, qN] at hc3
    rw [hix] at hc3
    refine Zl (Zx (Zc (Za ?_)))
    refine Lo Zv (Zb (.inl rfl) rfl) ?_
    refine Lo Zv (YL (v_subI rfl rfl rfl (by omega)) (show iI _ = iI ((((Yr p 8).who.length : Nat) : Int) - 1 - ((d + 1 : Nat) : Int)) by congr 1; omega)) ?_
    refine Lo Zv (Zb (.inr rfl) rfl) ?_
    refine Zf ?_
    refine ZE (mk 104 20282409603651670423947251285789) (env' := Zv) rfl ⟨d + 1, ?_, XH24, ?_⟩
    ·first | omega | (simp only []; omega)
    ·exact ⟨by omega, rfl⟩
  ·try simp only [qB, qN] at hc2
   refine ZM (ZP (ZD (ZL (Zc (Ze ?_)))))
   obtain rfl : d = (Yr p 8).fixed.length := by omega
   refine Za ?_
   refine Lo Zv (Zb (.inl rfl) rfl) ?_
   refine Lo Zv (YL rfl (show _ = iW (most % 2000#64) from congrArg (VVal.int .u64) (by show ((most.toNat : Int).tmod 2000) = (((most % 2000#64)).toNat : Int); rw [BitVec.toNat_umod]; rfl))) ?_
   refine Lo Zv (Zb (.inr rfl) rfl) ?_
   refine Zf (Zc (Ze (Za ?_)))
   refine Lo Zv (W4y rfl rfl rfl rfl rfl) ?_
   refine Zt rfl rfl rfl (by exact Cut_few _ p 8) ?_
   rintro _ _ ⟨rfl, rfl⟩
   refine Le Zv ?_
   refine Lo Zv (Zb (.inl rfl) rfl) ?_
   refine Zt rfl rfl rfl (by exact tPlans_spec _ (Yr p 8) hL (most % 2000#64)) ?_
   rintro _ _ ⟨rfl, rfl⟩; rw [satW_self md_le]
   refine Le Zv ?_
   refine Lo Zv (Zb (.inr rfl) rfl) ?_
   refine Zf (Zc (Ze (Ze (Za ?_))))
   refine Lo Zv (Zb (.inl rfl) rfl) ?_
   refine Lo Zv (rfl) ?_
   refine Zf (Zc ?_)
   refine Zk _ rfl (fun hc4 => ?_) (fun hc4 => ?_)
   ·try simp only [qB, qN] at hc4
    refine Ze ?_
    have hone : sumP (Yr p 8) ≤ 1 := sumP_fix h0 fun j hj => at_none (by assumption) j (by omega)
    refine Za ?_
    refine Lo Zv (Zb (.inl rfl) rfl) ?_
    refine Lo Zv (v_is true rfl (decide_eq_true (by rw [Ya]; show ((_ : Nat) : Int) ≤ 1; omega))) ?_
    refine Lo Zv (Zb (.inl rfl) rfl) ?_
    refine Lo Zv (Zb (.inl rfl) rfl) ?_
    refine Lo Zv (Zb (.inl rfl) rfl) ?_
    refine Lo Zv (v_is true rfl (decide_eq_true (by rw [Ya]; omega))) ?_
    refine Lo Zv (ZN rfl rfl rfl) ?_
    refine Lo Zv (Zb (.inl rfl) rfl) ?_
    refine Zt rfl rfl rfl (by exact twakes_spec _) ?_
    rintro _ _ ⟨rfl, rfl⟩
    refine Le Zv ?_
    refine Lo Zv (ZN rfl rfl rfl) ?_
    refine Lo Zv (Zb (.inr rfl) rfl) ?_
    refine Zf (Zc ?_)
    try refine B_heap (List.append_assoc _ _ _) ?_
    refine Zi (Zo ?_)
    refine W10 (.inr rfl) (Zh rfl rfl) ?_
    exact ⟨rfl, rfl⟩
   ·try simp only [qB, qN] at hc4
    refine Zl (Zc (Ze ?_))
    obtain ⟨at9, hat1, hat2x, hat3⟩ := at_some (l := (Yr p 8).fixed) (by omega)
    have hat2 : at9 < (Yr p 8).who.length := by omega
    rw [hat1]
    have hpart := sumP_part h0 hat2 hat3
    refine Za ?_
    refine Lo Zv (Zg (VVal.int .u64 0) (.inr rfl) rfl) ?_
    refine Zf (Zc (Ze (Ze (Za ?_))))
    refine Lo Zv (Zg (VVal.int .i64 0) (.inr rfl) rfl) ?_
    refine Zf (Zc (Zn ?_))
    refine ZB (mk 104 20282409603651670423947251282079) (env' := Zv) rfl ?_
    refine ZO (fun (u : Nat) => (Yr p 8).users.toNat - u) (fun (u : Nat) => [(10, iW (ZK (most % 2000#64) (sTo (fun u => sumP (fxP (Yr p 8) (at9 : Nat) (u : Nat))) ((Yr p 8).who.getD at9 0) u))), (11, iI (u : Nat))]) (fun (u : Nat) G => (u ≤ (Yr p 8).users.toNat) ∧ ∃ X, G = (H ++ [.dead, .dead]) ++ X) 0 (by rw [sTo_0, satW_0]; rfl) ?_ ?_
    ·refine ⟨?_, ⟨[], (List.append_nil _).symm⟩⟩
     exact Nat.zero_le _
    rintro u _ ⟨hu8, ⟨X, rfl⟩⟩
    refine Z6 (env' := Zv) rfl ?_
    refine Ze (Ze (Za ?_))
    refine Lo Zv (Zb (.inl rfl) rfl) ?_
    refine Lo Zv (rfl) ?_
    refine Lo Zv (W51 rfl rfl rfl rfl) ?_
    refine Lo Zv (rfl) ?_
    refine Lo Zv (Zb (.inl rfl) rfl) ?_
    refine ZH 65 (env1 := Zv) (env2 := Zv) rfl rfl rfl (fun hg5 => ?_) (fun hg5 => ?_)
    ·try simp only [qB, qN] at hg5
     refine Lo Zv (Zb (.inl rfl) rfl) ?_
     refine Lo Zv (Zb (.inl rfl) rfl) ?_
     refine Lo Zv (rfl) ?_
     refine Lo Zv (ZN rfl rfl rfl) ?_
     refine Zf (Zc ?_)
     refine Zk _ rfl (fun hc6 => ?_) (fun hc6 => ?_)
     ·try simp only [qB, qN] at hc6
      refine Zl (Zc (Ze (Zn (Ze (Za ?_)))))
      refine Lo Zv (rfl) ?_
      refine Lo Zv (W51 rfl rfl rfl rfl) ?_
      refine Lo Zv (Zb (.inl rfl) rfl) ?_
      refine Lo Zv (W48 rfl rfl rfl rfl rfl rfl rfl) ?_
      refine Lo Zv (W51 rfl rfl rfl rfl) ?_
      refine Lo Zv (Zb (.inl rfl) rfl) ?_
      refine Lo Zv (v_shrW rfl rfl rfl XH1) ?_
      refine Lo Zv (v_andW (b := 1#64) rfl rfl rfl) ?_
      refine Lo Zv (YL rfl (congrArg VVal.bool sbB)) ?_
      refine Zf (Zc ?_)
      refine Zk _ rfl (fun hc7 => ?_) (fun hc7 => ?_)
      ·try simp only [qB, qN] at hc7
       refine Ze ?_
       have hbit : ((Yr p 8).who.getD at9 0).getLsbD u = true := by assumption
       have hE : fxE (Yr p 8) (at9 : Nat) (u : Nat) = 0 := fxE_ok.2 ⟨g, by omega, by omega⟩
       refine Za ?_
       refine Lo Zv (W4y rfl rfl rfl rfl rfl) ?_
       refine Zt rfl rfl rfl (by exact Cut_few _ p 8) ?_
       rintro _ _ ⟨rfl, rfl⟩
       refine Le Zv ?_
       refine Lo Zv (Zb (.inl rfl) rfl) ?_
       refine Lo Zv (Zb (.inl rfl) rfl) ?_
       refine Zt rfl rfl rfl (by exact Fix_spec _ (Yr p 8) (at9 : Nat) (u : Nat) hL) ?_
       rintro _ _ ⟨rfl, rfl⟩
       refine Le Zv ?_
       refine Lo Zv (Zb (.inl rfl) rfl) ?_
       refine Lo Zv (rfl) ?_
       refine Lo Zv (rfl) ?_
       refine Lo Zv (ZF rfl rfl) ?_
       refine Lo Zv (W13 rfl rfl rfl rfl rfl rfl rfl) ?_
       refine Lo Zv (Zb (.inr rfl) rfl) ?_
       refine Zf (Zc (Ze (Ze (Za ?_))))
       refine Lo Zv (Zb (.inl rfl) rfl) ?_
       refine Lo Zv (v_is false rfl (by rw [hE]; rfl)) ?_
       refine Zf (Zc ?_)
       refine Yp rfl rfl ?_
       refine Zl (Zc (Za ?_))
       refine Lo Zv (Zb (.inl rfl) rfl) ?_
       refine Lo Zv (W4y rfl rfl rfl rfl rfl) ?_
       refine Lo Zv (Zb (.inl rfl) rfl) ?_
       refine Lo Zv (Zb (.inl rfl) rfl) ?_
       refine Lo Zv (v_subW rfl rfl rfl) ?_
       refine Zt rfl rfl rfl (by exact tPlans_spec _ (fxP (Yr p 8) (at9 : Nat) (u : Nat)) (fxP_L hL) ((most % 2000#64) - ZK (most % 2000#64) (sTo (fun u => sumP (fxP (Yr p 8) (at9 : Nat) (u : Nat))) ((Yr p 8).who.getD at9 0) u))) ?_
       rintro _ _ ⟨rfl, rfl⟩
       refine Le Zv ?_
       refine Lo Zv (YL (v_addW rfl rfl rfl) (congrArg iW (show _ = ZK (most % 2000#64) (sTo (fun u => sumP (fxP (Yr p 8) (at9 : Nat) (u : Nat))) ((Yr p 8).who.getD at9 0) (u + 1)) by rw [sTo_yes hbit]; exact sat_more md_le))) ?_
       refine Lo Zv (Zb (.inr rfl) rfl) ?_
       refine Zf (Zx (Zc (Za ?_)))
       refine Lo Zv (Zb (.inl rfl) rfl) ?_
       refine Lo Zv (W14 rfl rfl rfl) ?_
       refine Lo Zv (Zb (.inr rfl) rfl) ?_
       refine Zf ?_
       refine ZE (mk 104 20282409603651670423947251282079) (env' := Zv) rfl ⟨u + 1, ?_, (by first | rfl | (rw [sTo_no (by simp_all)]; rfl)), ?_⟩
       ·first | omega | (simp only []; omega)
       ·exact ⟨by omega, _, by first | rfl | exact List.append_assoc _ _ _⟩
      ·try simp only [qB, qN] at hc7
       refine Zl (Zx (Zc (Za ?_)))
       refine Lo Zv (Zb (.inl rfl) rfl) ?_
       refine Lo Zv (W14 rfl rfl rfl) ?_
       refine Lo Zv (Zb (.inr rfl) rfl) ?_
       refine Zf ?_
       refine ZE (mk 104 20282409603651670423947251282079) (env' := Zv) rfl ⟨u + 1, ?_, (by first | rfl | (rw [sTo_no (by simp_all)]; rfl)), ?_⟩
       ·first | omega | (simp only []; omega)
       ·exact ⟨by omega, _, by first | rfl | exact List.append_assoc _ _ _⟩
     ·try simp only [qB, qN] at hc6
      refine ZM (ZP (ZD (ZL (Zc (Ze ?_)))))
      have hfin : ZK (most % 2000#64) (sumP (Yr p 8)) = ZK (most % 2000#64) (sTo (fun u => sumP (fxP (Yr p 8) (at9 : Nat) (u : Nat))) ((Yr p 8).who.getD at9 0) u) := by rw [hpart]; exact sTo_fin (by omega) (by omega)
      refine Za ?_
      refine Lo Zv (Zb (.inl rfl) rfl) ?_
      refine Lo Zv (Zb (.inl rfl) rfl) ?_
      refine Lo Zv (v_is true rfl (by rw [hfin]; simp)) ?_
      refine Lo Zv (Zb (.inl rfl) rfl) ?_
      refine Zt rfl rfl rfl (by exact twakes_spec _) ?_
      rintro _ _ ⟨rfl, rfl⟩
      refine Le Zv ?_
      refine Lo Zv (ZN rfl rfl rfl) ?_
      refine Lo Zv (Zb (.inr rfl) rfl) ?_
      refine Zf (Zc ?_)
      try refine B_heap (List.append_assoc _ _ _) ?_
      refine Zi ?_
      refine W10 (.inr rfl) (Zh rfl rfl) ?_
      exact ⟨rfl, rfl⟩
    ·try simp only [qB, qN] at hg5
     refine Lf Zv ?_
     refine Lf Zv ?_
     refine Lf Zv ?_
     refine Lo Zv (ZC (VVal.bool false) rfl rfl rfl) ?_
     refine Zf (Zc ?_)
     refine Yp rfl rfl ?_
     refine ZM (ZP (ZD (ZL (Zc (Ze ?_)))))
     have hfin : ZK (most % 2000#64) (sumP (Yr p 8)) = ZK (most % 2000#64) (sTo (fun u => sumP (fxP (Yr p 8) (at9 : Nat) (u : Nat))) ((Yr p 8).who.getD at9 0) u) := by rw [hpart]; exact sTo_fin (by omega) (by omega)
     refine Za ?_
     refine Lo Zv (Zb (.inl rfl) rfl) ?_
     refine Lo Zv (Zb (.inl rfl) rfl) ?_
     refine Lo Zv (v_is true rfl (by rw [hfin]; simp)) ?_
     refine Lo Zv (Zb (.inl rfl) rfl) ?_
     refine Zt rfl rfl rfl (by exact twakes_spec _) ?_
     rintro _ _ ⟨rfl, rfl⟩
     refine Le Zv ?_
     refine Lo Zv (ZN rfl rfl rfl) ?_
     refine Lo Zv (Zb (.inr rfl) rfl) ?_
     refine Zf (Zc ?_)
     try refine B_heap (List.append_assoc _ _ _) ?_
     refine Zi ?_
     refine W10 (.inr rfl) (Zh rfl rfl) ?_
     exact ⟨rfl, rfl⟩
theorem TallyAdds_law {x : SW} (p : Pb) (most : BitVec 64) (hu : -9223372036854775808 ≤ p.users ∧ p.users < 9223372036854775808) : F (psys x) 10 [.agg (pbB p), iW most] [] fun v G => v = .bool true := (TallyAdds_walk [] p most hu).mono fun v G h => h.1
end Go.Proofs.YtenkjadobkjaeaaDoor.VT
