/- Proved: Rows.SolveGaugeCardSaid, the statement SolveGauge with its card, of the given program at the commit; no conditions beyond those in the statement. -/
import Derived.Test.YtenkjadobkjaeaaDoorC8x16
import Derived.Test.YtenkjadobkjaeaaDoorRows
import Derived.LaidMore
import Derived.Stop.Joined
set_option autoImplicit false
set_option linter.unusedVariables false
set_option maxRecDepth 100000
namespace Go.Proofs.YtenkjadobkjaeaaDoor.VT
open Go Go.V Go.RowKit Go.Shelf Go.ChangeShapes Go.WideShapes Go.ChangeAt Go.WideMaps Go.WideElems
theorem own : ownKnob Tryd.prog.godebug = none := by kernel_rfl
theorem laidOut : laidOutB Tryd.prog = true := by kernel_rfl
theorem gTab : Tryd.prog.globalNamed "math/bits.deBruijn64tab" = some 0 := by kernel_rfl
theorem tTab : (Tryd.prog.globals[0]?).map (·.type) = some 162 := by kernel_rfl
abbrev laidL : List (String × DataW Unit) := [("math/bits.deBruijn64tab", Rows.laid_math_bits_deBruijn64tab)]
theorem door_met (os : Os) (args : Array Value) : laidMetH Tryd.prog laidL ((World.doorLaid Tryd.prog 400 os).forCall (fun _ _ => 0) ⟨#[], args, []⟩).memory :=
  laidMetH_of_parts3 (fuel := 8) (laidMet_of_run' 8 XH2 XH2) XH2 XH2
theorem laid_tab : (Rows.laid_math_bits_deBruijn64tab : DataW Unit) = .agg (Lib.deBruijn64tab.map fun n : Nat => .lit (.int .u8 (n : Int))) := by kernel_rfl
theorem of_laid {W : World} (h : laidMetH Tryd.prog laidL W) : 0 < W.heap.size ∧ TabAt 0 Lib.deBruijn64tab W := by
  rw [MakeChecks.laidMetH_plain _ _ _ XH2] at h
  obtain ⟨ps, ⟨g0, t0, cs0, f0, p0, q0, hg0, ht0, hv0, hd0, _, _⟩, _, _⟩ := h
  obtain rfl := Option.some.inj (gTab.symm.trans hg0)
  obtain rfl := Option.some.inj (tTab.symm.trans ht0)
  obtain ⟨xs, m, rfl, hx, hlen, hn, hel⟩ := DataW.trod_array Tryd.underlying162 hd0
  have c5 : Tryd.prog.cellsOf 5 = 1 := by kernel_rfl
  rw [c5] at hel
  simp only [Prod.mk.injEq] at hx
  have hx1 := hx.1
  rw [laid_tab] at hx1
  simp only [DataW.agg.injEq] at hx1
  have key : TabAt 0 Lib.deBruijn64tab W := by
    intro j hj
    have hj' : j < 64 := hj
    have h1 := hel j hj'
    have hxl : j < xs.length := by rw [hn]; exact hj'
    have hxj : xs[j]? = some xs[j] := by simp [hxl]
    rw [hxj] at h1
    obtain ⟨n, e1, e2, _⟩ := DataW.trod_int Tryd.underlying5 h1
    have h2 : (xs.map (·.1))[j]? = (Lib.deBruijn64tab.map fun n : Nat => (DataW.lit (.int .u8 (n : Int)) : DataW Unit))[j]? := by rw [← hx1]
    rw [List.getElem?_map, List.getElem?_map, hxj] at h2
    have hjl : j < Lib.deBruijn64tab.length := hj
    rw [List.getElem?_eq_getElem hjl] at h2
    simp only [Option.map_some, Option.some.injEq] at h2
    rw [e2] at h2
    simp only [DataW.lit.injEq, Lit.int.injEq, true_and] at h2
    have h3 := World.var?_cell hg0 hv0 j
    have h4 : cs0[j]? = some (.int .u8 n) := by
      have : cs0.toList[j]? = some (.int .u8 n) := by
        rw [← List.head?_drop]
        rw [Nat.mul_one] at e1
        cases hd : cs0.toList.drop j with
        | nil => rw [hd] at e1; simp at e1
        | cons c r => rw [hd] at e1; simp at e1; rw [e1]; rfl
      simpa using this
    rw [h4] at h3
    rw [h3, h2]
    simp [List.getD_eq_getElem?_getD, hjl]
  refine ⟨?_, key⟩
  have h0 := key 0 (by decide)
  simp only [World.cell?] at h0
  split at h0
  · rename_i hh; exact (Array.getElem?_eq_some_iff.1 hh).1
  · cases h0
def sw {W : World} (h : laidMetH Tryd.prog laidL W) : SW := ⟨W, (of_laid h).1, (of_laid h).2⟩
open Go Go.V Go.RowKit Go.ChangeShapes
abbrev T3 : Type := Int
abbrev e3 : T3 → List VVal := fun x => [iI x]
abbrev k3 : T3 → Prop := fun n => -9223372036854775808 ≤ n ∧ n < 9223372036854775808
theorem op3 : Opens Tryd.prog 3 T3 e3 k3 := Opens.int Tryd.underlying3 XH2
abbrev T35 : Type := BitVec 64
abbrev e35 : T35 → List VVal := fun x => [iW x]
abbrev k35 : T35 → Prop := fun _ => True
theorem op35 : Opens Tryd.prog 35 T35 e35 k35 := Opens.word Tryd.underlying35 XH2
abbrev T22 : Type := List T35
abbrev e22 : T22 → List VVal := fun x => [(fun l : List T35 => VVal.fsl (l.map iW) l.length 1 false) x]
abbrev k22 : T22 → Prop := fun l => l.length * 8 ≤ 140737488351232 ∧ ∀ x, x ∈ l → k35 x
theorem op22 : Opens Tryd.prog 22 T22 e22 k22 := Opens.slice1 (g := iW) 8 op35 Tryd.underlying22 XH2 XH2 XH2
abbrev T23 : Type := List T3
abbrev e23 : T23 → List VVal := fun x => [(fun l : List T3 => VVal.fsl (l.map iI) l.length 1 false) x]
abbrev k23 : T23 → Prop := fun l => l.length * 8 ≤ 140737488351232 ∧ ∀ x, x ∈ l → k3 x
theorem op23 : Opens Tryd.prog 23 T23 e23 k23 := Opens.slice1 (g := iI) 8 op3 Tryd.underlying23 XH2 XH2 XH2
abbrev T71 : Type := T3 × T3 × T23 × Unit
abbrev e71 : T71 → List VVal := fun x => e3 (x.1) ++ (e3 (x.2.1) ++ (e23 (x.2.2.1) ++ ([])))
abbrev k71 : T71 → Prop := fun x => k3 (x.1) ∧ (k3 (x.2.1) ∧ (k23 (x.2.2.1) ∧ (True)))
theorem op71 : Opens Tryd.prog 71 T71 e71 k71 := Opens.struct Tryd.underlying71 (.cons op3 XH2 (.cons op3 XH2 (.cons op23 XH2 (.nil _)))) (fun a => by kernel_rfl)
abbrev T24 : Type := List T71
abbrev e24 : T24 → List VVal := fun x => [(fun l : List T71 => VVal.fsl (l.flatMap e71) l.length 3 false) x]
abbrev k24 : T24 → Prop := fun l => l.length * 40 ≤ 140737488351232 ∧ ∀ x, x ∈ l → k71 x
theorem op24 : Opens Tryd.prog 24 T24 e24 k24 := Opens.slice 3 40 op71 Tryd.underlying24 XH2 XH2 XH2 (by decide)
abbrev T26 : Type := T3 × T22 × T23 × T24 × Unit
abbrev e26 : T26 → List VVal := fun x => e3 (x.1) ++ (e22 (x.2.1) ++ (e23 (x.2.2.1) ++ (e24 (x.2.2.2.1) ++ ([]))))
abbrev k26 : T26 → Prop := fun x => k3 (x.1) ∧ (k22 (x.2.1) ∧ (k23 (x.2.2.1) ∧ (k24 (x.2.2.2.1) ∧ (True))))
theorem op26 : Opens Tryd.prog 26 T26 e26 k26 := Opens.struct Tryd.underlying26 (.cons op3 XH2 (.cons op22 XH2 (.cons op23 XH2 (.cons op24 XH2 (.nil _))))) (fun a => by kernel_rfl)
abbrev T42 : Type := List T26
abbrev e42 : T42 → List VVal := fun x => [(fun l : List T26 => VVal.fsl (l.flatMap e26) l.length 4 false) x]
abbrev k42 : T42 → Prop := fun l => l.length * 80 ≤ 140737488351232 ∧ ∀ x, x ∈ l → k26 x
theorem op42 : Opens Tryd.prog 42 T42 e42 k42 := Opens.slice 4 80 op26 Tryd.underlying42 XH2 XH2 XH2 (by decide)
set_option linter.unusedSimpArgs false
set_option maxHeartbeats 4000000
open Go Go.V Go.RowKit
abbrev u11 {a0 a1 a2 a3 a4 a5 a6 a7 a8 a9 a10 : VVal} : VEnv := a0 :: a1 :: a2 :: a3 :: a4 :: a5 :: a6 :: a7 :: a8 :: a9 :: a10 :: []
abbrev u97 {a0 a1 a2 a3 a4 a5 a6 a7 a8 a9 a10 a11 a12 a13 a14 a15 a16 a17 a18 a19 a20 a21 a22 a23 a24 a25 a26 a27 a28 a29 a30 a31 a32 a33 a34 a35 a36 a37 a38 a39 a40 a41 a42 a43 a44 a45 a46 a47 a48 a49 a50 a51 a52 a53 a54 a55 a56 a57 a58 a59 a60 a61 a62 a63 a64 a65 a66 a67 a68 a69 a70 a71 a72 a73 a74 a75 a76 a77 a78 a79 a80 a81 a82 a83 a84 a85 a86 a87 a88 a89 a90 a91 a92 a93 a94 a95 a96 : VVal} : VEnv := a0 :: a1 :: a2 :: a3 :: a4 :: a5 :: a6 :: a7 :: a8 :: a9 :: a10 :: a11 :: a12 :: a13 :: a14 :: a15 :: a16 :: a17 :: a18 :: a19 :: a20 :: a21 :: a22 :: a23 :: a24 :: a25 :: a26 :: a27 :: a28 :: a29 :: a30 :: a31 :: a32 :: a33 :: a34 :: a35 :: a36 :: a37 :: a38 :: a39 :: a40 :: a41 :: a42 :: a43 :: a44 :: a45 :: a46 :: a47 :: a48 :: a49 :: a50 :: a51 :: a52 :: a53 :: a54 :: a55 :: a56 :: a57 :: a58 :: a59 :: a60 :: a61 :: a62 :: a63 :: a64 :: a65 :: a66 :: a67 :: a68 :: a69 :: a70 :: a71 :: a72 :: a73 :: a74 :: a75 :: a76 :: a77 :: a78 :: a79 :: a80 :: a81 :: a82 :: a83 :: a84 :: a85 :: a86 :: a87 :: a88 :: a89 :: a90 :: a91 :: a92 :: a93 :: a94 :: a95 :: a96 :: []
theorem W5v {T : TypeId → Option VTy} {H : Zd} {op : Op} {ρ : Operand → VVal} {t : TypeId} {a : Operand} {y : VTy} {p : VVal} {n : Nat} {vs : List VVal} (ho : op = .load t a) (ha : ρ a = p) (hy : T t = some y) (hd : Zk y.desc = true) (hn : y.size = n) (h : LdOkA H p n vs := by first | exact .inl ⟨_, _, rfl, by exact pbs_at (by omega)⟩ | exact .inr ⟨_, _, _, _, rfl, XH23, by exact pbs_at (by omega)⟩) : vop T ρ H op = some (.agg vs, H) := v_ldA ho ha hy hd hn h
theorem gsum_spec {x : SW} (H : Zd) (a b c : Nat) : F (psys x) 27 [.agg [iN a, iN b, iN c]] H fun v G => v = iN (a + b + c) ∧ G = H := by
 refine Zs Tryd.func27 rfl u11 rfl ?_
 refine Ze (Za ?_)
 refine Lo u11 (Zw rfl rfl rfl) ?_
 refine Lo u11 (Zh (VVal.int .u64 0) (.inr rfl) rfl) ?_
 refine Zf (Zc (Ze (Za ?_)))
 refine Lo u11 (rfl) ?_
 refine Lo u11 (W12 rfl rfl rfl rfl) ?_
 refine Lo u11 (rfl) ?_
 refine Lo u11 (W12 rfl rfl rfl rfl) ?_
 refine Lo u11 (v_addW rfl rfl rfl) ?_
 refine Lo u11 (rfl) ?_
 refine Lo u11 (W12 rfl rfl rfl rfl) ?_
 refine Lo u11 (v_addW rfl rfl rfl) ?_
 refine Lo u11 (Zb (.inr rfl) rfl) ?_
 refine Zf (Zc (Zj ?_))
 refine W10 (.inr rfl) (Zg rfl rfl) ?_
 exact ⟨by rw [iN_add, iN_add], rfl⟩
theorem SolveGauge_walk {x : SW} (H : Zd) (l : List Pb) (hu : ∀ p : Pb, p ∈ l → -9223372036854775808 ≤ p.users ∧ p.users < 9223372036854775808) : F (psys x) 5 [VVal.fsl (l.flatMap pbB) l.length 4 false] H fun v G => v = .bool true ∧ G = H := by
 refine Zs Tryd.func5 rfl u97 rfl ?_
 refine Ze (Za ?_)
 refine Lo u97 (Zh (VVal.bool false) (.inr rfl) rfl) ?_
 refine Zf (Zc (Ze (Za ?_)))
 refine Zt rfl rfl rfl (by exact sNew_spec _) ?_
 rintro _ _ ⟨rfl, rfl⟩; rw [List.append_nil]
 refine Le u97 ?_
 refine Lo u97 (Zb (.inr rfl) rfl) ?_
 refine Zf (Zc (Ze (Za ?_)))
 refine Zt rfl rfl rfl (by exact sNew_spec _) ?_
 rintro _ _ ⟨rfl, rfl⟩; rw [List.append_assoc, List.length_append]
 refine Le u97 ?_
 refine Lo u97 (Zb (.inr rfl) rfl) ?_
 refine Zf (Zc (Ze (Ze (Za ?_))))
 refine Lo u97 (Zb (.inl rfl) rfl) ?_
 refine Lo u97 (v_is false rfl rfl) ?_
 refine Lo u97 (Zb (.inl rfl) rfl) ?_
 refine Lo u97 (Zb (.inl rfl) rfl) ?_
 refine Lo u97 (v_is false rfl rfl) ?_
 refine Lo u97 (ZF rfl rfl rfl) ?_
 refine Lo u97 (Zb (.inl rfl) rfl) ?_
 refine Zt rfl rfl rfl (by exact wakes_spec _) ?_
 rintro _ _ ⟨rfl, rfl⟩
 refine Le u97 ?_
 refine Lo u97 (rfl) ?_
 refine Lo u97 (ZF rfl rfl rfl) ?_
 refine Zf (Zc ?_)
 refine Z4 rfl rfl ?_
 refine Zl (Zc ?_)
 refine B_seqJ (mk 97 158456325028528675187087900655) (fun (u0 : Unit) => []) (fun (u0 : Unit) G => (True) ∧ ∃ X g, G = (H ++ [gaB g, gaB 0]) ++ X) ?_ ?_
 ·skip
  refine Ze (Za ?_)
  refine Lo u97 (Zh (VVal.int .i64 0) (.inr rfl) rfl) ?_
  refine Zf (Zc (Zo ?_))
  refine ZJ (mk 97 158456325028528675187087900614) (env' := u97) rfl ?_
  refine ZN (fun (i : Nat) => 20 - i) (fun (i : Nat) => [(5, iI (i : Nat))]) (fun (i : Nat) G => (i ≤ 20 ∧ i ≤ l.length) ∧ ∃ X g, G = (H ++ [gaB g, gaB 0]) ++ X ∧ Gz.t g ≤ i * 12000000000) 0 rfl ?_ ?_
  ·refine ⟨?_, ⟨[], 0, by rw [List.append_nil]; rfl, Nat.zero_le _⟩⟩
   exact ⟨Nat.zero_le _, Nat.zero_le _⟩
  rintro i _ ⟨⟨hi, hil⟩, ⟨X, g, rfl, hg0⟩⟩
  refine ZZ (env' := u97) rfl ?_
  refine Ze (Ze (Za ?_))
  refine Lo u97 (Zb (.inl rfl) rfl) ?_
  refine Lo u97 (Zb (.inl rfl) rfl) ?_
  refine Lo u97 (rfl) ?_
  refine Lo u97 (rfl) ?_
  refine Lo u97 (Zb (.inl rfl) rfl) ?_
  refine Zx 27 (env1 := u97) (env2 := u97) rfl rfl rfl (fun hg1 => ?_) (fun hg1 => ?_)
  ·try simp only [qB, qN] at hg1
   refine Lo u97 (Zb (.inl rfl) rfl) ?_
   refine Lo u97 (rfl) ?_
   refine Lo u97 (ZE rfl rfl rfl) ?_
   refine Zf (Zc ?_)
   refine Zm _ rfl (fun hc2 => ?_) (fun hc2 => ?_)
   ·try simp only [qB, qN] at hc2
    refine Zl (Zc (Ze (Zo (Ze ?_))))
    have hi9 : i < l.length := by omega
    have hu1 := hu (l.getD i pb0) (pbs_mem hi9)
    have hL := fewP_L (m := 9) hu1
    refine Za ?_
    refine Lo u97 (Zb (.inl rfl) rfl) ?_
    refine Lo u97 (Zb (.inl rfl) rfl) ?_
    refine Lo u97 (W18 rfl rfl rfl rfl rfl rfl rfl) ?_
    refine Lo u97 (W5v rfl rfl rfl rfl rfl) ?_
    refine Zt rfl rfl rfl (by exact Few_spec _ (l.getD i pb0) 9 hu1) ?_
    rintro _ _ ⟨rfl, rfl⟩
    refine Le u97 ?_
    refine Lo u97 (ZH rfl rfl) ?_
    refine Lo u97 (W13 rfl rfl rfl rfl rfl rfl rfl) ?_
    refine Zf (Zc (Ze ?_))
    refine Yy (Gh.freezeEnd (B0 := (H ++ [gaB g, gaB 0])) (X := X) (cs := pbB (Yg (l.getD i pb0) 9)) 6 rfl rfl) ?_
    refine Za ?_
    refine Lo u97 (Zh (VVal.int .u64 0) (.inr rfl) rfl) ?_
    refine Zf (Zc (Ze (Ze (Za ?_))))
    refine Lo u97 (W2o rfl rfl rfl rfl rfl) ?_
    refine Zt rfl rfl rfl (by exact fpCheck_spec _ (Yg (l.getD i pb0) 9) hL) ?_
    rintro _ _ ⟨rfl, rfl⟩
    refine Le u97 ?_
    refine Lo u97 (rfl) ?_
    refine Zf (Zc ?_)
    refine Zm _ rfl (fun hc3 => ?_) (fun hc3 => ?_)
    ·try simp only [qB, qN] at hc3
     have h0 : pck (Yg (l.getD i pb0) 9) = 0 := by first | assumption | simp_all
     have gq := pck_good.1 h0
     have q2 := gq.u64; have q4 := gq.u0; have q5 := gq.n12
     have q9 : (Yg (l.getD i pb0) 9).who.length ≤ 9 := by show (List.take 9 _).length ≤ 9; rw [List.length_take]; omega
     have hle := leG_le h0 q9
     have hbg := bo_big (n := (Yg (l.getD i pb0) 9).who.length) (U := (Yg (l.getD i pb0) 9).users.toNat) q9 (by omega)
     refine Za ?_
     refine Lo u97 (rfl) ?_
     refine Lo u97 (W2q rfl rfl rfl rfl) ?_
     refine Lo u97 (rfl) ?_
     refine Lo u97 (rfl) ?_
     refine Lo u97 (W2q rfl rfl rfl rfl) ?_
     refine Zt rfl rfl rfl (by have hB := Bound_spec (x := x) (((H ++ [gaB g, gaB 0])) ++ (X ++ [VBlk.dead])) (Yg (l.getD i pb0) 9).who.length (Yg (l.getD i pb0) 9).users.toNat (by omega) (by omega); rw [Int.toNat_of_nonneg q4] at hB; exact hB) ?_
     rintro _ _ ⟨rfl, rfl⟩
     refine Le u97 ?_
     refine Lo u97 (Zb (.inr rfl) rfl) ?_
     refine Zf (Zc (Ze ?_))
     first | (have hle2 : (leG (Yg (l.getD i pb0) 9)).t ≤ 6000000000 := Nat.le_trans hle hbg) | (have hle0 : (leG (Yg (l.getD i pb0) 9)).t = 0 := by (have h0 : ¬ pck (Yg (l.getD i pb0) 9) = 0 := by first | assumption | simp_all); unfold leG; rw [if_neg h0]; rfl)
     refine Za ?_
     refine Lo u97 (Zh (VVal.int .i64 0) (.inr rfl) rfl) ?_
     refine Zf (Zc (Zo ?_))
     refine ZJ (mk 97 158456325028528675187087900166) (env' := u97) rfl ?_
     refine ZN (fun (k : Nat) => 2 - k) (fun (k : Nat) => [(8, iI (k : Nat))]) (fun (k : Nat) G => (k ≤ 2) ∧ ∃ X g, G = (H ++ [gaB g, gaB 0]) ++ X ∧ Gz.t g ≤ i * 12000000000 + k * 6000000000) 0 rfl ?_ ?_
     ·refine ⟨?_, ⟨_, g, rfl, Nat.le_trans hg0 (Nat.le_add_right _ _)⟩⟩
      exact Nat.zero_le _
     rintro k _ ⟨hk, ⟨X, g, rfl, hg0⟩⟩
     refine ZZ (env' := u97) rfl ?_
     refine Ze (Ze (Za ?_))
     refine Lo u97 (Zb (.inl rfl) rfl) ?_
     refine Lo u97 (rfl) ?_
     refine Zf (Zc ?_)
     refine Zm _ rfl (fun hc4 => ?_) (fun hc4 => ?_)
     ·try simp only [qB, qN] at hc4
      refine Zl (Zc (Ze (Zo (Ze (Za ?_)))))
      refine Lo u97 (Zb (.inl rfl) rfl) ?_
      refine Zt rfl rfl rfl (by exact Gauge_g) ?_
      rintro _ _ ⟨rfl, rfl⟩
      refine Le u97 ?_
      refine Lo u97 (ZH rfl rfl) ?_
      refine Lo u97 (W13 rfl rfl rfl rfl rfl rfl rfl) ?_
      refine Zf (Zc (Ze (Ze ?_)))
      refine Yy (Gh.freezeEnd (B0 := (H ++ [gaB g, gaB 0])) (X := X) (cs := [iN g.n, iN g.p, iN g.e]) 9 rfl rfl) ?_
      refine Za ?_
      refine Lo u97 (Zb (.inl rfl) rfl) ?_
      refine Lo u97 (rfl) ?_
      refine Zf (Zc ?_)
      refine Zm _ rfl (fun hc5 => ?_) (fun hc5 => ?_)
      ·try simp only [qB, qN] at hc5
       refine Za ?_
       refine Lo u97 (Zb (.inl rfl) rfl) ?_
       refine Lo u97 (W2o rfl rfl rfl rfl rfl) ?_
       refine Zt rfl rfl rfl (by exact Cut_few _ (l.getD i pb0) 9) ?_
       rintro _ _ ⟨rfl, rfl⟩
       refine Le u97 ?_
       refine Zt rfl rfl rfl (by exact Can_g g (Yg (l.getD i pb0) 9) hL) ?_
       rintro _ _ ⟨rfl, rfl⟩
       refine Le u97 ?_
       refine Zf (Zc (Ze (Za ?_)))
       refine Lo u97 (Zb (.inl rfl) rfl) ?_
       refine Zt rfl rfl rfl (by exact Gauge_g) ?_
       rintro _ _ ⟨rfl, rfl⟩
       refine Le u97 ?_
       refine Lo u97 (ZH rfl rfl) ?_
       refine Lo u97 (W13 rfl rfl rfl rfl rfl rfl rfl) ?_
       refine Zf (Zc (Ze ?_))
       refine Yy (Gh.freezeEnd (B0 := (H ++ [gaB (g + leG (Yg (l.getD i pb0) 9)), gaB 0])) (X := X ++ [VBlk.dead]) (cs := [iN (g + leG (Yg (l.getD i pb0) 9)).n, iN (g + leG (Yg (l.getD i pb0) 9)).p, iN (g + leG (Yg (l.getD i pb0) 9)).e]) 10 rfl rfl) ?_
       have hgt := hg0
       unfold Gz.t at hgt
       have hlt : (leG (Yg (l.getD i pb0) 9)).n + (leG (Yg (l.getD i pb0) 9)).p + (leG (Yg (l.getD i pb0) 9)).e ≤ 6000000000 := by first | exact hle2 | (unfold Gz.t at hle0; omega)
       refine ZV [0, 1, 2, 3, 4, 5, 6, 7, 8, 9, 10, 11, 12, 13, 14, 15, 16, 17, 18, 19, 20, 22, 25, 21, 23, 24, 26, 27] #[0, 1, 0, 4, 15, 31, 63, 127, 63, 319, 1023, 2047, 4095, 8191, 16383, 8191, 40959, 131071, 262143, 524287, 1048575, 2097151, 1048575, 8388607, 16777215, 1048575, 67108863, 134217727] XH2 XH2 XH2 ?_
       refine Oo u97 .calm rfl (rfl) ?_
       refine Oo u97 .look rfl (W2q rfl rfl rfl rfl) ?_
       refine Oo u97 .calm rfl (rfl) ?_
       refine Oo u97 .look rfl (W2q rfl rfl rfl rfl) ?_
       refine Oo u97 .calm rfl (v_is false rfl (lt_no (Nat.le_add_right _ _) (by rw [Gz.add_n]; omega))) ?_
       refine Oo u97 .calm rfl (Zb (.inl rfl) rfl) ?_
       refine Oo u97 .calm rfl (rfl) ?_
       refine Oo u97 .look rfl (W2q rfl rfl rfl rfl) ?_
       refine Oo u97 .calm rfl (rfl) ?_
       refine Oo u97 .look rfl (W2q rfl rfl rfl rfl) ?_
       refine Oo u97 .calm rfl (v_is false rfl (lt_no (Nat.le_add_right _ _) (by rw [Gz.add_p]; omega))) ?_
       refine Oo u97 .calm rfl (ZF rfl rfl rfl) ?_
       refine Oo u97 .calm rfl (Zb (.inl rfl) rfl) ?_
       refine Oo u97 .calm rfl (rfl) ?_
       refine Oo u97 .look rfl (W2q rfl rfl rfl rfl) ?_
       refine Oo u97 .calm rfl (rfl) ?_
       refine Oo u97 .look rfl (W2q rfl rfl rfl rfl) ?_
       refine Oo u97 .calm rfl (v_is false rfl (lt_no (Nat.le_add_right _ _) (by rw [Gz.add_e]; omega))) ?_
       refine Oo u97 .calm rfl (ZF rfl rfl rfl) ?_
       refine Oo u97 .calm rfl (Zb (.inl rfl) rfl) ?_
       refine Oo u97 .look rfl (W2o rfl rfl rfl rfl rfl) ?_
       refine Ye (env' := u97) (x := .look _ _) rfl rfl rfl (W2o rfl rfl rfl rfl rfl) rfl rfl rfl ?_
       refine Oo u97 .calm rfl (Zb (.inl rfl) rfl) ?_
       refine ZX (env' := u97) rfl rfl rfl rfl rfl XH11 XH7 rfl rfl ?_
       refine ZX (env' := u97) rfl rfl rfl rfl rfl (by exact gsum_spec _ g.n g.p g.e) XH7 rfl rfl ?_
       refine Oo u97 .calm rfl (v_subW rfl rfl rfl) ?_
       refine Oo u97 .calm rfl (v_is false rfl XH8) ?_
       refine Oo u97 .calm rfl (ZF rfl rfl rfl) ?_
       refine O_nilP [(21, 23)] XH2 (And.intro ⟨_, _, _, _, ⟨(gA (gA (gA (gA (gA (gA (gL XH2))))))), (gA (gA (gA (gA (gL XH2))))), And.intro (W2o rfl rfl rfl rfl rfl) (W2o rfl rfl rfl rfl rfl)⟩⟩ (trivial)) ?_
       refine Zc ?_
       refine Z4 rfl rfl ?_
       refine Zl (Zy (Zc (Za ?_)))
       refine Lo u97 (Zb (.inl rfl) rfl) ?_
       refine Lo u97 (W14 rfl rfl rfl) ?_
       refine Lo u97 (Zb (.inr rfl) rfl) ?_
       refine Zf ?_
       refine ZD (mk 97 158456325028528675187087900166) (env' := u97) rfl ⟨k + 1, ?_, rfl, ?_⟩
       ·first | omega | (simp only []; omega)
       ·exact ⟨by omega, _, _, rfl, by rw [Gz.t_add]; first | omega | (have := hle2; omega)⟩
      ·try simp only [qB, qN] at hc5
       refine Za ?_
       refine Lo u97 (Zb (.inl rfl) rfl) ?_
       refine Lo u97 (W2o rfl rfl rfl rfl rfl) ?_
       refine Zt rfl rfl rfl (by exact Cut_few _ (l.getD i pb0) 9) ?_
       rintro _ _ ⟨rfl, rfl⟩
       refine Le u97 ?_
       refine Zt rfl rfl rfl (by exact Least_g g (Yg (l.getD i pb0) 9) hL) ?_
       rintro _ _ ⟨rfl, rfl⟩
       refine Le u97 ?_
       refine Zf (Zc (Ze (Za ?_)))
       refine Lo u97 (Zb (.inl rfl) rfl) ?_
       refine Zt rfl rfl rfl (by exact Gauge_g) ?_
       rintro _ _ ⟨rfl, rfl⟩
       refine Le u97 ?_
       refine Lo u97 (ZH rfl rfl) ?_
       refine Lo u97 (W13 rfl rfl rfl rfl rfl rfl rfl) ?_
       refine Zf (Zc (Ze ?_))
       refine Yy (Gh.freezeEnd (B0 := (H ++ [gaB (g + leG (Yg (l.getD i pb0) 9)), gaB 0])) (X := X ++ [VBlk.dead]) (cs := [iN (g + leG (Yg (l.getD i pb0) 9)).n, iN (g + leG (Yg (l.getD i pb0) 9)).p, iN (g + leG (Yg (l.getD i pb0) 9)).e]) 10 rfl rfl) ?_
       have hgt := hg0
       unfold Gz.t at hgt
       have hlt : (leG (Yg (l.getD i pb0) 9)).n + (leG (Yg (l.getD i pb0) 9)).p + (leG (Yg (l.getD i pb0) 9)).e ≤ 6000000000 := by first | exact hle2 | (unfold Gz.t at hle0; omega)
       refine ZV [0, 1, 2, 3, 4, 5, 6, 7, 8, 9, 10, 11, 12, 13, 14, 15, 16, 17, 18, 19, 20, 22, 25, 21, 23, 24, 26, 27] #[0, 1, 0, 4, 15, 31, 63, 127, 63, 319, 1023, 2047, 4095, 8191, 16383, 8191, 40959, 131071, 262143, 524287, 1048575, 2097151, 1048575, 8388607, 16777215, 1048575, 67108863, 134217727] XH2 XH2 XH2 ?_
       refine Oo u97 .calm rfl (rfl) ?_
       refine Oo u97 .look rfl (W2q rfl rfl rfl rfl) ?_
       refine Oo u97 .calm rfl (rfl) ?_
       refine Oo u97 .look rfl (W2q rfl rfl rfl rfl) ?_
       refine Oo u97 .calm rfl (v_is false rfl (lt_no (Nat.le_add_right _ _) (by rw [Gz.add_n]; omega))) ?_
       refine Oo u97 .calm rfl (Zb (.inl rfl) rfl) ?_
       refine Oo u97 .calm rfl (rfl) ?_
       refine Oo u97 .look rfl (W2q rfl rfl rfl rfl) ?_
       refine Oo u97 .calm rfl (rfl) ?_
       refine Oo u97 .look rfl (W2q rfl rfl rfl rfl) ?_
       refine Oo u97 .calm rfl (v_is false rfl (lt_no (Nat.le_add_right _ _) (by rw [Gz.add_p]; omega))) ?_
       refine Oo u97 .calm rfl (ZF rfl rfl rfl) ?_
       refine Oo u97 .calm rfl (Zb (.inl rfl) rfl) ?_
       refine Oo u97 .calm rfl (rfl) ?_
       refine Oo u97 .look rfl (W2q rfl rfl rfl rfl) ?_
       refine Oo u97 .calm rfl (rfl) ?_
       refine Oo u97 .look rfl (W2q rfl rfl rfl rfl) ?_
       refine Oo u97 .calm rfl (v_is false rfl (lt_no (Nat.le_add_right _ _) (by rw [Gz.add_e]; omega))) ?_
       refine Oo u97 .calm rfl (ZF rfl rfl rfl) ?_
       refine Oo u97 .calm rfl (Zb (.inl rfl) rfl) ?_
       refine Oo u97 .look rfl (W2o rfl rfl rfl rfl rfl) ?_
       refine Ye (env' := u97) (x := .look _ _) rfl rfl rfl (W2o rfl rfl rfl rfl rfl) rfl rfl rfl ?_
       refine Oo u97 .calm rfl (Zb (.inl rfl) rfl) ?_
       refine ZX (env' := u97) rfl rfl rfl rfl rfl XH11 XH7 rfl rfl ?_
       refine ZX (env' := u97) rfl rfl rfl rfl rfl (by exact gsum_spec _ g.n g.p g.e) XH7 rfl rfl ?_
       refine Oo u97 .calm rfl (v_subW rfl rfl rfl) ?_
       refine Oo u97 .calm rfl (v_is false rfl XH8) ?_
       refine Oo u97 .calm rfl (ZF rfl rfl rfl) ?_
       refine O_nilP [(21, 23)] XH2 (And.intro ⟨_, _, _, _, ⟨(gA (gA (gA (gA (gA (gA (gL XH2))))))), (gA (gA (gA (gA (gL XH2))))), And.intro (W2o rfl rfl rfl rfl rfl) (W2o rfl rfl rfl rfl rfl)⟩⟩ (trivial)) ?_
       refine Zc ?_
       refine Z4 rfl rfl ?_
       refine Zl (Zy (Zc (Za ?_)))
       refine Lo u97 (Zb (.inl rfl) rfl) ?_
       refine Lo u97 (W14 rfl rfl rfl) ?_
       refine Lo u97 (Zb (.inr rfl) rfl) ?_
       refine Zf ?_
       refine ZD (mk 97 158456325028528675187087900166) (env' := u97) rfl ⟨k + 1, ?_, rfl, ?_⟩
       ·first | omega | (simp only []; omega)
       ·exact ⟨by omega, _, _, rfl, by rw [Gz.t_add]; first | omega | (have := hle2; omega)⟩
     ·try simp only [qB, qN] at hc4
      refine ZR (ZP (ZI (ZQ (Zy (Zc (Za ?_))))))
      refine Lo u97 (Zb (.inl rfl) rfl) ?_
      refine Lo u97 (W14 rfl rfl rfl) ?_
      refine Lo u97 (Zb (.inr rfl) rfl) ?_
      refine Zf ?_
      refine ZD (mk 97 158456325028528675187087900614) (env' := u97) rfl ⟨i + 1, ?_, rfl, ?_⟩
      ·first | omega | (simp only []; omega)
      ·exact ⟨⟨by omega, by omega⟩, _, _, rfl, by omega⟩
    ·try simp only [qB, qN] at hc3
     refine Zl (Zc (Ze ?_))
     first | (have hle2 : (leG (Yg (l.getD i pb0) 9)).t ≤ 6000000000 := Nat.le_trans hle hbg) | (have hle0 : (leG (Yg (l.getD i pb0) 9)).t = 0 := by (have h0 : ¬ pck (Yg (l.getD i pb0) 9) = 0 := by first | assumption | simp_all); unfold leG; rw [if_neg h0]; rfl)
     refine Za ?_
     refine Lo u97 (Zh (VVal.int .i64 0) (.inr rfl) rfl) ?_
     refine Zf (Zc (Zo ?_))
     refine ZJ (mk 97 158456325028528675187087900166) (env' := u97) rfl ?_
     refine ZN (fun (k : Nat) => 2 - k) (fun (k : Nat) => [(8, iI (k : Nat))]) (fun (k : Nat) G => (k ≤ 2) ∧ ∃ X g, G = (H ++ [gaB g, gaB 0]) ++ X ∧ Gz.t g ≤ i * 12000000000 + k * 6000000000) 0 rfl ?_ ?_
     ·refine ⟨?_, ⟨_, g, rfl, Nat.le_trans hg0 (Nat.le_add_right _ _)⟩⟩
      exact Nat.zero_le _
     rintro k _ ⟨hk, ⟨X, g, rfl, hg0⟩⟩
     refine ZZ (env' := u97) rfl ?_
     refine Ze (Ze (Za ?_))
     refine Lo u97 (Zb (.inl rfl) rfl) ?_
     refine Lo u97 (rfl) ?_
     refine Zf (Zc ?_)
     refine Zm _ rfl (fun hc6 => ?_) (fun hc6 => ?_)
     ·try simp only [qB, qN] at hc6
      refine Zl (Zc (Ze (Zo (Ze (Za ?_)))))
      refine Lo u97 (Zb (.inl rfl) rfl) ?_
      refine Zt rfl rfl rfl (by exact Gauge_g) ?_
      rintro _ _ ⟨rfl, rfl⟩
      refine Le u97 ?_
      refine Lo u97 (ZH rfl rfl) ?_
      refine Lo u97 (W13 rfl rfl rfl rfl rfl rfl rfl) ?_
      refine Zf (Zc (Ze (Ze ?_)))
      refine Yy (Gh.freezeEnd (B0 := (H ++ [gaB g, gaB 0])) (X := X) (cs := [iN g.n, iN g.p, iN g.e]) 9 rfl rfl) ?_
      refine Za ?_
      refine Lo u97 (Zb (.inl rfl) rfl) ?_
      refine Lo u97 (rfl) ?_
      refine Zf (Zc ?_)
      refine Zm _ rfl (fun hc7 => ?_) (fun hc7 => ?_)
      ·try simp only [qB, qN] at hc7
       refine Za ?_
       refine Lo u97 (Zb (.inl rfl) rfl) ?_
       refine Lo u97 (W2o rfl rfl rfl rfl rfl) ?_
       refine Zt rfl rfl rfl (by exact Cut_few _ (l.getD i pb0) 9) ?_
       rintro _ _ ⟨rfl, rfl⟩
       refine Le u97 ?_
       refine Zt rfl rfl rfl (by exact Can_g g (Yg (l.getD i pb0) 9) hL) ?_
       rintro _ _ ⟨rfl, rfl⟩
       refine Le u97 ?_
       refine Zf (Zc (Ze (Za ?_)))
       refine Lo u97 (Zb (.inl rfl) rfl) ?_
       refine Zt rfl rfl rfl (by exact Gauge_g) ?_
       rintro _ _ ⟨rfl, rfl⟩
       refine Le u97 ?_
       refine Lo u97 (ZH rfl rfl) ?_
       refine Lo u97 (W13 rfl rfl rfl rfl rfl rfl rfl) ?_
       refine Zf (Zc (Ze ?_))
       refine Yy (Gh.freezeEnd (B0 := (H ++ [gaB (g + leG (Yg (l.getD i pb0) 9)), gaB 0])) (X := X ++ [VBlk.dead]) (cs := [iN (g + leG (Yg (l.getD i pb0) 9)).n, iN (g + leG (Yg (l.getD i pb0) 9)).p, iN (g + leG (Yg (l.getD i pb0) 9)).e]) 10 rfl rfl) ?_
       have hgt := hg0
       unfold Gz.t at hgt
       have hlt : (leG (Yg (l.getD i pb0) 9)).n + (leG (Yg (l.getD i pb0) 9)).p + (leG (Yg (l.getD i pb0) 9)).e ≤ 6000000000 := by first | exact hle2 | (unfold Gz.t at hle0; omega)
       refine ZV [0, 1, 2, 3, 4, 5, 6, 7, 8, 9, 10, 11, 12, 13, 14, 15, 16, 17, 18, 19, 20, 22, 25, 21, 23, 24, 26, 27] #[0, 1, 0, 4, 15, 31, 63, 127, 63, 319, 1023, 2047, 4095, 8191, 16383, 8191, 40959, 131071, 262143, 524287, 1048575, 2097151, 1048575, 8388607, 16777215, 1048575, 67108863, 134217727] XH2 XH2 XH2 ?_
       refine Oo u97 .calm rfl (rfl) ?_
       refine Oo u97 .look rfl (W2q rfl rfl rfl rfl) ?_
       refine Oo u97 .calm rfl (rfl) ?_
       refine Oo u97 .look rfl (W2q rfl rfl rfl rfl) ?_
       refine Oo u97 .calm rfl (v_is false rfl (lt_no (Nat.le_add_right _ _) (by rw [Gz.add_n]; omega))) ?_
       refine Oo u97 .calm rfl (Zb (.inl rfl) rfl) ?_
       refine Oo u97 .calm rfl (rfl) ?_
       refine Oo u97 .look rfl (W2q rfl rfl rfl rfl) ?_
       refine Oo u97 .calm rfl (rfl) ?_
       refine Oo u97 .look rfl (W2q rfl rfl rfl rfl) ?_
       refine Oo u97 .calm rfl (v_is false rfl (lt_no (Nat.le_add_right _ _) (by rw [Gz.add_p]; omega))) ?_
       refine Oo u97 .calm rfl (ZF rfl rfl rfl) ?_
       refine Oo u97 .calm rfl (Zb (.inl rfl) rfl) ?_
       refine Oo u97 .calm rfl (rfl) ?_
       refine Oo u97 .look rfl (W2q rfl rfl rfl rfl) ?_
       refine Oo u97 .calm rfl (rfl) ?_
       refine Oo u97 .look rfl (W2q rfl rfl rfl rfl) ?_
       refine Oo u97 .calm rfl (v_is false rfl (lt_no (Nat.le_add_right _ _) (by rw [Gz.add_e]; omega))) ?_
       refine Oo u97 .calm rfl (ZF rfl rfl rfl) ?_
       refine Oo u97 .calm rfl (Zb (.inl rfl) rfl) ?_
       refine Oo u97 .look rfl (W2o rfl rfl rfl rfl rfl) ?_
       refine Ye (env' := u97) (x := .look _ _) rfl rfl rfl (W2o rfl rfl rfl rfl rfl) rfl rfl rfl ?_
       refine Oo u97 .calm rfl (Zb (.inl rfl) rfl) ?_
       refine ZX (env' := u97) rfl rfl rfl rfl rfl XH11 XH7 rfl rfl ?_
       refine ZX (env' := u97) rfl rfl rfl rfl rfl (by exact gsum_spec _ g.n g.p g.e) XH7 rfl rfl ?_
       refine Oo u97 .calm rfl (v_subW rfl rfl rfl) ?_
       refine Oo u97 .calm rfl (v_is false rfl XH8) ?_
       refine Oo u97 .calm rfl (ZF rfl rfl rfl) ?_
       refine O_nilP [(21, 23)] XH2 (And.intro ⟨_, _, _, _, ⟨(gA (gA (gA (gA (gA (gA (gL XH2))))))), (gA (gA (gA (gA (gL XH2))))), And.intro (W2o rfl rfl rfl rfl rfl) (W2o rfl rfl rfl rfl rfl)⟩⟩ (trivial)) ?_
       refine Zc ?_
       refine Z4 rfl rfl ?_
       refine Zl (Zy (Zc (Za ?_)))
       refine Lo u97 (Zb (.inl rfl) rfl) ?_
       refine Lo u97 (W14 rfl rfl rfl) ?_
       refine Lo u97 (Zb (.inr rfl) rfl) ?_
       refine Zf ?_
       refine ZD (mk 97 158456325028528675187087900166) (env' := u97) rfl ⟨k + 1, ?_, rfl, ?_⟩
       ·first | omega | (simp only []; omega)
       ·exact ⟨by omega, _, _, rfl, by rw [Gz.t_add]; first | omega | (have := hle2; omega)⟩
      ·try simp only [qB, qN] at hc7
       refine Za ?_
       refine Lo u97 (Zb (.inl rfl) rfl) ?_
       refine Lo u97 (W2o rfl rfl rfl rfl rfl) ?_
       refine Zt rfl rfl rfl (by exact Cut_few _ (l.getD i pb0) 9) ?_
       rintro _ _ ⟨rfl, rfl⟩
       refine Le u97 ?_
       refine Zt rfl rfl rfl (by exact Least_g g (Yg (l.getD i pb0) 9) hL) ?_
       rintro _ _ ⟨rfl, rfl⟩
       refine Le u97 ?_
       refine Zf (Zc (Ze (Za ?_)))
       refine Lo u97 (Zb (.inl rfl) rfl) ?_
       refine Zt rfl rfl rfl (by exact Gauge_g) ?_
       rintro _ _ ⟨rfl, rfl⟩
       refine Le u97 ?_
       refine Lo u97 (ZH rfl rfl) ?_
       refine Lo u97 (W13 rfl rfl rfl rfl rfl rfl rfl) ?_
       refine Zf (Zc (Ze ?_))
       refine Yy (Gh.freezeEnd (B0 := (H ++ [gaB (g + leG (Yg (l.getD i pb0) 9)), gaB 0])) (X := X ++ [VBlk.dead]) (cs := [iN (g + leG (Yg (l.getD i pb0) 9)).n, iN (g + leG (Yg (l.getD i pb0) 9)).p, iN (g + leG (Yg (l.getD i pb0) 9)).e]) 10 rfl rfl) ?_
       have hgt := hg0
       unfold Gz.t at hgt
       have hlt : (leG (Yg (l.getD i pb0) 9)).n + (leG (Yg (l.getD i pb0) 9)).p + (leG (Yg (l.getD i pb0) 9)).e ≤ 6000000000 := by first | exact hle2 | (unfold Gz.t at hle0; omega)
       refine ZV [0, 1, 2, 3, 4, 5, 6, 7, 8, 9, 10, 11, 12, 13, 14, 15, 16, 17, 18, 19, 20, 22, 25, 21, 23, 24, 26, 27] #[0, 1, 0, 4, 15, 31, 63, 127, 63, 319, 1023, 2047, 4095, 8191, 16383, 8191, 40959, 131071, 262143, 524287, 1048575, 2097151, 1048575, 8388607, 16777215, 1048575, 67108863, 134217727] XH2 XH2 XH2 ?_
       refine Oo u97 .calm rfl (rfl) ?_
       refine Oo u97 .look rfl (W2q rfl rfl rfl rfl) ?_
       refine Oo u97 .calm rfl (rfl) ?_
       refine Oo u97 .look rfl (W2q rfl rfl rfl rfl) ?_
       refine Oo u97 .calm rfl (v_is false rfl (lt_no (Nat.le_add_right _ _) (by rw [Gz.add_n]; omega))) ?_
       refine Oo u97 .calm rfl (Zb (.inl rfl) rfl) ?_
       refine Oo u97 .calm rfl (rfl) ?_
       refine Oo u97 .look rfl (W2q rfl rfl rfl rfl) ?_
       refine Oo u97 .calm rfl (rfl) ?_
       refine Oo u97 .look rfl (W2q rfl rfl rfl rfl) ?_
       refine Oo u97 .calm rfl (v_is false rfl (lt_no (Nat.le_add_right _ _) (by rw [Gz.add_p]; omega))) ?_
       refine Oo u97 .calm rfl (ZF rfl rfl rfl) ?_
       refine Oo u97 .calm rfl (Zb (.inl rfl) rfl) ?_
       refine Oo u97 .calm rfl (rfl) ?_
       refine Oo u97 .look rfl (W2q rfl rfl rfl rfl) ?_
       refine Oo u97 .calm rfl (rfl) ?_
       refine Oo u97 .look rfl (W2q rfl rfl rfl rfl) ?_
       refine Oo u97 .calm rfl (v_is false rfl (lt_no (Nat.le_add_right _ _) (by rw [Gz.add_e]; omega))) ?_
       refine Oo u97 .calm rfl (ZF rfl rfl rfl) ?_
       refine Oo u97 .calm rfl (Zb (.inl rfl) rfl) ?_
       refine Oo u97 .look rfl (W2o rfl rfl rfl rfl rfl) ?_
       refine Ye (env' := u97) (x := .look _ _) rfl rfl rfl (W2o rfl rfl rfl rfl rfl) rfl rfl rfl ?_
       refine Oo u97 .calm rfl (Zb (.inl rfl) rfl) ?_
       refine ZX (env' := u97) rfl rfl rfl rfl rfl XH11 XH7 rfl rfl ?_
       refine ZX (env' := u97) rfl rfl rfl rfl rfl (by exact gsum_spec _ g.n g.p g.e) XH7 rfl rfl ?_
       refine Oo u97 .calm rfl (v_subW rfl rfl rfl) ?_
       refine Oo u97 .calm rfl (v_is false rfl XH8) ?_
       refine Oo u97 .calm rfl (ZF rfl rfl rfl) ?_
       refine O_nilP [(21, 23)] XH2 (And.intro ⟨_, _, _, _, ⟨(gA (gA (gA (gA (gA (gA (gL XH2))))))), (gA (gA (gA (gA (gL XH2))))), And.intro (W2o rfl rfl rfl rfl rfl) (W2o rfl rfl rfl rfl rfl)⟩⟩ (trivial)) ?_
       refine Zc ?_
       refine Z4 rfl rfl ?_
       refine Zl (Zy (Zc (Za ?_)))
       refine Lo u97 (Zb (.inl rfl) rfl) ?_
       refine Lo u97 (W14 rfl rfl rfl) ?_
       refine Lo u97 (Zb (.inr rfl) rfl) ?_
       refine Zf ?_
       refine ZD (mk 97 158456325028528675187087900166) (env' := u97) rfl ⟨k + 1, ?_, rfl, ?_⟩
       ·first | omega | (simp only []; omega)
       ·exact ⟨by omega, _, _, rfl, by rw [Gz.t_add]; first | omega | (have := hle2; omega)⟩
     ·try simp only [qB, qN] at hc6
      refine ZR (ZP (ZI (ZQ (Zy (Zc (Za ?_))))))
      refine Lo u97 (Zb (.inl rfl) rfl) ?_
      refine Lo u97 (W14 rfl rfl rfl) ?_
      refine Lo u97 (Zb (.inr rfl) rfl) ?_
      refine Zf ?_
      refine ZD (mk 97 158456325028528675187087900614) (env' := u97) rfl ⟨i + 1, ?_, rfl, ?_⟩
      ·first | omega | (simp only []; omega)
      ·exact ⟨⟨by omega, by omega⟩, _, _, rfl, by omega⟩
   ·try simp only [qB, qN] at hc2
    refine ZR (ZP (ZI (ZQ ?_)))
    refine ZD (mk 97 158456325028528675187087900655) (env' := u97) rfl ⟨(), rfl, ?_⟩
    exact ⟨trivial, _, _, rfl⟩
  ·try simp only [qB, qN] at hg1
   refine Lf u97 ?_
   refine Lf u97 ?_
   refine Lo u97 (Zu (VVal.bool false) rfl rfl rfl) ?_
   refine Zf (Zc ?_)
   refine Z4 rfl rfl ?_
   refine ZR (ZP (ZI (ZQ ?_)))
   refine ZD (mk 97 158456325028528675187087900655) (env' := u97) rfl ⟨(), rfl, ?_⟩
   exact ⟨trivial, _, _, rfl⟩
 ·rintro u0 _ ⟨_, ⟨X, g, rfl⟩⟩
  refine ZZ (env' := u97) rfl ?_
  refine Ze (Za ?_)
  refine Lo u97 (Zb (.inl rfl) rfl) ?_
  refine Zt rfl rfl rfl (by exact Gauge_g1) ?_
  rintro _ _ ⟨rfl, rfl⟩
  refine Le u97 ?_
  refine Lo u97 (rfl) ?_
  refine Lo u97 (v_is true rfl (by rfl)) ?_
  refine Lo u97 (Zb (.inr rfl) rfl) ?_
  refine Zf (Zc ?_)
  try refine B_heap (List.append_assoc _ _ _) ?_
  refine Zj ?_
  refine W10 (.inr rfl) (Zg rfl rfl) ?_
  exact ⟨rfl, rfl⟩
theorem SolveGauge_law {x : SW} (l : List Pb) (hu : ∀ p : Pb, p ∈ l → -9223372036854775808 ≤ p.users ∧ p.users < 9223372036854775808) : F (psys x) 5 [VVal.fsl (l.flatMap pbB) l.length 4 false] [] fun v G => v = .bool true := (SolveGauge_walk [] l hu).mono fun v G h => h.1
end Go.Proofs.YtenkjadobkjaeaaDoor.VT
