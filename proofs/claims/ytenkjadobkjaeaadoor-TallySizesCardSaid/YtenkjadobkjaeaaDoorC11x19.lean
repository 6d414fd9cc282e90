/- Proved: Rows.TallySizesCardSaid, the statement TallySizes with its card, of the given program at the commit; no conditions beyond those in the statement. -/
import Derived.Test.YtenkjadobkjaeaaDoorC11x18
import Derived.Test.YtenkjadobkjaeaaDoorRows
import Derived.LaidMore
import Derived.Stop.Joined
set_option autoImplicit false
set_option linter.unusedVariables false
set_option maxRecDepth 100000
namespace Go.Proofs.YtenkjadobkjaeaaDoor.VT
open Go Go.V Go.RowKit Go.Shelf Go.ChangeShapes Go.WideShapes Go.ChangeAt Go.WideMaps Go.WideElems
theorem own : ownKnob Tryd.prog.godebug = none := by kernel_rfl
theorem laidOut : laidOutB Tryd.prog = true := by kernel_rfl
theorem gTab : Tryd.prog.globalNamed "math/bits.deBruijn64tab" = some 0 := by kernel_rfl
theorem tTab : (Tryd.prog.globals[0]?).map (·.type) = some 162 := by kernel_rfl
abbrev laidL : List (String × DataW Unit) := [("math/bits.deBruijn64tab", Rows.laid_math_bits_deBruijn64tab)]
theorem door_met (os : Os) (args : Array Value) : laidMetH Tryd.prog laidL ((World.doorLaid Tryd.prog 400 os).forCall (fun _ _ => 0) ⟨#[], args, []⟩).memory :=
  laidMetH_of_parts3 (fuel := 8) (laidMet_of_run' 8 XH7 XH7) XH7 XH7
theorem laid_tab : (Rows.laid_math_bits_deBruijn64tab : DataW Unit) = .agg (Lib.deBruijn64tab.map fun n : Nat => .lit (.int .u8 (n : Int))) := by kernel_rfl
theorem of_laid {W : World} (h : laidMetH Tryd.prog laidL W) : 0 < W.heap.size ∧ TabAt 0 Lib.deBruijn64tab W := by
  rw [MakeChecks.laidMetH_plain _ _ _ XH7] at h
  obtain ⟨ps, ⟨g0, t0, cs0, f0, p0, q0, hg0, ht0, hv0, hd0, _, _⟩, _, _⟩ := h
  obtain rfl := Option.some.inj (gTab.symm.trans hg0)
  obtain rfl := Option.some.inj (tTab.symm.trans ht0)
  obtain ⟨xs, m, rfl, hx, hlen, hn, hel⟩ := DataW.trod_array Tryd.underlying162 hd0
  have c5 : Tryd.prog.cellsOf 5 = 1 := by kernel_rfl
  rw [c5] at hel
  simp only [Prod.mk.injEq] at hx
  have hx1 := hx.1
  rw [laid_tab] at hx1
  simp only [DataW.agg.injEq] at hx1
  have key : TabAt 0 Lib.deBruijn64tab W := by
    intro j hj
    have hj' : j < 64 := hj
    have h1 := hel j hj'
    have hxl : j < xs.length := by rw [hn]; exact hj'
    have hxj : xs[j]? = some xs[j] := by simp [hxl]
    rw [hxj] at h1
    obtain ⟨n, e1, e2, _⟩ := DataW.trod_int Tryd.underlying5 h1
    have h2 : (xs.map (·.1))[j]? = (Lib.deBruijn64tab.map fun n : Nat => (DataW.lit (.int .u8 (n : Int)) : DataW Unit))[j]? := by rw [← hx1]
    rw [List.getElem?_map, List.getElem?_map, hxj] at h2
    have hjl : j < Lib.deBruijn64tab.length := hj
    rw [List.getElem?_eq_getElem hjl] at h2
    simp only [Option.map_some, Option.some.injEq] at h2
    rw [e2] at h2
    simp only [DataW.lit.injEq, Lit.int.injEq, true_and] at h2
    have h3 := World.var?_cell hg0 hv0 j
    have h4 : cs0[j]? = some (.int .u8 n) := by
      have : cs0.toList[j]? = some (.int .u8 n) := by
        rw [← List.head?_drop]
        rw [Nat.mul_one] at e1
        cases hd : cs0.toList.drop j with
        | nil => rw [hd] at e1; simp at e1
        | cons c r => rw [hd] at e1; simp at e1; rw [e1]; rfl
      simpa using this
    rw [h4] at h3
    rw [h3, h2]
    simp [List.getD_eq_getElem?_getD, hjl]
  refine ⟨?_, key⟩
  have h0 := key 0 (by decide)
  simp only [World.cell?] at h0
  split at h0
  · rename_i hh; exact (Array.getElem?_eq_some_iff.1 hh).1
  · cases h0
def sw {W : World} (h : laidMetH Tryd.prog laidL W) : SW := ⟨W, (of_laid h).1, (of_laid h).2⟩
open Go Go.V Go.RowKit Go.ChangeShapes
abbrev T3 : Type := Int
abbrev e3 : T3 → List VVal := fun x => [iI x]
abbrev k3 : T3 → Prop := fun n => -9223372036854775808 ≤ n ∧ n < 9223372036854775808
theorem op3 : Opens Tryd.prog 3 T3 e3 k3 := Opens.int Tryd.underlying3 XH7
abbrev T35 : Type := BitVec 64
abbrev e35 : T35 → List VVal := fun x => [iW x]
abbrev k35 : T35 → Prop := fun _ => True
theorem op35 : Opens Tryd.prog 35 T35 e35 k35 := Opens.word Tryd.underlying35 XH7
abbrev T22 : Type := List T35
abbrev e22 : T22 → List VVal := fun x => [(fun l : List T35 => VVal.fsl (l.map iW) l.length 1 false) x]
abbrev k22 : T22 → Prop := fun l => l.length * 8 ≤ 140737488351232 ∧ ∀ x, x ∈ l → k35 x
theorem op22 : Opens Tryd.prog 22 T22 e22 k22 := Opens.slice1 (g := iW) 8 op35 Tryd.underlying22 XH7 XH7 XH7
abbrev T23 : Type := List T3
abbrev e23 : T23 → List VVal := fun x => [(fun l : List T3 => VVal.fsl (l.map iI) l.length 1 false) x]
abbrev k23 : T23 → Prop := fun l => l.length * 8 ≤ 140737488351232 ∧ ∀ x, x ∈ l → k3 x
theorem op23 : Opens Tryd.prog 23 T23 e23 k23 := Opens.slice1 (g := iI) 8 op3 Tryd.underlying23 XH7 XH7 XH7
abbrev T71 : Type := T3 × T3 × T23 × Unit
abbrev e71 : T71 → List VVal := fun x => e3 (x.1) ++ (e3 (x.2.1) ++ (e23 (x.2.2.1) ++ ([])))
abbrev k71 : T71 → Prop := fun x => k3 (x.1) ∧ (k3 (x.2.1) ∧ (k23 (x.2.2.1) ∧ (True)))
theorem op71 : Opens Tryd.prog 71 T71 e71 k71 := Opens.struct Tryd.underlying71 (.cons op3 XH7 (.cons op3 XH7 (.cons op23 XH7 (.nil _)))) (fun a => by kernel_rfl)
abbrev T24 : Type := List T71
abbrev e24 : T24 → List VVal := fun x => [(fun l : List T71 => VVal.fsl (l.flatMap e71) l.length 3 false) x]
abbrev k24 : T24 → Prop := fun l => l.length * 40 ≤ 140737488351232 ∧ ∀ x, x ∈ l → k71 x
theorem op24 : Opens Tryd.prog 24 T24 e24 k24 := Opens.slice 3 40 op71 Tryd.underlying24 XH7 XH7 XH7 (by decide)
abbrev T26 : Type := T3 × T22 × T23 × T24 × Unit
abbrev e26 : T26 → List VVal := fun x => e3 (x.1) ++ (e22 (x.2.1) ++ (e23 (x.2.2.1) ++ (e24 (x.2.2.2.1) ++ ([]))))
abbrev k26 : T26 → Prop := fun x => k3 (x.1) ∧ (k22 (x.2.1) ∧ (k23 (x.2.2.1) ∧ (k24 (x.2.2.2.1) ∧ (True))))
theorem op26 : Opens Tryd.prog 26 T26 e26 k26 := Opens.struct Tryd.underlying26 (.cons op3 XH7 (.cons op22 XH7 (.cons op23 XH7 (.cons op24 XH7 (.nil _))))) (fun a => by kernel_rfl)
set_option linter.unusedSimpArgs false
set_option maxHeartbeats 4000000
open Go Go.V Go.RowKit
abbrev u66 {a0 a1 a2 a3 a4 a5 a6 a7 a8 a9 a10 a11 a12 a13 a14 a15 a16 a17 a18 a19 a20 a21 a22 a23 a24 a25 a26 a27 a28 a29 a30 a31 a32 a33 a34 a35 a36 a37 a38 a39 a40 a41 a42 a43 a44 a45 a46 a47 a48 a49 a50 a51 a52 a53 a54 a55 a56 a57 a58 a59 a60 a61 a62 a63 a64 a65 : VVal} : VEnv := a0 :: a1 :: a2 :: a3 :: a4 :: a5 :: a6 :: a7 :: a8 :: a9 :: a10 :: a11 :: a12 :: a13 :: a14 :: a15 :: a16 :: a17 :: a18 :: a19 :: a20 :: a21 :: a22 :: a23 :: a24 :: a25 :: a26 :: a27 :: a28 :: a29 :: a30 :: a31 :: a32 :: a33 :: a34 :: a35 :: a36 :: a37 :: a38 :: a39 :: a40 :: a41 :: a42 :: a43 :: a44 :: a45 :: a46 :: a47 :: a48 :: a49 :: a50 :: a51 :: a52 :: a53 :: a54 :: a55 :: a56 :: a57 :: a58 :: a59 :: a60 :: a61 :: a62 :: a63 :: a64 :: a65 :: []
theorem TallySizes_walk {x : SW} (H : Zf) (p : Pb) (hu : -9223372036854775808 ≤ p.users ∧ p.users < 9223372036854775808) : F (psys x) 11 [.agg (pbB p)] H fun v G => v = .bool true ∧ G = H := by
 have hL := fewP_L (m := 8) hu
 refine Zq Tryd.func11 rfl u66 rfl ?_
 refine Zd (Za ?_)
 refine Lo u66 (ZJ rfl rfl rfl) ?_
 refine Lo u66 (Zg (VVal.bool false) (.inr rfl) rfl) ?_
 refine Ze (Zc (Zd ?_))
 refine Yu (Gh.freezePtrL (cs := pbB p) 1 0 rfl rfl rfl) ?_
 refine Za ?_
 refine Lo u66 (W2p rfl rfl rfl rfl rfl) ?_
 refine Zp rfl rfl rfl (by exact Few_spec _ p 8 hu) ?_
 rintro _ _ ⟨rfl, rfl⟩
 refine Le u66 ?_
 refine Lo u66 (ZR rfl rfl) ?_
 refine Lo u66 (W13 rfl rfl rfl rfl rfl rfl rfl) ?_
 refine Ze (Zc (Zd ?_))
 refine Yu (Gh.freezePtrL (cs := pbB (fewP p 8)) 3 1 rfl rfl rfl) ?_
 refine Za ?_
 refine Lo u66 (W2p rfl rfl rfl rfl rfl) ?_
 refine Zp rfl rfl rfl (by exact Cut_few _ p 8) ?_
 rintro _ _ ⟨rfl, rfl⟩
 refine Le u66 ?_
 refine Zp rfl rfl rfl (by exact tSizes_spec _ (fewP p 8) hL) ?_
 rintro _ _ ⟨rfl, rfl⟩
 refine Le u66 ?_
 refine Lo u66 (Zb (.inl rfl) rfl) ?_
 refine Lo u66 (rfl) ?_
 refine Lo u66 (rfl) ?_
 refine Lo u66 (rfl) ?_
 refine Lo u66 (Zb (.inr rfl) rfl) ?_
 refine Lo u66 (Zb (.inr rfl) rfl) ?_
 refine Lo u66 (Zb (.inr rfl) rfl) ?_
 refine Ze (Zc (Zd (Za ?_)))
 refine Lo u66 (W2p rfl rfl rfl rfl rfl) ?_
 refine Zp rfl rfl rfl (by exact fSizes_spec _ (fewP p 8) hL) ?_
 rintro _ _ ⟨rfl, rfl⟩
 refine Le u66 ?_
 refine Lo u66 (Zb (.inl rfl) rfl) ?_
 refine Lo u66 (rfl) ?_
 refine Lo u66 (rfl) ?_
 refine Lo u66 (rfl) ?_
 refine Lo u66 (Zb (.inr rfl) rfl) ?_
 refine Lo u66 (Zb (.inr rfl) rfl) ?_
 refine Lo u66 (Zb (.inr rfl) rfl) ?_
 refine Ze (Zc (Zd (Za ?_)))
 refine Lo u66 (W2p rfl rfl rfl rfl rfl) ?_
 refine Zp rfl rfl rfl (by exact Cut_few _ p 8) ?_
 rintro _ _ ⟨rfl, rfl⟩
 refine Le u66 ?_
 refine Zp rfl rfl rfl (by exact tLoad_any _ (fewP p 8) hL) ?_
 rintro _ _ ⟨rfl, rfl⟩
 refine Le u66 ?_
 refine Lo u66 (Zb (.inl rfl) rfl) ?_
 refine Lo u66 (rfl) ?_
 refine Lo u66 (rfl) ?_
 refine Lo u66 (Zb (.inr rfl) rfl) ?_
 refine Lo u66 (Zb (.inr rfl) rfl) ?_
 refine Ze (Zc (Zd (Za ?_)))
 refine Lo u66 (W2p rfl rfl rfl rfl rfl) ?_
 refine Zp rfl rfl rfl (by exact fLoad_spec _ (fewP p 8) hL) ?_
 rintro _ _ ⟨rfl, rfl⟩
 refine Le u66 ?_
 refine Lo u66 (Zb (.inl rfl) rfl) ?_
 refine Lo u66 (rfl) ?_
 refine Lo u66 (rfl) ?_
 refine Lo u66 (Zb (.inr rfl) rfl) ?_
 refine Lo u66 (Zb (.inr rfl) rfl) ?_
 refine Ze (Zc (Zd (Za ?_)))
 refine Lo u66 (Zb (.inl rfl) rfl) ?_
 refine Lo u66 (Zb (.inl rfl) rfl) ?_
 refine Lo u66 (v_is true rfl (by simp)) ?_
 refine Lo u66 (Zb (.inl rfl) rfl) ?_
 refine Lo u66 (Zb (.inl rfl) rfl) ?_
 refine Lo u66 (Zb (.inl rfl) rfl) ?_
 refine Lo u66 (v_is true rfl (by simp)) ?_
 refine Lo u66 (ZN rfl rfl rfl) ?_
 refine Lo u66 (Zb (.inl rfl) rfl) ?_
 refine Lo u66 (Zb (.inl rfl) rfl) ?_
 refine Lo u66 (Zb (.inl rfl) rfl) ?_
 refine Lo u66 (v_is true rfl (by simp)) ?_
 refine Lo u66 (ZN rfl rfl rfl) ?_
 refine Lo u66 (Zb (.inl rfl) rfl) ?_
 refine Lo u66 (Zb (.inl rfl) rfl) ?_
 refine Lo u66 (Zb (.inl rfl) rfl) ?_
 refine Lo u66 (v_is true rfl (by simp)) ?_
 refine Lo u66 (ZN rfl rfl rfl) ?_
 refine Lo u66 (Zb (.inl rfl) rfl) ?_
 refine Lo u66 (Zb (.inl rfl) rfl) ?_
 refine Lo u66 (Zb (.inl rfl) rfl) ?_
 refine Lo u66 (v_is true rfl (by simp)) ?_
 refine Lo u66 (ZN rfl rfl rfl) ?_
 refine Lo u66 (Zb (.inl rfl) rfl) ?_
 refine Zp rfl rfl rfl (by exact twakes_spec _) ?_
 rintro _ _ ⟨rfl, rfl⟩
 refine Le u66 ?_
 refine Lo u66 (ZN rfl rfl rfl) ?_
 refine Lo u66 (Zb (.inr rfl) rfl) ?_
 refine Ze (Zc (Zl ?_))
 refine W10 (.inr rfl) (Zh rfl rfl) ?_
 exact ⟨rfl, rfl⟩
theorem TallySizes_law {x : SW} (p : Pb) (hu : -9223372036854775808 ≤ p.users ∧ p.users < 9223372036854775808) : F (psys x) 11 [.agg (pbB p)] [] fun v G => v = .bool true := (TallySizes_walk [] p hu).mono fun v G h => h.1
end Go.Proofs.YtenkjadobkjaeaaDoor.VT
