/- Proved: Rows.SolveBeforeCardSaid, the statement SolveBefore with its card, of the given program at the commit; no conditions beyond those in the statement. -/
import Derived.Test.YtnbihdflnjpinaaDoorC4x16
import Derived.Test.YtnbihdflnjpinaaDoorRows
import Derived.LaidMore
import Derived.Stop.Joined
set_option autoImplicit false
set_option linter.unusedVariables false
set_option maxRecDepth 100000
namespace Go.Proofs.YtnbihdflnjpinaaDoor.VT
open Go Go.V Go.RowKit Go.Shelf Go.ChangeShapes Go.WideShapes Go.ChangeAt Go.WideMaps Go.WideElems
theorem own : ownKnob Tryd.prog.godebug = none := by kernel_rfl
theorem laidOut : laidOutB Tryd.prog = true := by kernel_rfl
theorem gTab : Tryd.prog.globalNamed "math/bits.deBruijn64tab" = some 0 := by kernel_rfl
theorem tTab : (Tryd.prog.globals[0]?).map (·.type) = some 149 := by kernel_rfl
abbrev laidL : List (String × DataW Unit) := [("math/bits.deBruijn64tab", Rows.laid_math_bits_deBruijn64tab)]
theorem door_met (os : Os) (args : Array Value) : laidMetH Tryd.prog laidL ((World.doorLaid Tryd.prog 400 os).forCall (fun _ _ => 0) ⟨#[], args, []⟩).memory :=
  laidMetH_of_parts3 (fuel := 8) (laidMet_of_run' 8 (by kernel_rfl) (by kernel_rfl)) (by kernel_rfl) (by kernel_rfl)
theorem laid_tab : (Rows.laid_math_bits_deBruijn64tab : DataW Unit) = .agg (Lib.deBruijn64tab.map fun n : Nat => .lit (.int .u8 (n : Int))) := by kernel_rfl
theorem of_laid {W : World} (h : laidMetH Tryd.prog laidL W) : 0 < W.heap.size ∧ TabAt 0 Lib.deBruijn64tab W := by
  rw [MakeChecks.laidMetH_plain _ _ _ (by kernel_rfl)] at h
  obtain ⟨ps, ⟨g0, t0, cs0, f0, p0, q0, hg0, ht0, hv0, hd0, _, _⟩, _, _⟩ := h
  obtain rfl := Option.some.inj (gTab.symm.trans hg0)
  obtain rfl := Option.some.inj (tTab.symm.trans ht0)
  obtain ⟨xs, m, rfl, hx, hlen, hn, hel⟩ := DataW.trod_array Tryd.underlying149 hd0
  have c5 : Tryd.prog.cellsOf 5 = 1 := by kernel_rfl
  rw [c5] at hel
  simp only [Prod.mk.injEq] at hx
  have hx1 := hx.1
  rw [laid_tab] at hx1
  simp only [DataW.agg.injEq] at hx1
  have key : TabAt 0 Lib.deBruijn64tab W := by
    intro j hj
    have hj' : j < 64 := hj
    have h1 := hel j hj'
    have hxl : j < xs.length := by rw [hn]; exact hj'
    have hxj : xs[j]? = some xs[j] := by simp [hxl]
    rw [hxj] at h1
    obtain ⟨n, e1, e2, _⟩ := DataW.trod_int Tryd.underlying5 h1
    have h2 : (xs.map (·.1))[j]? = (Lib.deBruijn64tab.map fun n : Nat => (DataW.lit (.int .u8 (n : Int)) : DataW Unit))[j]? := by rw [← hx1]
    rw [List.getElem?_map, List.getElem?_map, hxj] at h2
    have hjl : j < Lib.deBruijn64tab.length := hj
    rw [List.getElem?_eq_getElem hjl] at h2
    simp only [Option.map_some, Option.some.injEq] at h2
    rw [e2] at h2
    simp only [DataW.lit.injEq, Lit.int.injEq, true_and] at h2
    have h3 := World.var?_cell hg0 hv0 j
    have h4 : cs0[j]? = some (.int .u8 n) := by
      have : cs0.toList[j]? = some (.int .u8 n) := by
        rw [← List.head?_drop]
        rw [Nat.mul_one] at e1
        cases hd : cs0.toList.drop j with
        | nil => rw [hd] at e1; simp at e1
        | cons c r => rw [hd] at e1; simp at e1; rw [e1]; rfl
      simpa using this
    rw [h4] at h3
    rw [h3, h2]
    simp [List.getD_eq_getElem?_getD, hjl]
  refine ⟨?_, key⟩
  have h0 := key 0 (by decide)
  simp only [World.cell?] at h0
  split at h0
  · rename_i hh; exact (Array.getElem?_eq_some_iff.1 hh).1
  · cases h0
def sw {W : World} (h : laidMetH Tryd.prog laidL W) : SW := ⟨W, (of_laid h).1, (of_laid h).2⟩
end Go.Proofs.YtnbihdflnjpinaaDoor.VT

set_option autoImplicit false
set_option linter.unusedVariables false
set_option maxRecDepth 100000
namespace Go.Proofs.YtnbihdflnjpinaaDoor.VT
open Go Go.V Go.RowKit Go.ChangeShapes
abbrev T3 : Type := Int
abbrev e3 : T3 → List VVal := fun x => [iI x]
abbrev k3 : T3 → Prop := fun n => -9223372036854775808 ≤ n ∧ n < 9223372036854775808
theorem op3 : Opens Tryd.prog 3 T3 e3 k3 := Opens.int Tryd.underlying3 (by kernel_rfl)
abbrev T23 : Type := List T3
abbrev e23 : T23 → List VVal := fun x => [(fun l : List T3 => VVal.fsl (l.map iI) l.length 1 false) x]
abbrev k23 : T23 → Prop := fun l => l.length * 8 ≤ 140737488351232 ∧ ∀ x, x ∈ l → k3 x
theorem op23 : Opens Tryd.prog 23 T23 e23 k23 := Opens.slice1 (g := iI) 8 op3 Tryd.underlying23 (by kernel_rfl) (by kernel_rfl) (by kernel_rfl)
end Go.Proofs.YtnbihdflnjpinaaDoor.VT

set_option autoImplicit false
set_option linter.unusedVariables false
set_option linter.unusedSimpArgs false
set_option maxHeartbeats 4000000
set_option maxRecDepth 100000
namespace Go.Proofs.YtnbihdflnjpinaaDoor.VT
open Go Go.V Go.RowKit
abbrev u85 {a0 a1 a2 a3 a4 a5 a6 a7 a8 a9 a10 a11 a12 a13 a14 a15 a16 a17 a18 a19 a20 a21 a22 a23 a24 a25 a26 a27 a28 a29 a30 a31 a32 a33 a34 a35 a36 a37 a38 a39 a40 a41 a42 a43 a44 a45 a46 a47 a48 a49 a50 a51 a52 a53 a54 a55 a56 a57 a58 a59 a60 a61 a62 a63 a64 a65 a66 a67 a68 a69 a70 a71 a72 a73 a74 a75 a76 a77 a78 a79 a80 a81 a82 a83 a84 : VVal} : VEnv := a0 :: a1 :: a2 :: a3 :: a4 :: a5 :: a6 :: a7 :: a8 :: a9 :: a10 :: a11 :: a12 :: a13 :: a14 :: a15 :: a16 :: a17 :: a18 :: a19 :: a20 :: a21 :: a22 :: a23 :: a24 :: a25 :: a26 :: a27 :: a28 :: a29 :: a30 :: a31 :: a32 :: a33 :: a34 :: a35 :: a36 :: a37 :: a38 :: a39 :: a40 :: a41 :: a42 :: a43 :: a44 :: a45 :: a46 :: a47 :: a48 :: a49 :: a50 :: a51 :: a52 :: a53 :: a54 :: a55 :: a56 :: a57 :: a58 :: a59 :: a60 :: a61 :: a62 :: a63 :: a64 :: a65 :: a66 :: a67 :: a68 :: a69 :: a70 :: a71 :: a72 :: a73 :: a74 :: a75 :: a76 :: a77 :: a78 :: a79 :: a80 :: a81 :: a82 :: a83 :: a84 :: []
theorem W5h {P : Prop} (h : P := by first | exact ⟨rfl, rfl⟩ | exact ⟨congrArg VVal.bool (bef_trans (b := (b.take 30)) (by assumption) (by simp_all)), rfl⟩) : P := h
theorem row_30 {x : SW} (H : VHeap) (l : List Int) (h : l.length ≤ 30) : F (psys x) 17 [fzI l] H fun v G => v = fzI l ∧ G = H := by
  have := row_spec (x := x) H l
  rw [List.take_of_length_le h] at this; exact this
theorem SolveBefore_walk {x : SW} (H : VHeap) (a b c : List Int) : F (psys x) 10 [fzI a, fzI b, fzI c] H fun v G => v = .bool true ∧ G = H := by
 have h1 : (a.take 30).length ≤ 30 := by rw [List.length_take]; omega
 have h2 : (b.take 30).length ≤ 30 := by rw [List.length_take]; omega
 have h3 : (c.take 30).length ≤ 30 := by rw [List.length_take]; omega
 refine F_body Tryd.func10 rfl u85 rfl ?_
 refine B_seq (B_region ?_)
 refine Lo u85 (v_const (VVal.bool false) (.inr rfl) rfl) ?_
 refine L_nil (K_seq (B_seq (B_region ?_)))
 refine Lo u85 (v_move (.inl rfl) rfl) ?_
 refine L_call rfl rfl rfl (by exact row_spec _ a) ?_
 rintro _ _ ⟨rfl, rfl⟩
 refine Le u85 ?_
 refine Lo u85 (v_move (.inr rfl) rfl) ?_
 refine L_nil (K_seq (B_seq (B_region ?_)))
 refine Lo u85 (v_move (.inl rfl) rfl) ?_
 refine L_call rfl rfl rfl (by exact row_spec _ b) ?_
 rintro _ _ ⟨rfl, rfl⟩
 refine Le u85 ?_
 refine Lo u85 (v_move (.inr rfl) rfl) ?_
 refine L_nil (K_seq (B_seq (B_region ?_)))
 refine Lo u85 (v_move (.inl rfl) rfl) ?_
 refine L_call rfl rfl rfl (by exact row_spec _ c) ?_
 rintro _ _ ⟨rfl, rfl⟩
 refine Le u85 ?_
 refine Lo u85 (v_move (.inr rfl) rfl) ?_
 refine L_nil (K_seq (B_seq (B_seq (B_region ?_))))
 refine Lo u85 (v_move (.inl rfl) rfl) ?_
 refine L_call rfl rfl rfl (by exact row_30 _ (a.take 30) (by omega)) ?_
 rintro _ _ ⟨rfl, rfl⟩
 refine Le u85 ?_
 refine Lo u85 (v_move (.inl rfl) rfl) ?_
 refine L_call rfl rfl rfl (by exact row_30 _ (b.take 30) (by omega)) ?_
 rintro _ _ ⟨rfl, rfl⟩
 refine Le u85 ?_
 refine L_call rfl rfl rfl (by exact Before_spec _ (a.take 30) (b.take 30)) ?_
 rintro _ _ ⟨rfl, rfl⟩
 refine Le u85 ?_
 refine Lo u85 (v_move (.inl rfl) rfl) ?_
 refine Lo u85 (v_move (.inl rfl) rfl) ?_
 refine L_call rfl rfl rfl (by exact fBefore_spec _ (a.take 30) (b.take 30) (by omega) (by omega)) ?_
 rintro _ _ ⟨rfl, rfl⟩
 refine Le u85 ?_
 refine Lo u85 (v_is false rfl (by simp)) ?_
 refine Lo u85 (v_move (.inl rfl) rfl) ?_
 refine Lo u85 (v_move (.inl rfl) rfl) ?_
 refine L_call rfl rfl rfl (by exact row_30 _ (a.take 30) (by omega)) ?_
 rintro _ _ ⟨rfl, rfl⟩
 refine Le u85 ?_
 refine Lo u85 (v_move (.inl rfl) rfl) ?_
 refine L_call rfl rfl rfl (by exact row_30 _ (a.take 30) (by omega)) ?_
 rintro _ _ ⟨rfl, rfl⟩
 refine Le u85 ?_
 refine L_call rfl rfl rfl (by exact Before_spec _ (a.take 30) (a.take 30)) ?_
 rintro v _ ⟨hv, rfl⟩; rw [bef_self] at hv; subst hv
 refine Le u85 ?_
 refine Lo u85 (v_pickF rfl rfl rfl) ?_
 refine Lo u85 (v_move (.inl rfl) rfl) ?_
 refine L_call rfl rfl rfl (by exact wakes_spec _) ?_
 rintro _ _ ⟨rfl, rfl⟩
 refine Le u85 ?_
 refine Lo u85 (rfl) ?_
 refine Lo u85 (v_pickF rfl rfl rfl) ?_
 refine L_nil (K_seq ?_)
 refine B_false rfl rfl ?_
 refine B_skip (K_seq (B_seq (B_seq (B_region ?_))))
 refine Lo u85 (v_move (.inl rfl) rfl) ?_
 refine Lo u85 (rfl) ?_
 refine Lo u85 (v_move (.inl rfl) rfl) ?_
 refine Lo u85 (rfl) ?_
 refine Lo u85 (rfl) ?_
 refine Lo u85 (v_move (.inl rfl) rfl) ?_
 refine L_split 41 (env1 := u85) (env2 := u85) rfl rfl rfl (fun hg1 => ?_) (fun hg1 => ?_)
 ·try simp only [qB, qN] at hg1
  refine Lo u85 (v_move (.inl rfl) rfl) ?_
  refine Lo u85 (rfl) ?_
  refine Lo u85 (rfl) ?_
  refine Lo u85 (v_pickT rfl rfl rfl) ?_
  refine Lo u85 (v_move (.inl rfl) rfl) ?_
  refine L_split 46 (env1 := u85) (env2 := u85) rfl rfl rfl (fun hg2 => ?_) (fun hg2 => ?_)
  ·try simp only [qB, qN] at hg2
   refine Lo u85 (v_move (.inl rfl) rfl) ?_
   refine Lo u85 (v_move (.inl rfl) rfl) ?_
   refine L_call rfl rfl rfl (by exact kInts_spec _ (a.take 30) (b.take 30) (by omega)) ?_
   rintro _ _ ⟨rfl, rfl⟩
   refine Le u85 ?_
   refine Lo u85 (rfl) ?_
   refine Lo u85 (v_pickT rfl rfl rfl) ?_
   refine Lo u85 (v_move (.inl rfl) rfl) ?_
   refine L_split 52 (env1 := u85) (env2 := u85) rfl rfl rfl (fun hg3 => ?_) (fun hg3 => ?_)
   ·try simp only [qB, qN] at hg3
    refine Lo u85 (v_move (.inl rfl) rfl) ?_
    refine L_call rfl rfl rfl (by exact row_30 _ (a.take 30) (by omega)) ?_
    rintro _ _ ⟨rfl, rfl⟩
    refine Le u85 ?_
    refine Lo u85 (v_move (.inl rfl) rfl) ?_
    refine L_call rfl rfl rfl (by exact row_30 _ (b.take 30) (by omega)) ?_
    rintro _ _ ⟨rfl, rfl⟩
    refine Le u85 ?_
    refine L_call rfl rfl rfl (by exact Before_spec _ (a.take 30) (b.take 30)) ?_
    rintro _ _ ⟨rfl, rfl⟩
    refine Le u85 ?_
    refine Lo u85 (v_move (.inl rfl) rfl) ?_
    refine L_call rfl rfl rfl (by exact row_30 _ (b.take 30) (by omega)) ?_
    rintro _ _ ⟨rfl, rfl⟩
    refine Le u85 ?_
    refine Lo u85 (v_move (.inl rfl) rfl) ?_
    refine L_call rfl rfl rfl (by exact row_30 _ (a.take 30) (by omega)) ?_
    rintro _ _ ⟨rfl, rfl⟩
    refine Le u85 ?_
    refine L_call rfl rfl rfl (by exact Before_spec _ (b.take 30) (a.take 30)) ?_
    rintro _ _ ⟨rfl, rfl⟩
    refine Le u85 ?_
    refine Lo u85 (v_is false rfl (by rw [bef_tot (by omega) (by omega) (by assumption)]; cases bef (b.take 30) (a.take 30) <;> rfl)) ?_
    refine Lo u85 (v_pickT rfl rfl rfl) ?_
    refine L_nil (K_seq ?_)
    refine B_false rfl rfl ?_
    refine B_skip (K_seq (B_seq (B_region ?_)))
    refine Lo u85 (v_move (.inl rfl) rfl) ?_
    refine L_call rfl rfl rfl (by exact row_30 _ (a.take 30) (by omega)) ?_
    rintro _ _ ⟨rfl, rfl⟩
    refine Le u85 ?_
    refine Lo u85 (v_move (.inl rfl) rfl) ?_
    refine L_call rfl rfl rfl (by exact row_30 _ (b.take 30) (by omega)) ?_
    rintro _ _ ⟨rfl, rfl⟩
    refine Le u85 ?_
    refine L_call rfl rfl rfl (by exact Before_spec _ (a.take 30) (b.take 30)) ?_
    rintro _ _ ⟨rfl, rfl⟩
    refine Le u85 ?_
    refine Lo u85 (v_move (.inl rfl) rfl) ?_
    refine L_split 70 (env1 := u85) (env2 := u85) rfl rfl rfl (fun hg4 => ?_) (fun hg4 => ?_)
    ·try simp only [qB, qN] at hg4
     refine Lo u85 (v_move (.inl rfl) rfl) ?_
     refine L_call rfl rfl rfl (by exact row_30 _ (b.take 30) (by omega)) ?_
     rintro _ _ ⟨rfl, rfl⟩
     refine Le u85 ?_
     refine Lo u85 (v_move (.inl rfl) rfl) ?_
     refine L_call rfl rfl rfl (by exact row_30 _ (c.take 30) (by omega)) ?_
     rintro _ _ ⟨rfl, rfl⟩
     refine Le u85 ?_
     refine L_call rfl rfl rfl (by exact Before_spec _ (b.take 30) (c.take 30)) ?_
     rintro _ _ ⟨rfl, rfl⟩
     refine Le u85 ?_
     refine Lo u85 (v_pickT rfl rfl rfl) ?_
     refine Lo u85 (rfl) ?_
     refine Lo u85 (v_move (.inl rfl) rfl) ?_
     refine L_split 78 (env1 := u85) (env2 := u85) rfl rfl rfl (fun hg5 => ?_) (fun hg5 => ?_)
     ·try simp only [qB, qN] at hg5
      refine Lf u85 ?_
      refine Lf u85 ?_
      refine Lf u85 ?_
      refine Lf u85 ?_
      refine Lf u85 ?_
      refine Lo u85 (v_pickTC (VVal.bool true) rfl rfl rfl) ?_
      refine Lo u85 (v_move (.inr rfl) rfl) ?_
      refine L_nil (K_seq (B_ret ?_))
      refine W10 (.inr rfl) (vres_tmp rfl rfl) ?_
      exact W5h
     ·try simp only [qB, qN] at hg5
      refine Lo u85 (v_move (.inl rfl) rfl) ?_
      refine L_call rfl rfl rfl (by exact row_30 _ (a.take 30) (by omega)) ?_
      rintro _ _ ⟨rfl, rfl⟩
      refine Le u85 ?_
      refine Lo u85 (v_move (.inl rfl) rfl) ?_
      refine L_call rfl rfl rfl (by exact row_30 _ (c.take 30) (by omega)) ?_
      rintro _ _ ⟨rfl, rfl⟩
      refine Le u85 ?_
      refine L_call rfl rfl rfl (by exact Before_spec _ (a.take 30) (c.take 30)) ?_
      rintro _ _ ⟨rfl, rfl⟩
      refine Le u85 ?_
      refine Lo u85 (v_pickF rfl rfl rfl) ?_
      refine Lo u85 (v_move (.inr rfl) rfl) ?_
      refine L_nil (K_seq (B_ret ?_))
      refine W10 (.inr rfl) (vres_tmp rfl rfl) ?_
      exact W5h
    ·try simp only [qB, qN] at hg4
     refine Lf u85 ?_
     refine Lf u85 ?_
     refine Lf u85 ?_
     refine Lf u85 ?_
     refine Lf u85 ?_
     refine Lo u85 (v_pickFC (VVal.bool false) rfl rfl rfl) ?_
     refine Lo u85 (rfl) ?_
     refine Lo u85 (v_move (.inl rfl) rfl) ?_
     refine Lf u85 ?_
     refine Lf u85 ?_
     refine Lf u85 ?_
     refine Lf u85 ?_
     refine Lf u85 ?_
     refine Lo u85 (v_pickTC (VVal.bool true) rfl rfl rfl) ?_
     refine Lo u85 (v_move (.inr rfl) rfl) ?_
     refine L_nil (K_seq (B_ret ?_))
     refine W10 (.inr rfl) (vres_tmp rfl rfl) ?_
     exact W5h
   ·try simp only [qB, qN] at hg3
    refine Lf u85 ?_
    refine Lf u85 ?_
    refine Lf u85 ?_
    refine Lf u85 ?_
    refine Lf u85 ?_
    refine Lf u85 ?_
    refine Lf u85 ?_
    refine Lf u85 ?_
    refine Lf u85 ?_
    refine Lf u85 ?_
    refine Lf u85 ?_
    refine Lo u85 (v_pickFC (VVal.bool false) rfl rfl rfl) ?_
    refine L_nil (K_seq ?_)
    refine B_false rfl rfl ?_
    refine B_skip (K_seq (B_seq (B_region ?_)))
    refine Lo u85 (v_move (.inl rfl) rfl) ?_
    refine L_call rfl rfl rfl (by exact row_30 _ (a.take 30) (by omega)) ?_
    rintro _ _ ⟨rfl, rfl⟩
    refine Le u85 ?_
    refine Lo u85 (v_move (.inl rfl) rfl) ?_
    refine L_call rfl rfl rfl (by exact row_30 _ (b.take 30) (by omega)) ?_
    rintro _ _ ⟨rfl, rfl⟩
    refine Le u85 ?_
    refine L_call rfl rfl rfl (by exact Before_spec _ (a.take 30) (b.take 30)) ?_
    rintro _ _ ⟨rfl, rfl⟩
    refine Le u85 ?_
    refine Lo u85 (v_move (.inl rfl) rfl) ?_
    refine L_split 70 (env1 := u85) (env2 := u85) rfl rfl rfl (fun hg6 => ?_) (fun hg6 => ?_)
    ·try simp only [qB, qN] at hg6
     refine Lo u85 (v_move (.inl rfl) rfl) ?_
     refine L_call rfl rfl rfl (by exact row_30 _ (b.take 30) (by omega)) ?_
     rintro _ _ ⟨rfl, rfl⟩
     refine Le u85 ?_
     refine Lo u85 (v_move (.inl rfl) rfl) ?_
     refine L_call rfl rfl rfl (by exact row_30 _ (c.take 30) (by omega)) ?_
     rintro _ _ ⟨rfl, rfl⟩
     refine Le u85 ?_
     refine L_call rfl rfl rfl (by exact Before_spec _ (b.take 30) (c.take 30)) ?_
     rintro _ _ ⟨rfl, rfl⟩
     refine Le u85 ?_
     refine Lo u85 (v_pickT rfl rfl rfl) ?_
     refine Lo u85 (rfl) ?_
     refine Lo u85 (v_move (.inl rfl) rfl) ?_
     refine L_split 78 (env1 := u85) (env2 := u85) rfl rfl rfl (fun hg7 => ?_) (fun hg7 => ?_)
     ·try simp only [qB, qN] at hg7
      refine Lf u85 ?_
      refine Lf u85 ?_
      refine Lf u85 ?_
      refine Lf u85 ?_
      refine Lf u85 ?_
      refine Lo u85 (v_pickTC (VVal.bool true) rfl rfl rfl) ?_
      refine Lo u85 (v_move (.inr rfl) rfl) ?_
      refine L_nil (K_seq (B_ret ?_))
      refine W10 (.inr rfl) (vres_tmp rfl rfl) ?_
      exact W5h
     ·try simp only [qB, qN] at hg7
      refine Lo u85 (v_move (.inl rfl) rfl) ?_
      refine L_call rfl rfl rfl (by exact row_30 _ (a.take 30) (by omega)) ?_
      rintro _ _ ⟨rfl, rfl⟩
      refine Le u85 ?_
      refine Lo u85 (v_move (.inl rfl) rfl) ?_
      refine L_call rfl rfl rfl (by exact row_30 _ (c.take 30) (by omega)) ?_
      rintro _ _ ⟨rfl, rfl⟩
      refine Le u85 ?_
      refine L_call rfl rfl rfl (by exact Before_spec _ (a.take 30) (c.take 30)) ?_
      rintro _ _ ⟨rfl, rfl⟩
      refine Le u85 ?_
      refine Lo u85 (v_pickF rfl rfl rfl) ?_
      refine Lo u85 (v_move (.inr rfl) rfl) ?_
      refine L_nil (K_seq (B_ret ?_))
      refine W10 (.inr rfl) (vres_tmp rfl rfl) ?_
      exact W5h
    ·try simp only [qB, qN] at hg6
     refine Lf u85 ?_
     refine Lf u85 ?_
     refine Lf u85 ?_
     refine Lf u85 ?_
     refine Lf u85 ?_
     refine Lo u85 (v_pickFC (VVal.bool false) rfl rfl rfl) ?_
     refine Lo u85 (rfl) ?_
     refine Lo u85 (v_move (.inl rfl) rfl) ?_
     refine Lf u85 ?_
     refine Lf u85 ?_
     refine Lf u85 ?_
     refine Lf u85 ?_
     refine Lf u85 ?_
     refine Lo u85 (v_pickTC (VVal.bool true) rfl rfl rfl) ?_
     refine Lo u85 (v_move (.inr rfl) rfl) ?_
     refine L_nil (K_seq (B_ret ?_))
     refine W10 (.inr rfl) (vres_tmp rfl rfl) ?_
     exact W5h
  ·try simp only [qB, qN] at hg2
   refine Lf u85 ?_
   refine Lf u85 ?_
   refine Lf u85 ?_
   refine Lf u85 ?_
   refine Lo u85 (v_pickFC (VVal.bool false) rfl rfl rfl) ?_
   refine Lo u85 (v_move (.inl rfl) rfl) ?_
   refine Lf u85 ?_
   refine Lf u85 ?_
   refine Lf u85 ?_
   refine Lf u85 ?_
   refine Lf u85 ?_
   refine Lf u85 ?_
   refine Lf u85 ?_
   refine Lf u85 ?_
   refine Lf u85 ?_
   refine Lf u85 ?_
   refine Lf u85 ?_
   refine Lo u85 (v_pickFC (VVal.bool false) rfl rfl rfl) ?_
   refine L_nil (K_seq ?_)
   refine B_false rfl rfl ?_
   refine B_skip (K_seq (B_seq (B_region ?_)))
   refine Lo u85 (v_move (.inl rfl) rfl) ?_
   refine L_call rfl rfl rfl (by exact row_30 _ (a.take 30) (by omega)) ?_
   rintro _ _ ⟨rfl, rfl⟩
   refine Le u85 ?_
   refine Lo u85 (v_move (.inl rfl) rfl) ?_
   refine L_call rfl rfl rfl (by exact row_30 _ (b.take 30) (by omega)) ?_
   rintro _ _ ⟨rfl, rfl⟩
   refine Le u85 ?_
   refine L_call rfl rfl rfl (by exact Before_spec _ (a.take 30) (b.take 30)) ?_
   rintro _ _ ⟨rfl, rfl⟩
   refine Le u85 ?_
   refine Lo u85 (v_move (.inl rfl) rfl) ?_
   refine L_split 70 (env1 := u85) (env2 := u85) rfl rfl rfl (fun hg8 => ?_) (fun hg8 => ?_)
   ·try simp only [qB, qN] at hg8
    refine Lo u85 (v_move (.inl rfl) rfl) ?_
    refine L_call rfl rfl rfl (by exact row_30 _ (b.take 30) (by omega)) ?_
    rintro _ _ ⟨rfl, rfl⟩
    refine Le u85 ?_
    refine Lo u85 (v_move (.inl rfl) rfl) ?_
    refine L_call rfl rfl rfl (by exact row_30 _ (c.take 30) (by omega)) ?_
    rintro _ _ ⟨rfl, rfl⟩
    refine Le u85 ?_
    refine L_call rfl rfl rfl (by exact Before_spec _ (b.take 30) (c.take 30)) ?_
    rintro _ _ ⟨rfl, rfl⟩
    refine Le u85 ?_
    refine Lo u85 (v_pickT rfl rfl rfl) ?_
    refine Lo u85 (rfl) ?_
    refine Lo u85 (v_move (.inl rfl) rfl) ?_
    refine L_split 78 (env1 := u85) (env2 := u85) rfl rfl rfl (fun hg9 => ?_) (fun hg9 => ?_)
    ·try simp only [qB, qN] at hg9
     refine Lf u85 ?_
     refine Lf u85 ?_
     refine Lf u85 ?_
     refine Lf u85 ?_
     refine Lf u85 ?_
     refine Lo u85 (v_pickTC (VVal.bool true) rfl rfl rfl) ?_
     refine Lo u85 (v_move (.inr rfl) rfl) ?_
     refine L_nil (K_seq (B_ret ?_))
     refine W10 (.inr rfl) (vres_tmp rfl rfl) ?_
     exact W5h
    ·try simp only [qB, qN] at hg9
     refine Lo u85 (v_move (.inl rfl) rfl) ?_
     refine L_call rfl rfl rfl (by exact row_30 _ (a.take 30) (by omega)) ?_
     rintro _ _ ⟨rfl, rfl⟩
     refine Le u85 ?_
     refine Lo u85 (v_move (.inl rfl) rfl) ?_
     refine L_call rfl rfl rfl (by exact row_30 _ (c.take 30) (by omega)) ?_
     rintro _ _ ⟨rfl, rfl⟩
     refine Le u85 ?_
     refine L_call rfl rfl rfl (by exact Before_spec _ (a.take 30) (c.take 30)) ?_
     rintro _ _ ⟨rfl, rfl⟩
     refine Le u85 ?_
     refine Lo u85 (v_pickF rfl rfl rfl) ?_
     refine Lo u85 (v_move (.inr rfl) rfl) ?_
     refine L_nil (K_seq (B_ret ?_))
     refine W10 (.inr rfl) (vres_tmp rfl rfl) ?_
     exact W5h
   ·try simp only [qB, qN] at hg8
    refine Lf u85 ?_
    refine Lf u85 ?_
    refine Lf u85 ?_
    refine Lf u85 ?_
    refine Lf u85 ?_
    refine Lo u85 (v_pickFC (VVal.bool false) rfl rfl rfl) ?_
    refine Lo u85 (rfl) ?_
    refine Lo u85 (v_move (.inl rfl) rfl) ?_
    refine Lf u85 ?_
    refine Lf u85 ?_
    refine Lf u85 ?_
    refine Lf u85 ?_
    refine Lf u85 ?_
    refine Lo u85 (v_pickTC (VVal.bool true) rfl rfl rfl) ?_
    refine Lo u85 (v_move (.inr rfl) rfl) ?_
    refine L_nil (K_seq (B_ret ?_))
    refine W10 (.inr rfl) (vres_tmp rfl rfl) ?_
    exact W5h
 ·try simp only [qB, qN] at hg1
  refine Lf u85 ?_
  refine Lf u85 ?_
  refine Lf u85 ?_
  refine Lo u85 (v_pickFC (VVal.bool false) rfl rfl rfl) ?_
  refine Lo u85 (v_move (.inl rfl) rfl) ?_
  refine Lf u85 ?_
  refine Lf u85 ?_
  refine Lf u85 ?_
  refine Lf u85 ?_
  refine Lo u85 (v_pickFC (VVal.bool false) rfl rfl rfl) ?_
  refine Lo u85 (v_move (.inl rfl) rfl) ?_
  refine Lf u85 ?_
  refine Lf u85 ?_
  refine Lf u85 ?_
  refine Lf u85 ?_
  refine Lf u85 ?_
  refine Lf u85 ?_
  refine Lf u85 ?_
  refine Lf u85 ?_
  refine Lf u85 ?_
  refine Lf u85 ?_
  refine Lf u85 ?_
  refine Lo u85 (v_pickFC (VVal.bool false) rfl rfl rfl) ?_
  refine L_nil (K_seq ?_)
  refine B_false rfl rfl ?_
  refine B_skip (K_seq (B_seq (B_region ?_)))
  refine Lo u85 (v_move (.inl rfl) rfl) ?_
  refine L_call rfl rfl rfl (by exact row_30 _ (a.take 30) (by omega)) ?_
  rintro _ _ ⟨rfl, rfl⟩
  refine Le u85 ?_
  refine Lo u85 (v_move (.inl rfl) rfl) ?_
  refine L_call rfl rfl rfl (by exact row_30 _ (b.take 30) (by omega)) ?_
  rintro _ _ ⟨rfl, rfl⟩
  refine Le u85 ?_
  refine L_call rfl rfl rfl (by exact Before_spec _ (a.take 30) (b.take 30)) ?_
  rintro _ _ ⟨rfl, rfl⟩
  refine Le u85 ?_
  refine Lo u85 (v_move (.inl rfl) rfl) ?_
  refine L_split 70 (env1 := u85) (env2 := u85) rfl rfl rfl (fun hg10 => ?_) (fun hg10 => ?_)
  ·try simp only [qB, qN] at hg10
   refine Lo u85 (v_move (.inl rfl) rfl) ?_
   refine L_call rfl rfl rfl (by exact row_30 _ (b.take 30) (by omega)) ?_
   rintro _ _ ⟨rfl, rfl⟩
   refine Le u85 ?_
   refine Lo u85 (v_move (.inl rfl) rfl) ?_
   refine L_call rfl rfl rfl (by exact row_30 _ (c.take 30) (by omega)) ?_
   rintro _ _ ⟨rfl, rfl⟩
   refine Le u85 ?_
   refine L_call rfl rfl rfl (by exact Before_spec _ (b.take 30) (c.take 30)) ?_
   rintro _ _ ⟨rfl, rfl⟩
   refine Le u85 ?_
   refine Lo u85 (v_pickT rfl rfl rfl) ?_
   refine Lo u85 (rfl) ?_
   refine Lo u85 (v_move (.inl rfl) rfl) ?_
   refine L_split 78 (env1 := u85) (env2 := u85) rfl rfl rfl (fun hg11 => ?_) (fun hg11 => ?_)
   ·try simp only [qB, qN] at hg11
    refine Lf u85 ?_
    refine Lf u85 ?_
    refine Lf u85 ?_
    refine Lf u85 ?_
    refine Lf u85 ?_
    refine Lo u85 (v_pickTC (VVal.bool true) rfl rfl rfl) ?_
    refine Lo u85 (v_move (.inr rfl) rfl) ?_
    refine L_nil (K_seq (B_ret ?_))
    refine W10 (.inr rfl) (vres_tmp rfl rfl) ?_
    exact W5h
   ·try simp only [qB, qN] at hg11
    refine Lo u85 (v_move (.inl rfl) rfl) ?_
    refine L_call rfl rfl rfl (by exact row_30 _ (a.take 30) (by omega)) ?_
    rintro _ _ ⟨rfl, rfl⟩
    refine Le u85 ?_
    refine Lo u85 (v_move (.inl rfl) rfl) ?_
    refine L_call rfl rfl rfl (by exact row_30 _ (c.take 30) (by omega)) ?_
    rintro _ _ ⟨rfl, rfl⟩
    refine Le u85 ?_
    refine L_call rfl rfl rfl (by exact Before_spec _ (a.take 30) (c.take 30)) ?_
    rintro _ _ ⟨rfl, rfl⟩
    refine Le u85 ?_
    refine Lo u85 (v_pickF rfl rfl rfl) ?_
    refine Lo u85 (v_move (.inr rfl) rfl) ?_
    refine L_nil (K_seq (B_ret ?_))
    refine W10 (.inr rfl) (vres_tmp rfl rfl) ?_
    exact W5h
  ·try simp only [qB, qN] at hg10
   refine Lf u85 ?_
   refine Lf u85 ?_
   refine Lf u85 ?_
   refine Lf u85 ?_
   refine Lf u85 ?_
   refine Lo u85 (v_pickFC (VVal.bool false) rfl rfl rfl) ?_
   refine Lo u85 (rfl) ?_
   refine Lo u85 (v_move (.inl rfl) rfl) ?_
   refine Lf u85 ?_
   refine Lf u85 ?_
   refine Lf u85 ?_
   refine Lf u85 ?_
   refine Lf u85 ?_
   refine Lo u85 (v_pickTC (VVal.bool true) rfl rfl rfl) ?_
   refine Lo u85 (v_move (.inr rfl) rfl) ?_
   refine L_nil (K_seq (B_ret ?_))
   refine W10 (.inr rfl) (vres_tmp rfl rfl) ?_
   exact W5h
theorem SolveBefore_law {x : SW} (a b c : List Int) : F (psys x) 10 [fzI a, fzI b, fzI c] [] fun v G => v = .bool true := (SolveBefore_walk [] a b c).mono fun v G h => h.1
end Go.Proofs.YtnbihdflnjpinaaDoor.VT
