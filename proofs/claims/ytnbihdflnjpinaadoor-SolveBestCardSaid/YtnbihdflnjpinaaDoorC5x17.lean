/- Proved: Rows.SolveBestCardSaid, the statement SolveBest with its card, of the given program at the commit; no conditions beyond those in the statement. -/
import Derived.Test.YtnbihdflnjpinaaDoorC5x16
import Derived.Test.YtnbihdflnjpinaaDoorRows
import Derived.LaidMore
import Derived.Stop.Joined
set_option autoImplicit false
set_option linter.unusedVariables false
set_option maxRecDepth 100000
namespace Go.Proofs.YtnbihdflnjpinaaDoor.VT
open Go Go.V Go.RowKit Go.Shelf Go.ChangeShapes Go.WideShapes Go.ChangeAt Go.WideMaps Go.WideElems
theorem own : ownKnob Tryd.prog.godebug = none := by kernel_rfl
theorem laidOut : laidOutB Tryd.prog = true := by kernel_rfl
theorem gTab : Tryd.prog.globalNamed "math/bits.deBruijn64tab" = some 0 := by kernel_rfl
theorem tTab : (Tryd.prog.globals[0]?).map (·.type) = some 149 := by kernel_rfl
abbrev laidL : List (String × DataW Unit) := [("math/bits.deBruijn64tab", Rows.laid_math_bits_deBruijn64tab)]
theorem door_met (os : Os) (args : Array Value) : laidMetH Tryd.prog laidL ((World.doorLaid Tryd.prog 400 os).forCall (fun _ _ => 0) ⟨#[], args, []⟩).memory :=
  laidMetH_of_parts3 (fuel := 8) (laidMet_of_run' 8 (by kernel_rfl) (by kernel_rfl)) (by kernel_rfl) (by kernel_rfl)
theorem laid_tab : (Rows.laid_math_bits_deBruijn64tab : DataW Unit) = .agg (Lib.deBruijn64tab.map fun n : Nat => .lit (.int .u8 (n : Int))) := by kernel_rfl
theorem of_laid {W : World} (h : laidMetH Tryd.prog laidL W) : 0 < W.heap.size ∧ TabAt 0 Lib.deBruijn64tab W := by
  rw [MakeChecks.laidMetH_plain _ _ _ (by kernel_rfl)] at h
  obtain ⟨ps, ⟨g0, t0, cs0, f0, p0, q0, hg0, ht0, hv0, hd0, _, _⟩, _, _⟩ := h
  obtain rfl := Option.some.inj (gTab.symm.trans hg0)
  obtain rfl := Option.some.inj (tTab.symm.trans ht0)
  obtain ⟨xs, m, rfl, hx, hlen, hn, hel⟩ := DataW.trod_array Tryd.underlying149 hd0
  have c5 : Tryd.prog.cellsOf 5 = 1 := by kernel_rfl
  rw [c5] at hel
  simp only [Prod.mk.injEq] at hx
  have hx1 := hx.1
  rw [laid_tab] at hx1
  simp only [DataW.agg.injEq] at hx1
  have key : TabAt 0 Lib.deBruijn64tab W := by
    intro j hj
    have hj' : j < 64 := hj
    have h1 := hel j hj'
    have hxl : j < xs.length := by rw [hn]; exact hj'
    have hxj : xs[j]? = some xs[j] := by simp [hxl]
    rw [hxj] at h1
    obtain ⟨n, e1, e2, _⟩ := DataW.trod_int Tryd.underlying5 h1
    have h2 : (xs.map (·.1))[j]? = (Lib.deBruijn64tab.map fun n : Nat => (DataW.lit (.int .u8 (n : Int)) : DataW Unit))[j]? := by rw [← hx1]
    rw [List.getElem?_map, List.getElem?_map, hxj] at h2
    have hjl : j < Lib.deBruijn64tab.length := hj
    rw [List.getElem?_eq_getElem hjl] at h2
    simp only [Option.map_some, Option.some.injEq] at h2
    rw [e2] at h2
    simp only [DataW.lit.injEq, Lit.int.injEq, true_and] at h2
    have h3 := World.var?_cell hg0 hv0 j
    have h4 : cs0[j]? = some (.int .u8 n) := by
      have : cs0.toList[j]? = some (.int .u8 n) := by
        rw [← List.head?_drop]
        rw [Nat.mul_one] at e1
        cases hd : cs0.toList.drop j with
        | nil => rw [hd] at e1; simp at e1
        | cons c r => rw [hd] at e1; simp at e1; rw [e1]; rfl
      simpa using this
    rw [h4] at h3
    rw [h3, h2]
    simp [List.getD_eq_getElem?_getD, hjl]
  refine ⟨?_, key⟩
  have h0 := key 0 (by decide)
  simp only [World.cell?] at h0
  split at h0
  · rename_i hh; exact (Array.getElem?_eq_some_iff.1 hh).1
  · cases h0
def sw {W : World} (h : laidMetH Tryd.prog laidL W) : SW := ⟨W, (of_laid h).1, (of_laid h).2⟩
end Go.Proofs.YtnbihdflnjpinaaDoor.VT

set_option autoImplicit false
set_option linter.unusedVariables false
set_option maxRecDepth 100000
namespace Go.Proofs.YtnbihdflnjpinaaDoor.VT
open Go Go.V Go.RowKit Go.ChangeShapes
abbrev T3 : Type := Int
abbrev e3 : T3 → List VVal := fun x => [iI x]
abbrev k3 : T3 → Prop := fun n => -9223372036854775808 ≤ n ∧ n < 9223372036854775808
theorem op3 : Opens Tryd.prog 3 T3 e3 k3 := Opens.int Tryd.underlying3 (by kernel_rfl)
abbrev T41 : Type := BitVec 64
abbrev e41 : T41 → List VVal := fun x => [iW x]
abbrev k41 : T41 → Prop := fun _ => True
theorem op41 : Opens Tryd.prog 41 T41 e41 k41 := Opens.word Tryd.underlying41 (by kernel_rfl)
abbrev T22 : Type := List T41
abbrev e22 : T22 → List VVal := fun x => [(fun l : List T41 => VVal.fsl (l.map iW) l.length 1 false) x]
abbrev k22 : T22 → Prop := fun l => l.length * 8 ≤ 140737488351232 ∧ ∀ x, x ∈ l → k41 x
theorem op22 : Opens Tryd.prog 22 T22 e22 k22 := Opens.slice1 (g := iW) 8 op41 Tryd.underlying22 (by kernel_rfl) (by kernel_rfl) (by kernel_rfl)
abbrev T23 : Type := List T3
abbrev e23 : T23 → List VVal := fun x => [(fun l : List T3 => VVal.fsl (l.map iI) l.length 1 false) x]
abbrev k23 : T23 → Prop := fun l => l.length * 8 ≤ 140737488351232 ∧ ∀ x, x ∈ l → k3 x
theorem op23 : Opens Tryd.prog 23 T23 e23 k23 := Opens.slice1 (g := iI) 8 op3 Tryd.underlying23 (by kernel_rfl) (by kernel_rfl) (by kernel_rfl)
abbrev T73 : Type := T3 × T3 × T23 × Unit
abbrev e73 : T73 → List VVal := fun x => e3 (x.1) ++ (e3 (x.2.1) ++ (e23 (x.2.2.1) ++ ([])))
abbrev k73 : T73 → Prop := fun x => k3 (x.1) ∧ (k3 (x.2.1) ∧ (k23 (x.2.2.1) ∧ (True)))
theorem op73 : Opens Tryd.prog 73 T73 e73 k73 := Opens.struct Tryd.underlying73 (.cons op3 (by kernel_rfl) (.cons op3 (by kernel_rfl) (.cons op23 (by kernel_rfl) (.nil _)))) (fun a => by kernel_rfl)
abbrev T24 : Type := List T73
abbrev e24 : T24 → List VVal := fun x => [(fun l : List T73 => VVal.fsl (l.flatMap e73) l.length 3 false) x]
abbrev k24 : T24 → Prop := fun l => l.length * 40 ≤ 140737488351232 ∧ ∀ x, x ∈ l → k73 x
theorem op24 : Opens Tryd.prog 24 T24 e24 k24 := Opens.slice 3 40 op73 Tryd.underlying24 (by kernel_rfl) (by kernel_rfl) (by kernel_rfl) (by decide)
abbrev T26 : Type := T3 × T22 × T23 × T24 × Unit
abbrev e26 : T26 → List VVal := fun x => e3 (x.1) ++ (e22 (x.2.1) ++ (e23 (x.2.2.1) ++ (e24 (x.2.2.2.1) ++ ([]))))
abbrev k26 : T26 → Prop := fun x => k3 (x.1) ∧ (k22 (x.2.1) ∧ (k23 (x.2.2.1) ∧ (k24 (x.2.2.2.1) ∧ (True))))
theorem op26 : Opens Tryd.prog 26 T26 e26 k26 := Opens.struct Tryd.underlying26 (.cons op3 (by kernel_rfl) (.cons op22 (by kernel_rfl) (.cons op23 (by kernel_rfl) (.cons op24 (by kernel_rfl) (.nil _))))) (fun a => by kernel_rfl)
abbrev T60 : Type := List T23
abbrev e60 : T60 → List VVal := fun x => [(fun l : List T23 => VVal.fsl (l.map (fun l : List T3 => VVal.fsl (l.map iI) l.length 1 false)) l.length 1 false) x]
abbrev k60 : T60 → Prop := fun l => l.length * 24 ≤ 140737488351232 ∧ ∀ x, x ∈ l → k23 x
theorem op60 : Opens Tryd.prog 60 T60 e60 k60 := Opens.slice1 (g := (fun l : List T3 => VVal.fsl (l.map iI) l.length 1 false)) 24 op23 Tryd.underlying60 (by kernel_rfl) (by kernel_rfl) (by kernel_rfl)
end Go.Proofs.YtnbihdflnjpinaaDoor.VT

set_option autoImplicit false
set_option linter.unusedVariables false
set_option linter.unusedSimpArgs false
set_option maxHeartbeats 4000000
set_option maxRecDepth 100000
namespace Go.Proofs.YtnbihdflnjpinaaDoor.VT
open Go Go.V Go.RowKit
end Go.Proofs.YtnbihdflnjpinaaDoor.VT

set_option autoImplicit false
set_option linter.unusedVariables false
set_option linter.unusedSimpArgs false
set_option maxHeartbeats 4000000
set_option maxRecDepth 100000
namespace Go.Proofs.YtnbihdflnjpinaaDoor.VT
open Go Go.V Go.RowKit
theorem W5l {P : Prop} (h : P := by first | exact ⟨by rw [myB_f g hi (by assumption), beq_d], rfl⟩ | exact ⟨by rw [myB_w g hi (by omega), decide_eq_false (by omega)]; rfl, rfl⟩ | exact ⟨by rw [myB_w g hi (by omega), decide_eq_true (by omega), Bool.true_and]; exact congrArg VVal.bool bit_eq, rfl⟩) : P := h
theorem lmay_spec {x : SW} (H : VHeap) (p : Pb) (g : Go.V.Good p) (i : Nat) (hi : i < p.who.length) (u : Int) : F (psys x) 34 [.agg (pbB p), iI (i : Nat), iI u] H fun v G => v = .bool (myB p i u) ∧ G = H := by
 have g5 := g.fx
 refine F_body Tryd.func34 rfl u39 rfl ?_
 refine B_seq (B_region ?_)
 refine Lo u39 (v_boxT rfl rfl rfl) ?_
 refine Lo u39 (v_const (VVal.bool false) (.inr rfl) rfl) ?_
 refine L_nil (K_seq (B_seq (B_seq (B_region ?_))))
 refine Lo u39 (rfl) ?_
 refine Lo u39 (W51 rfl rfl rfl rfl) ?_
 refine Lo u39 (v_move (.inl rfl) rfl) ?_
 refine Lo u39 (W18 rfl rfl rfl rfl rfl rfl rfl) ?_
 refine Lo u39 (W51 rfl rfl rfl rfl) ?_
 refine Lo u39 (rfl) ?_
 refine L_nil (K_seq ?_)
 refine B_cond _ rfl (fun hc1 => ?_) (fun hc1 => ?_)
 ·try simp only [qB, qN] at hc1
  refine B_seq (B_region ?_)
  refine Lo u39 (v_move (.inl rfl) rfl) ?_
  refine Lo u39 (rfl) ?_
  refine Lo u39 (W51 rfl rfl rfl rfl) ?_
  refine Lo u39 (v_move (.inl rfl) rfl) ?_
  refine Lo u39 (W18 rfl rfl rfl rfl rfl rfl rfl) ?_
  refine Lo u39 (W51 rfl rfl rfl rfl) ?_
  refine Lo u39 (rfl) ?_
  refine Lo u39 (v_move (.inr rfl) rfl) ?_
  refine L_nil (K_seq (B_ret (K_seqR ?_)))
  refine W10 (.inr rfl) (vres_tmp rfl rfl) ?_
  exact W5l
 ·try simp only [qB, qN] at hc1
  refine B_skip (K_seq (B_seq (B_region ?_)))
  refine Lo u39 (v_move (.inl rfl) rfl) ?_
  refine Lo u39 (rfl) ?_
  refine Lo u39 (v_move (.inl rfl) rfl) ?_
  refine L_split 22 (env1 := u39) (env2 := u39) rfl rfl rfl (fun hg2 => ?_) (fun hg2 => ?_)
  ·try simp only [qB, qN] at hg2
   refine Lo u39 (v_move (.inl rfl) rfl) ?_
   refine Lo u39 (rfl) ?_
   refine Lo u39 (W51 rfl rfl rfl rfl) ?_
   refine Lo u39 (rfl) ?_
   refine Lo u39 (v_pickT rfl rfl rfl) ?_
   refine Lo u39 (v_move (.inl rfl) rfl) ?_
   refine L_split 28 (env1 := u39) (env2 := u39) rfl rfl rfl (fun hg3 => ?_) (fun hg3 => ?_)
   ·try simp only [qB, qN] at hg3
    refine Lo u39 (rfl) ?_
    refine Lo u39 (W51 rfl rfl rfl rfl) ?_
    refine Lo u39 (v_move (.inl rfl) rfl) ?_
    refine Lo u39 (W18 rfl rfl rfl rfl rfl rfl rfl) ?_
    refine Lo u39 (W51 rfl rfl rfl rfl) ?_
    refine Lo u39 (v_move (.inl rfl) rfl) ?_
    refine Lo u39 (v_shrW rfl rfl rfl (by first | assumption | omega | (simp [*]; done) | (simp at *; omega))) ?_
    refine Lo u39 (v_andW (b := 1#64) rfl rfl rfl) ?_
    refine Lo u39 (rfl) ?_
    refine Lo u39 (v_pickT rfl rfl rfl) ?_
    refine Lo u39 (v_move (.inr rfl) rfl) ?_
    refine L_nil (K_seq (B_ret ?_))
    refine W10 (.inr rfl) (vres_tmp rfl rfl) ?_
    exact W5l
   ·try simp only [qB, qN] at hg3
    refine Lf u39 ?_
    refine Lf u39 ?_
    refine Lf u39 ?_
    refine Lf u39 ?_
    refine Lf u39 ?_
    refine Lf u39 ?_
    refine Lf u39 ?_
    refine Lf u39 ?_
    refine Lf u39 ?_
    refine Lo u39 (v_pickFC (VVal.bool false) rfl rfl rfl) ?_
    refine Lo u39 (v_move (.inr rfl) rfl) ?_
    refine L_nil (K_seq (B_ret ?_))
    refine W10 (.inr rfl) (vres_tmp rfl rfl) ?_
    exact W5l
  ·try simp only [qB, qN] at hg2
   refine Lf u39 ?_
   refine Lf u39 ?_
   refine Lf u39 ?_
   refine Lf u39 ?_
   refine Lo u39 (v_pickFC (VVal.bool false) rfl rfl rfl) ?_
   refine Lo u39 (v_move (.inl rfl) rfl) ?_
   refine Lf u39 ?_
   refine Lf u39 ?_
   refine Lf u39 ?_
   refine Lf u39 ?_
   refine Lf u39 ?_
   refine Lf u39 ?_
   refine Lf u39 ?_
   refine Lf u39 ?_
   refine Lf u39 ?_
   refine Lo u39 (v_pickFC (VVal.bool false) rfl rfl rfl) ?_
   refine Lo u39 (v_move (.inr rfl) rfl) ?_
   refine L_nil (K_seq (B_ret ?_))
   refine W10 (.inr rfl) (vres_tmp rfl rfl) ?_
   exact W5l
end Go.Proofs.YtnbihdflnjpinaaDoor.VT

set_option autoImplicit false
set_option linter.unusedVariables false
set_option linter.unusedSimpArgs false
set_option maxHeartbeats 4000000
set_option maxRecDepth 100000
namespace Go.Proofs.YtnbihdflnjpinaaDoor.VT
open Go Go.V Go.RowKit
abbrev u100 {a0 a1 a2 a3 a4 a5 a6 a7 a8 a9 a10 a11 a12 a13 a14 a15 a16 a17 a18 a19 a20 a21 a22 a23 a24 a25 a26 a27 a28 a29 a30 a31 a32 a33 a34 a35 a36 a37 a38 a39 a40 a41 a42 a43 a44 a45 a46 a47 a48 a49 a50 a51 a52 a53 a54 a55 a56 a57 a58 a59 a60 a61 a62 a63 a64 a65 a66 a67 a68 a69 a70 a71 a72 a73 a74 a75 a76 a77 a78 a79 a80 a81 a82 a83 a84 a85 a86 a87 a88 a89 a90 a91 a92 a93 a94 a95 a96 a97 a98 a99 : VVal} : VEnv := a0 :: a1 :: a2 :: a3 :: a4 :: a5 :: a6 :: a7 :: a8 :: a9 :: a10 :: a11 :: a12 :: a13 :: a14 :: a15 :: a16 :: a17 :: a18 :: a19 :: a20 :: a21 :: a22 :: a23 :: a24 :: a25 :: a26 :: a27 :: a28 :: a29 :: a30 :: a31 :: a32 :: a33 :: a34 :: a35 :: a36 :: a37 :: a38 :: a39 :: a40 :: a41 :: a42 :: a43 :: a44 :: a45 :: a46 :: a47 :: a48 :: a49 :: a50 :: a51 :: a52 :: a53 :: a54 :: a55 :: a56 :: a57 :: a58 :: a59 :: a60 :: a61 :: a62 :: a63 :: a64 :: a65 :: a66 :: a67 :: a68 :: a69 :: a70 :: a71 :: a72 :: a73 :: a74 :: a75 :: a76 :: a77 :: a78 :: a79 :: a80 :: a81 :: a82 :: a83 :: a84 :: a85 :: a86 :: a87 :: a88 :: a89 :: a90 :: a91 :: a92 :: a93 :: a94 :: a95 :: a96 :: a97 :: a98 :: a99 :: []
theorem W5m {T : TypeId → Option VTy} {H : VHeap} {op : Op} {ρ : Operand → VVal} {t : TypeId} {a : Operand} {y : VTy} {p : VVal} {n : Nat} {vs : List VVal} (ho : op = .load t a) (ha : ρ a = p) (hy : T t = some y) (hd : isAggDesc y.desc = true) (hn : y.size = n) (h : LdOkA H p n vs := by first | exact .inl ⟨_, _, rfl, by first | rfl | exact fgetN (f := fzI) (α := List Int) [] (by omega) | exact fgetN (α := Nat) 0 (by omega)⟩ | exact .inr ⟨_, _, _, _, rfl, by first | exact get_app rfl rfl | exact get_out (by assumption) | exact getE0 rfl rfl | exact get_out (get_app rfl rfl) | exact get_app rfl (by assumption) | assumption | (simp only [List.append_assoc, List.singleton_append, List.cons_append, List.nil_append]; refine getE (i := 0) rfl ?_ rfl; simp; done) | (simp only [List.append_assoc, List.singleton_append, List.cons_append, List.nil_append]; refine getE (i := 1) rfl ?_ rfl; simp; done) | (simp only [List.append_assoc, List.singleton_append, List.cons_append, List.nil_append]; refine getE (i := 2) rfl ?_ rfl; simp; done) | (simp only [List.append_assoc, List.singleton_append, List.cons_append, List.nil_append]; refine getE (i := 3) rfl ?_ rfl; simp; done) | (simp [*]; done), by first | rfl | exact fgetN (f := fzI) (α := List Int) [] (by omega) | exact fgetN (α := Nat) 0 (by omega)⟩) : vop T ρ H op = some (.agg vs, H) := v_ldA ho ha hy hd hn h
theorem W5o {T : TypeId → Option VTy} {H : VHeap} {op : Op} {ρ : Operand → VVal} {t : TypeId} {a : Operand} {y : VTy} {p v : VVal} (ho : op = .load t a) (ha : ρ a = p) (hy : T t = some y) (hd : isAggDesc y.desc = false) (h : LdOk H p v := by first | exact .inl ⟨_, _, rfl, by first | rfl | exact fgetN (f := fzI) (α := List Int) [] (by omega) | exact fgetN (α := Nat) 0 (by omega)⟩ | exact .inr ⟨_, _, _, _, rfl, by first | exact get_app rfl rfl | exact get_out (by assumption) | exact getE0 rfl rfl | exact get_out (get_app rfl rfl) | exact get_app rfl (by assumption) | assumption | (simp only [List.append_assoc, List.singleton_append, List.cons_append, List.nil_append]; refine getE (i := 0) rfl ?_ rfl; simp; done) | (simp only [List.append_assoc, List.singleton_append, List.cons_append, List.nil_append]; refine getE (i := 1) rfl ?_ rfl; simp; done) | (simp only [List.append_assoc, List.singleton_append, List.cons_append, List.nil_append]; refine getE (i := 2) rfl ?_ rfl; simp; done) | (simp only [List.append_assoc, List.singleton_append, List.cons_append, List.nil_append]; refine getE (i := 3) rfl ?_ rfl; simp; done) | (simp [*]; done), by first | rfl | exact fgetN (f := fzI) (α := List Int) [] (by omega) | exact fgetN (α := Nat) 0 (by omega)⟩) : vop T ρ H op = some (v, H) := v_ld ho ha hy hd h
theorem leA_least {p : Pb} {l : List Nat} (h : leA p = some l) {us : List Int} (hd : hds p us = true) : bef us (zI l) = false := by
  have hn := hds_nat hd
  rw [hn] at hd ⊢
  obtain ⟨g, hp⟩ := hds_plan.1 hd
  unfold leA at h
  rw [if_pos (pck_good.2 g)] at h
  unfold rssP at h
  rw [← wsP_len] at h
  have g1 := g.n12
  exact fd_least (by rw [wsP_len]; omega) (fun r hr => by rw [wsP_len]; exact g.ru r hr) h hp
abbrev fzII (ls : List (List Int)) : VVal := .fsl (ls.map fzI) ls.length 1 false
theorem Before_no {x : SW} (H : VHeap) (p : Pb) (us : List Int) (l : List Nat) (h : leA p = some l) (hd : hds p us = true) : F (psys x) 35 [fzI us, fzN l] H fun v G => v = .bool false ∧ G = H := by
  have := Before_spec (x := x) H us (zI l)
  rw [leA_least h hd, ← fzN_is] at this; exact this
theorem Holds_no {x : SW} (H : VHeap) (p : Pb) (us : List Int) (hp : PbL p) (hu : us.length ≤ 1000000) (h : leA p = none) : F (psys x) 16 [.agg (pbB p), fzI us] H fun v G => v = .bool false ∧ G = H := by
  have := Holds_spec (x := x) H p us hp hu
  rw [leA_none h us] at this; exact this
theorem may_yes {x : SW} (H : VHeap) (p : Pb) (l : List Nat) (hd : hds p (zI l) = true) (i : Nat) (hi : i < l.length) : F (psys x) 34 [.agg (pbB p), iI (i : Nat), iI (l.getD i 0 : Nat)] H fun v G => v = .bool true ∧ G = H := by
  obtain ⟨g, hl, hm, _⟩ := hds_iff.1 hd
  rw [zI_len] at hl
  have h1 := hm i (by omega)
  rw [zI_get hi] at h1
  have := lmay_spec (x := x) H p g i (by omega) (l.getD i 0 : Nat)
  rw [h1] at this; exact this
theorem Best_y {x : SW} (H : VHeap) (p : Pb) (ls : List (List Int)) (hu : -9223372036854775808 ≤ p.users ∧ p.users < 9223372036854775808) (hls : ls.length ≤ 6000000000000) (l : List Nat) (hle : leA (fewP p 9) = some l) : F (psys x) 11 [.agg (pbB p), fzII ls] H fun v G => v = .bool true ∧ G = H := by
 have hL := fewP_L (m := 9) hu
 have hd := leA_some hle
 have hl9 := hds_len' hd
 have hll := hl9.1
 have hck : pck (fewP p 9) = 0 := pck_good.2 (hds_iff.1 hd).1
 refine F_body Tryd.func11 rfl u100 rfl ?_
 refine B_seq (B_region ?_)
 refine Lo u100 (v_boxT rfl rfl rfl) ?_
 refine Lo u100 (v_const (VVal.bool false) (.inr rfl) rfl) ?_
 refine L_nil (K_seq (B_seq ?_))
 refine B_gh (Gh.freezePtrL (cs := pbB p) 2 0 rfl rfl rfl) ?_
 refine B_region ?_
 refine Lo u100 (W5m rfl rfl rfl rfl rfl) ?_
 refine L_call rfl rfl rfl (by exact Few_spec _ p 9 hu) ?_
 rintro _ _ ⟨rfl, rfl⟩
 refine Le u100 ?_
 refine Lo u100 (v_alloc rfl rfl) ?_
 refine Lo u100 (W13 rfl rfl rfl rfl rfl rfl rfl) ?_
 refine L_nil (K_seq (B_seq ?_))
 refine B_gh (Gh.freezePtrL (cs := pbB (fewP p 9)) 5 1 rfl rfl rfl) ?_
 refine B_region ?_
 refine L_call rfl rfl rfl (by exact sNew_spec _) ?_
 rintro _ _ ⟨rfl, rfl⟩
 refine Le u100 ?_
 refine Lo u100 (v_move (.inr rfl) rfl) ?_
 refine L_nil (K_seq (B_seq (B_seq (B_region ?_))))
 refine Lo u100 (v_move (.inl rfl) rfl) ?_
 refine Lo u100 (v_is false rfl rfl) ?_
 refine Lo u100 (v_move (.inl rfl) rfl) ?_
 refine L_call rfl rfl rfl (by exact wakes_spec _) ?_
 rintro _ _ ⟨rfl, rfl⟩
 refine Le u100 ?_
 refine Lo u100 (rfl) ?_
 refine Lo u100 (v_pickF rfl rfl rfl) ?_
 refine L_nil (K_seq ?_)
 refine B_false rfl rfl ?_
 refine B_skip (K_seq (B_seq (B_region ?_)))
 refine Lo u100 (v_move (.inl rfl) rfl) ?_
 refine Lo u100 (W5m rfl rfl rfl rfl rfl) ?_
 refine L_call rfl rfl rfl (by exact Cut_few _ p 9) ?_
 rintro _ _ ⟨rfl, rfl⟩
 refine Le u100 ?_
 refine L_call rfl rfl rfl (by exact sLeast_at _ _ 0 (fewP p 9) hL) ?_
 rintro v _ ⟨hv, rfl⟩; rw [hle] at hv; subst hv
 refine Le u100 ?_
 refine Lo u100 (v_move (.inl rfl) rfl) ?_
 refine Lo u100 (rfl) ?_
 refine Lo u100 (rfl) ?_
 refine Lo u100 (v_move (.inr rfl) rfl) ?_
 refine Lo u100 (v_move (.inr rfl) rfl) ?_
 refine L_nil (K_seq (B_seq (B_seq (B_region ?_))))
 refine Lo u100 (v_move (.inl rfl) rfl) ?_
 refine L_nil (K_seq ?_)
 refine B_true rfl rfl ?_
 refine B_seq (B_seq (B_region ?_))
 refine Lo u100 (W5m rfl rfl rfl rfl rfl) ?_
 refine L_call rfl rfl rfl (by exact Cut_few _ p 9) ?_
 rintro _ _ ⟨rfl, rfl⟩
 refine Le u100 ?_
 refine L_call rfl rfl rfl (by exact sCheck_spec _ (fewP p 9) hL) ?_
 rintro v _ ⟨hv, rfl⟩; rw [hck] at hv; subst hv
 refine Le u100 ?_
 refine Lo u100 (v_is false rfl rfl) ?_
 refine Lo u100 (v_move (.inl rfl) rfl) ?_
 refine Lo u100 (v_move (.inl rfl) rfl) ?_
 refine Lo u100 (rfl) ?_
 refine Lo u100 (rfl) ?_
 refine Lo u100 (W5o rfl rfl rfl rfl) ?_
 refine Lo u100 (rfl) ?_
 refine Lo u100 (v_is false rfl (by simp [hll])) ?_
 refine Lo u100 (v_pickF rfl rfl rfl) ?_
 refine Lo u100 (v_move (.inl rfl) rfl) ?_
 refine Lo u100 (W5m rfl rfl rfl rfl rfl) ?_
 refine L_call rfl rfl rfl (by exact Cut_few _ p 9) ?_
 rintro _ _ ⟨rfl, rfl⟩
 refine Le u100 ?_
 refine Lo u100 (v_move (.inl rfl) rfl) ?_
 refine L_call rfl rfl rfl (by exact row_N _ l (by omega)) ?_
 rintro _ _ ⟨rfl, rfl⟩
 refine Le u100 ?_
 refine L_call rfl rfl rfl (by exact Holds_N _ (fewP p 9) l hL (by omega) hd) ?_
 rintro _ _ ⟨rfl, rfl⟩
 refine Le u100 ?_
 refine Lo u100 (rfl) ?_
 refine Lo u100 (v_pickF rfl rfl rfl) ?_
 refine L_nil (K_seq ?_)
 refine B_false rfl rfl ?_
 refine B_skip (K_seq (B_seq (B_region ?_)))
 refine Lo u100 (v_const (VVal.int .i64 0) (.inr rfl) rfl) ?_
 refine L_nil (K_seq (B_block ?_))
 refine B_clear (mk 100 1267650600228229401496703204445) (env' := u100) rfl ?_
 refine B_loopE (fun (k : Nat) => l.length - k) (fun (k : Nat) => [(9, iI (k : Nat))]) (fun (k : Nat) G => (k ≤ l.length) ∧ G = (H ++ [.dead, .dead]) ++ [gaB (0 + leG (fewP p 9))]) 0 rfl ?_ ?_
 ·refine ⟨?_, rfl⟩
  exact Nat.zero_le _
 rintro k _ ⟨hk, rfl⟩
 refine B_env (env' := u100) rfl ?_
 refine B_seq (B_seq (B_region ?_))
 refine Lo u100 (v_move (.inl rfl) rfl) ?_
 refine Lo u100 (v_move (.inl rfl) rfl) ?_
 refine Lo u100 (rfl) ?_
 refine Lo u100 (rfl) ?_
 refine L_nil (K_seq ?_)
 refine B_cond _ rfl (fun hc1 => ?_) (fun hc1 => ?_)
 ·try simp only [qB, qN] at hc1
  refine B_skip (K_seq (B_seq (B_block (B_seq ?_))))
  refine B_draw [0, 1, 2, 3, 4, 5, 6, 7] #[0, 0, 0, 0, 12, 28, 63, 127] (by kernel_rfl) (by kernel_rfl) (by kernel_rfl) ?_
  refine Oo u100 .look rfl (W5m rfl rfl rfl rfl rfl) ?_
  refine Oo u100 .calm rfl (v_move (.inl rfl) rfl) ?_
  refine Oo u100 .calm rfl (v_move (.inl rfl) rfl) ?_
  refine Oo u100 .calm rfl (v_move (.inl rfl) rfl) ?_
  refine Oo u100 .calm rfl (W18 rfl rfl rfl rfl rfl rfl rfl) ?_
  refine Oo u100 .look rfl (W5o rfl rfl rfl rfl) ?_
  refine O_call (env' := u100) rfl rfl rfl rfl rfl (by exact may_yes _ (fewP p 9) l hd k (by omega)) (by first | exact Nat.le_refl _ | simp) rfl rfl ?_
  refine Oo u100 .calm rfl (rfl) ?_
  refine O_nil [] (by kernel_rfl) (trivial) ?_
  refine K_seq ?_
  refine B_false rfl rfl ?_
  refine B_skip (K_blk (K_seq (B_region ?_)))
  refine Lo u100 (v_move (.inl rfl) rfl) ?_
  refine Lo u100 (W14 rfl rfl rfl) ?_
  refine Lo u100 (v_move (.inr rfl) rfl) ?_
  refine L_nil ?_
  refine K_loop (mk 100 1267650600228229401496703204445) (env' := u100) rfl ⟨k + 1, ?_, rfl, ?_⟩
  ·first | omega | (simp only []; omega)
  ·exact ⟨by omega, rfl⟩
 ·try simp only [qB, qN] at hc1
  refine B_exit (K_seqX (K_loopX (K_blkX (K_seq (B_seq (B_seq (B_region ?_)))))))
  refine Lo u100 (v_const (VVal.int .i64 0) (.inr rfl) rfl) ?_
  refine L_nil (K_seq (B_block ?_))
  refine B_clear (mk 100 1267650600228229401496703203933) (env' := u100) rfl ?_
  refine B_loopE (fun (m : Nat) => ls.length - m) (fun (m : Nat) => [(10, iI (m : Nat))]) (fun (m : Nat) G => (m ≤ ls.length) ∧ G = (H ++ [.dead, .dead]) ++ [gaB (0 + leG (fewP p 9))]) 0 rfl ?_ ?_
  ·refine ⟨?_, rfl⟩
   exact Nat.zero_le _
  rintro m _ ⟨hm, rfl⟩
  refine B_env (env' := u100) rfl ?_
  refine B_seq (B_seq (B_region ?_))
  refine Lo u100 (v_move (.inl rfl) rfl) ?_
  refine Lo u100 (v_move (.inl rfl) rfl) ?_
  refine Lo u100 (rfl) ?_
  refine Lo u100 (rfl) ?_
  refine Lo u100 (v_move (.inl rfl) rfl) ?_
  refine L_split 66 (env1 := u100) (env2 := u100) rfl rfl rfl (fun hg2 => ?_) (fun hg2 => ?_)
  ·try simp only [qB, qN] at hg2
   refine Lo u100 (v_move (.inl rfl) rfl) ?_
   refine Lo u100 (rfl) ?_
   refine Lo u100 (v_pickT rfl rfl rfl) ?_
   refine L_nil (K_seq ?_)
   refine B_cond _ rfl (fun hc3 => ?_) (fun hc3 => ?_)
   ·try simp only [qB, qN] at hc3
    refine B_skip (K_seq (B_seq (B_block (B_seq ?_))))
    have h30 : ((ls.getD m []).take 30).length ≤ 30 := by rw [List.length_take]; omega
    refine B_draw [0, 2, 3, 4, 5, 1, 6, 7, 8, 9, 10, 11, 12, 13, 14, 15, 17, 16, 18, 19, 20, 21] #[0, 1, 0, 0, 12, 28, 63, 127, 255, 511, 1023, 2047, 4095, 4095, 16383, 32767, 65535, 4095, 262143, 524287, 1048575, 2097151] (by kernel_rfl) (by kernel_rfl) (by kernel_rfl) ?_
    refine Oo u100 .look rfl (W5m rfl rfl rfl rfl rfl) ?_
    refine Oo u100 .calm rfl (v_move (.inl rfl) rfl) ?_
    refine Oo u100 .calm rfl (v_move (.inl rfl) rfl) ?_
    refine Oo u100 .calm rfl (W18 rfl rfl rfl rfl rfl rfl rfl) ?_
    refine O_opI (env' := u100) (x := .look _ _) rfl rfl rfl (W5o rfl rfl rfl rfl) rfl rfl rfl ?_
    refine O_call (env' := u100) rfl rfl rfl rfl rfl (by exact Cut_few _ p 9) (by first | exact Nat.le_refl _ | simp) rfl rfl ?_
    refine O_call (env' := u100) rfl rfl rfl rfl rfl (by exact row_spec _ (ls.getD m [])) (by first | exact Nat.le_refl _ | simp) rfl rfl ?_
    refine O_call (env' := u100) rfl rfl rfl rfl rfl (by exact Holds_spec _ (fewP p 9) ((ls.getD m []).take 30) hL (by omega)) (by first | exact Nat.le_refl _ | simp) rfl rfl ?_
    refine Oo u100 .calm rfl (v_move (.inl rfl) rfl) ?_
    refine O_split 80 (env1 := u100) (env2 := u100) rfl rfl rfl (fun hg4 => ?_) (fun hg4 => ?_)
    ·try simp only [qB, qN] at hg4
     refine Oo u100 .calm rfl (v_move (.inl rfl) rfl) ?_
     refine Oo u100 .calm rfl (rfl) ?_
     refine Oo u100 .calm rfl (v_move (.inl rfl) rfl) ?_
     refine Oo u100 .calm rfl (v_move (.inl rfl) rfl) ?_
     refine Oo u100 .calm rfl (v_move (.inl rfl) rfl) ?_
     refine Oo u100 .calm rfl (W18 rfl rfl rfl rfl rfl rfl rfl) ?_
     refine Oo u100 .look rfl (W5o rfl rfl rfl rfl) ?_
     refine Oo u100 .calm rfl (v_move (.inl rfl) rfl) ?_
     refine O_call (env' := u100) rfl rfl rfl rfl rfl (by exact row_spec _ (ls.getD m [])) (by first | exact Nat.le_refl _ | simp) rfl rfl ?_
     refine O_call (env' := u100) rfl rfl rfl rfl rfl (by exact row_N _ l (by omega)) (by first | exact Nat.le_refl _ | simp) rfl rfl ?_
     refine O_call (env' := u100) rfl rfl rfl rfl rfl (by exact Before_no _ (fewP p 9) ((ls.getD m []).take 30) l hle (by assumption)) (by first | exact Nat.le_refl _ | simp) rfl rfl ?_
     refine Oo u100 .calm rfl (v_pickF rfl rfl rfl) ?_
     refine Oo u100 .calm rfl (v_pickT rfl rfl rfl) ?_
     refine O_nilP [(4, 5)] (by kernel_rfl) (And.intro ⟨_, _, _, _, ⟨(gA (gA (gA (gA (gA (gA (gA (gA (gA (gA (gA (gA (gA (gA (gA (gA (gA (gL (by kernel_rfl))))))))))))))))))), (gA (gA (gA (gA (gA (gA (gA (gA (gA (gA (gA (gA (gA (gA (gA (gA (gL (by kernel_rfl)))))))))))))))))), And.intro (W5o rfl rfl rfl rfl) (W5o rfl rfl rfl rfl)⟩⟩ (trivial)) ?_
     refine K_seq ?_
     refine B_false rfl rfl ?_
     refine B_skip (K_blk (K_seq (B_region ?_)))
     refine Lo u100 (v_move (.inl rfl) rfl) ?_
     refine Lo u100 (W14 rfl rfl rfl) ?_
     refine Lo u100 (v_move (.inr rfl) rfl) ?_
     refine L_nil ?_
     refine K_loop (mk 100 1267650600228229401496703203933) (env' := u100) rfl ⟨m + 1, ?_, rfl, ?_⟩
     ·first | omega | (simp only []; omega)
     ·exact ⟨by omega, rfl⟩
    ·try simp only [qB, qN] at hg4
     refine Of u100 rfl ?_
     refine Of u100 rfl ?_
     refine Of u100 rfl ?_
     refine Of u100 rfl ?_
     refine Of u100 rfl ?_
     refine Of u100 rfl ?_
     refine Of u100 rfl ?_
     refine Of u100 rfl ?_
     refine Of u100 rfl ?_
     refine Of u100 rfl ?_
     refine Of u100 rfl ?_
     refine Of u100 rfl ?_
     refine Oo u100 .calm rfl (v_pickFC (VVal.bool false) rfl rfl rfl) ?_
     refine O_nilP [(4, 5)] (by kernel_rfl) (And.intro ⟨_, _, _, _, ⟨(gA (gA (gA (gA (gA (gA (gA (gA (gA (gA (gA (gA (gA (gA (gA (gA (gA (gL (by kernel_rfl))))))))))))))))))), (gA (gA (gA (gA (gA (gA (gA (gA (gA (gA (gA (gA (gA (gA (gA (gA (gL (by kernel_rfl)))))))))))))))))), And.intro (W5o rfl rfl rfl rfl) (W5o rfl rfl rfl rfl)⟩⟩ (trivial)) ?_
     refine K_seq ?_
     refine B_false rfl rfl ?_
     refine B_skip (K_blk (K_seq (B_region ?_)))
     refine Lo u100 (v_move (.inl rfl) rfl) ?_
     refine Lo u100 (W14 rfl rfl rfl) ?_
     refine Lo u100 (v_move (.inr rfl) rfl) ?_
     refine L_nil ?_
     refine K_loop (mk 100 1267650600228229401496703203933) (env' := u100) rfl ⟨m + 1, ?_, rfl, ?_⟩
     ·first | omega | (simp only []; omega)
     ·exact ⟨by omega, rfl⟩
   ·try simp only [qB, qN] at hc3
    refine B_exit (K_seqX (K_loopX (K_blkX (K_seq (B_seq (B_region ?_))))))
    refine Lo u100 (v_move (.inl rfl) rfl) ?_
    refine Lo u100 (v_move (.inl rfl) rfl) ?_
    refine Lf u100 ?_
    refine Lf u100 ?_
    refine Lf u100 ?_
    refine Lo u100 (v_pickTC (VVal.bool true) rfl rfl rfl) ?_
    refine Lo u100 (v_move (.inr rfl) rfl) ?_
    refine L_nil (K_seq ?_)
    refine B_heap (List.append_assoc _ _ _) ?_
    refine B_ret ?_
    refine W10 (.inr rfl) (vres_tmp rfl rfl) ?_
    exact ⟨rfl, rfl⟩
  ·try simp only [qB, qN] at hg2
   refine Lf u100 ?_
   refine Lf u100 ?_
   refine Lo u100 (v_pickFC (VVal.bool false) rfl rfl rfl) ?_
   refine L_nil (K_seq ?_)
   refine B_false rfl rfl ?_
   refine B_exit (K_seqX (K_loopX (K_blkX (K_seq (B_seq (B_region ?_))))))
   refine Lo u100 (v_move (.inl rfl) rfl) ?_
   refine Lo u100 (v_move (.inl rfl) rfl) ?_
   refine Lf u100 ?_
   refine Lf u100 ?_
   refine Lf u100 ?_
   refine Lo u100 (v_pickTC (VVal.bool true) rfl rfl rfl) ?_
   refine Lo u100 (v_move (.inr rfl) rfl) ?_
   refine L_nil (K_seq ?_)
   refine B_heap (List.append_assoc _ _ _) ?_
   refine B_ret ?_
   refine W10 (.inr rfl) (vres_tmp rfl rfl) ?_
   exact ⟨rfl, rfl⟩
theorem Best_n {x : SW} (H : VHeap) (p : Pb) (ls : List (List Int)) (hu : -9223372036854775808 ≤ p.users ∧ p.users < 9223372036854775808) (hls : ls.length ≤ 6000000000000) (hle : leA (fewP p 9) = none) : F (psys x) 11 [.agg (pbB p), fzII ls] H fun v G => v = .bool true ∧ G = H := by
 have hL := fewP_L (m := 9) hu
 refine F_body Tryd.func11 rfl u100 rfl ?_
 refine B_seq (B_region ?_)
 refine Lo u100 (v_boxT rfl rfl rfl) ?_
 refine Lo u100 (v_const (VVal.bool false) (.inr rfl) rfl) ?_
 refine L_nil (K_seq (B_seq ?_))
 refine B_gh (Gh.freezePtrL (cs := pbB p) 2 0 rfl rfl rfl) ?_
 refine B_region ?_
 refine Lo u100 (W5m rfl rfl rfl rfl rfl) ?_
 refine L_call rfl rfl rfl (by exact Few_spec _ p 9 hu) ?_
 rintro _ _ ⟨rfl, rfl⟩
 refine Le u100 ?_
 refine Lo u100 (v_alloc rfl rfl) ?_
 refine Lo u100 (W13 rfl rfl rfl rfl rfl rfl rfl) ?_
 refine L_nil (K_seq (B_seq ?_))
 refine B_gh (Gh.freezePtrL (cs := pbB (fewP p 9)) 5 1 rfl rfl rfl) ?_
 refine B_region ?_
 refine L_call rfl rfl rfl (by exact sNew_spec _) ?_
 rintro _ _ ⟨rfl, rfl⟩
 refine Le u100 ?_
 refine Lo u100 (v_move (.inr rfl) rfl) ?_
 refine L_nil (K_seq (B_seq (B_seq (B_region ?_))))
 refine Lo u100 (v_move (.inl rfl) rfl) ?_
 refine Lo u100 (v_is false rfl rfl) ?_
 refine Lo u100 (v_move (.inl rfl) rfl) ?_
 refine L_call rfl rfl rfl (by exact wakes_spec _) ?_
 rintro _ _ ⟨rfl, rfl⟩
 refine Le u100 ?_
 refine Lo u100 (rfl) ?_
 refine Lo u100 (v_pickF rfl rfl rfl) ?_
 refine L_nil (K_seq ?_)
 refine B_false rfl rfl ?_
 refine B_skip (K_seq (B_seq (B_region ?_)))
 refine Lo u100 (v_move (.inl rfl) rfl) ?_
 refine Lo u100 (W5m rfl rfl rfl rfl rfl) ?_
 refine L_call rfl rfl rfl (by exact Cut_few _ p 9) ?_
 rintro _ _ ⟨rfl, rfl⟩
 refine Le u100 ?_
 refine L_call rfl rfl rfl (by exact sLeast_at _ _ 0 (fewP p 9) hL) ?_
 rintro v _ ⟨hv, rfl⟩; rw [hle] at hv; subst hv
 refine Le u100 ?_
 refine Lo u100 (v_move (.inl rfl) rfl) ?_
 refine Lo u100 (rfl) ?_
 refine Lo u100 (rfl) ?_
 refine Lo u100 (v_move (.inr rfl) rfl) ?_
 refine Lo u100 (v_move (.inr rfl) rfl) ?_
 refine L_nil (K_seq (B_seq (B_seq (B_region ?_))))
 refine Lo u100 (v_move (.inl rfl) rfl) ?_
 refine L_nil (K_seq ?_)
 refine B_false rfl rfl ?_
 refine B_skip (K_seq (B_seq (B_seq (B_region ?_))))
 refine Lo u100 (v_const (VVal.int .i64 0) (.inr rfl) rfl) ?_
 refine L_nil (K_seq (B_block ?_))
 refine B_clear (mk 100 1267650600228229401496703203933) (env' := u100) rfl ?_
 refine B_loopE (fun (m : Nat) => ls.length - m) (fun (m : Nat) => [(10, iI (m : Nat))]) (fun (m : Nat) G => (m ≤ ls.length) ∧ G = (H ++ [.dead, .dead]) ++ [gaB (0 + leG (fewP p 9))]) 0 rfl ?_ ?_
 ·refine ⟨?_, rfl⟩
  exact Nat.zero_le _
 rintro m _ ⟨hm, rfl⟩
 refine B_env (env' := u100) rfl ?_
 refine B_seq (B_seq (B_region ?_))
 refine Lo u100 (v_move (.inl rfl) rfl) ?_
 refine Lo u100 (v_move (.inl rfl) rfl) ?_
 refine Lo u100 (rfl) ?_
 refine Lo u100 (rfl) ?_
 refine Lo u100 (v_move (.inl rfl) rfl) ?_
 refine L_split 66 (env1 := u100) (env2 := u100) rfl rfl rfl (fun hg1 => ?_) (fun hg1 => ?_)
 ·try simp only [qB, qN] at hg1
  refine Lo u100 (v_move (.inl rfl) rfl) ?_
  refine Lo u100 (rfl) ?_
  refine Lo u100 (v_pickT rfl rfl rfl) ?_
  refine L_nil (K_seq ?_)
  refine B_cond _ rfl (fun hc2 => ?_) (fun hc2 => ?_)
  ·try simp only [qB, qN] at hc2
   refine B_skip (K_seq (B_seq (B_block (B_seq ?_))))
   have h30 : ((ls.getD m []).take 30).length ≤ 30 := by rw [List.length_take]; omega
   refine B_draw [0, 2, 3, 4, 5, 1, 6, 7, 8, 9, 10, 11, 12, 13, 14, 15, 17, 16, 18, 19, 20, 21] #[0, 1, 0, 0, 12, 28, 63, 127, 255, 511, 1023, 2047, 4095, 4095, 16383, 32767, 65535, 4095, 262143, 524287, 1048575, 2097151] (by kernel_rfl) (by kernel_rfl) (by kernel_rfl) ?_
   refine Oo u100 .look rfl (W5m rfl rfl rfl rfl rfl) ?_
   refine Oo u100 .calm rfl (v_move (.inl rfl) rfl) ?_
   refine Oo u100 .calm rfl (v_move (.inl rfl) rfl) ?_
   refine Oo u100 .calm rfl (W18 rfl rfl rfl rfl rfl rfl rfl) ?_
   refine O_opI (env' := u100) (x := .look _ _) rfl rfl rfl (W5o rfl rfl rfl rfl) rfl rfl rfl ?_
   refine O_call (env' := u100) rfl rfl rfl rfl rfl (by exact Cut_few _ p 9) (by first | exact Nat.le_refl _ | simp) rfl rfl ?_
   refine O_call (env' := u100) rfl rfl rfl rfl rfl (by exact row_spec _ (ls.getD m [])) (by first | exact Nat.le_refl _ | simp) rfl rfl ?_
   refine O_call (env' := u100) rfl rfl rfl rfl rfl (by exact Holds_no _ (fewP p 9) ((ls.getD m []).take 30) hL (by omega) hle) (by first | exact Nat.le_refl _ | simp) rfl rfl ?_
   refine Oo u100 .calm rfl (v_move (.inl rfl) rfl) ?_
   refine Of u100 rfl ?_
   refine Of u100 rfl ?_
   refine Of u100 rfl ?_
   refine Of u100 rfl ?_
   refine Of u100 rfl ?_
   refine Of u100 rfl ?_
   refine Of u100 rfl ?_
   refine Of u100 rfl ?_
   refine Of u100 rfl ?_
   refine Of u100 rfl ?_
   refine Of u100 rfl ?_
   refine Of u100 rfl ?_
   refine Oo u100 .calm rfl (v_pickFC (VVal.bool false) rfl rfl rfl) ?_
   refine O_nilP [(4, 5)] (by kernel_rfl) (And.intro ⟨_, _, _, _, ⟨(gA (gA (gA (gA (gA (gA (gA (gA (gA (gA (gA (gA (gA (gA (gA (gA (gA (gL (by kernel_rfl))))))))))))))))))), (gA (gA (gA (gA (gA (gA (gA (gA (gA (gA (gA (gA (gA (gA (gA (gA (gL (by kernel_rfl)))))))))))))))))), And.intro (W5o rfl rfl rfl rfl) (W5o rfl rfl rfl rfl)⟩⟩ (trivial)) ?_
   refine K_seq ?_
   refine B_false rfl rfl ?_
   refine B_skip (K_blk (K_seq (B_region ?_)))
   refine Lo u100 (v_move (.inl rfl) rfl) ?_
   refine Lo u100 (W14 rfl rfl rfl) ?_
   refine Lo u100 (v_move (.inr rfl) rfl) ?_
   refine L_nil ?_
   refine K_loop (mk 100 1267650600228229401496703203933) (env' := u100) rfl ⟨m + 1, ?_, rfl, ?_⟩
   ·first | omega | (simp only []; omega)
   ·exact ⟨by omega, rfl⟩
  ·try simp only [qB, qN] at hc2
   refine B_exit (K_seqX (K_loopX (K_blkX (K_seq (B_seq (B_region ?_))))))
   refine Lo u100 (v_move (.inl rfl) rfl) ?_
   refine Lo u100 (v_move (.inl rfl) rfl) ?_
   refine Lo u100 (v_move (.inl rfl) rfl) ?_
   refine Lo u100 (rfl) ?_
   refine Lo u100 (v_is true rfl rfl) ?_
   refine Lo u100 (v_pickF rfl rfl rfl) ?_
   refine Lo u100 (v_move (.inr rfl) rfl) ?_
   refine L_nil (K_seq ?_)
   refine B_heap (List.append_assoc _ _ _) ?_
   refine B_ret ?_
   refine W10 (.inr rfl) (vres_tmp rfl rfl) ?_
   exact ⟨rfl, rfl⟩
 ·try simp only [qB, qN] at hg1
  refine Lf u100 ?_
  refine Lf u100 ?_
  refine Lo u100 (v_pickFC (VVal.bool false) rfl rfl rfl) ?_
  refine L_nil (K_seq ?_)
  refine B_false rfl rfl ?_
  refine B_exit (K_seqX (K_loopX (K_blkX (K_seq (B_seq (B_region ?_))))))
  refine Lo u100 (v_move (.inl rfl) rfl) ?_
  refine Lo u100 (v_move (.inl rfl) rfl) ?_
  refine Lo u100 (v_move (.inl rfl) rfl) ?_
  refine Lo u100 (rfl) ?_
  refine Lo u100 (v_is true rfl rfl) ?_
  refine Lo u100 (v_pickF rfl rfl rfl) ?_
  refine Lo u100 (v_move (.inr rfl) rfl) ?_
  refine L_nil (K_seq ?_)
  refine B_heap (List.append_assoc _ _ _) ?_
  refine B_ret ?_
  refine W10 (.inr rfl) (vres_tmp rfl rfl) ?_
  exact ⟨rfl, rfl⟩
theorem SolveBest_walk {x : SW} (H : VHeap) (p : Pb) (ls : List (List Int)) (hu : -9223372036854775808 ≤ p.users ∧ p.users < 9223372036854775808) (hls : ls.length ≤ 6000000000000) : F (psys x) 11 [.agg (pbB p), fzII ls] H fun v G => v = .bool true ∧ G = H := by
  cases e : leA (fewP p 9) with
  | some l => exact Best_y H p ls hu hls l e
  | none => exact Best_n H p ls hu hls e
theorem SolveBest_law {x : SW} (p : Pb) (ls : List (List Int)) (hu : -9223372036854775808 ≤ p.users ∧ p.users < 9223372036854775808) (hls : ls.length ≤ 6000000000000) : F (psys x) 11 [.agg (pbB p), fzII ls] [] fun v G => v = .bool true := (SolveBest_walk [] p ls hu hls).mono fun v G h => h.1
end Go.Proofs.YtnbihdflnjpinaaDoor.VT
