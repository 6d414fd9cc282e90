/- Proved: Rows.HardyNeededCardSaid, the statement HardyNeeded with its card, of the given program at the commit; no conditions beyond those in the statement. -/
import Derived.Test.YtgbahioegcpjiaaDoorC7x16
import Derived.Test.YtgbahioegcpjiaaDoorRows
import Derived.LaidMore
import Derived.Stop.Joined
set_option autoImplicit false
set_option linter.unusedVariables false
set_option maxRecDepth 100000
namespace Go.Proofs.YtgbahioegcpjiaaDoor.VT
open Go Go.V Go.RowKit Go.Shelf Go.ChangeShapes Go.WideShapes Go.ChangeAt Go.WideMaps Go.WideElems
theorem own : ownKnob Tryd.prog.godebug = none := by kernel_rfl
theorem laidOut : laidOutB Tryd.prog = true := by kernel_rfl
theorem gTab : Tryd.prog.globalNamed "math/bits.deBruijn64tab" = some 0 := by kernel_rfl
theorem tTab : (Tryd.prog.globals[0]?).map (·.type) = some 180 := by kernel_rfl
abbrev laidL : List (String × DataW Unit) := [("math/bits.deBruijn64tab", Rows.laid_math_bits_deBruijn64tab)]
theorem door_met (os : Os) (args : Array Value) : laidMetH Tryd.prog laidL ((World.doorLaid Tryd.prog 400 os).forCall (fun _ _ => 0) ⟨#[], args, []⟩).memory :=
  laidMetH_of_parts3 (fuel := 8) (laidMet_of_run' 8 (by kernel_rfl) (by kernel_rfl)) (by kernel_rfl) (by kernel_rfl)
theorem laid_tab : (Rows.laid_math_bits_deBruijn64tab : DataW Unit) = .agg (Lib.deBruijn64tab.map fun n : Nat => .lit (.int .u8 (n : Int))) := by kernel_rfl
theorem of_laid {W : World} (h : laidMetH Tryd.prog laidL W) : 0 < W.heap.size ∧ TabAt 0 Lib.deBruijn64tab W := by
  rw [MakeChecks.laidMetH_plain _ _ _ (by kernel_rfl)] at h
  obtain ⟨ps, ⟨g0, t0, cs0, f0, p0, q0, hg0, ht0, hv0, hd0, _, _⟩, _, _⟩ := h
  obtain rfl := Option.some.inj (gTab.symm.trans hg0)
  obtain rfl := Option.some.inj (tTab.symm.trans ht0)
  obtain ⟨xs, m, rfl, hx, hlen, hn, hel⟩ := DataW.trod_array Tryd.underlying180 hd0
  have c5 : Tryd.prog.cellsOf 5 = 1 := by kernel_rfl
  rw [c5] at hel
  simp only [Prod.mk.injEq] at hx
  have hx1 := hx.1
  rw [laid_tab] at hx1
  simp only [DataW.agg.injEq] at hx1
  have key : TabAt 0 Lib.deBruijn64tab W := by
    intro j hj
    have hj' : j < 64 := hj
    have h1 := hel j hj'
    have hxl : j < xs.length := by rw [hn]; exact hj'
    have hxj : xs[j]? = some xs[j] := by simp [hxl]
    rw [hxj] at h1
    obtain ⟨n, e1, e2, _⟩ := DataW.trod_int Tryd.underlying5 h1
    have h2 : (xs.map (·.1))[j]? = (Lib.deBruijn64tab.map fun n : Nat => (DataW.lit (.int .u8 (n : Int)) : DataW Unit))[j]? := by rw [← hx1]
    rw [List.getElem?_map, List.getElem?_map, hxj] at h2
    have hjl : j < Lib.deBruijn64tab.length := hj
    rw [List.getElem?_eq_getElem hjl] at h2
    simp only [Option.map_some, Option.some.injEq] at h2
    rw [e2] at h2
    simp only [DataW.lit.injEq, Lit.int.injEq, true_and] at h2
    have h3 := World.var?_cell hg0 hv0 j
    have h4 : cs0[j]? = some (.int .u8 n) := by
      have : cs0.toList[j]? = some (.int .u8 n) := by
        rw [← List.head?_drop]
        rw [Nat.mul_one] at e1
        cases hd : cs0.toList.drop j with
        | nil => rw [hd] at e1; simp at e1
        | cons c r => rw [hd] at e1; simp at e1; rw [e1]; rfl
      simpa using this
    rw [h4] at h3
    rw [h3, h2]
    simp [List.getD_eq_getElem?_getD, hjl]
  refine ⟨?_, key⟩
  have h0 := key 0 (by decide)
  simp only [World.cell?] at h0
  split at h0
  · rename_i hh; exact (Array.getElem?_eq_some_iff.1 hh).1
  · cases h0
def sw {W : World} (h : laidMetH Tryd.prog laidL W) : SW := ⟨W, (of_laid h).1, (of_laid h).2⟩
end Go.Proofs.YtgbahioegcpjiaaDoor.VT

set_option autoImplicit false
set_option linter.unusedVariables false
set_option maxRecDepth 100000
namespace Go.Proofs.YtgbahioegcpjiaaDoor.VT
open Go Go.V Go.RowKit Go.ChangeShapes
abbrev T3 : Type := Int
abbrev e3 : T3 → List VVal := fun x => [iI x]
abbrev k3 : T3 → Prop := fun n => -9223372036854775808 ≤ n ∧ n < 9223372036854775808
theorem op3 : Opens Tryd.prog 3 T3 e3 k3 := Opens.int Tryd.underlying3 (by kernel_rfl)
abbrev T27 : Type := BitVec 64
abbrev e27 : T27 → List VVal := fun x => [iW x]
abbrev k27 : T27 → Prop := fun _ => True
theorem op27 : Opens Tryd.prog 27 T27 e27 k27 := Opens.word Tryd.underlying27 (by kernel_rfl)
abbrev T22 : Type := List T27
abbrev e22 : T22 → List VVal := fun x => [(fun l : List T27 => VVal.fsl (l.map iW) l.length 1 false) x]
abbrev k22 : T22 → Prop := fun l => l.length * 8 ≤ 140737488351232 ∧ ∀ x, x ∈ l → k27 x
theorem op22 : Opens Tryd.prog 22 T22 e22 k22 := Opens.slice1 (g := iW) 8 op27 Tryd.underlying22 (by kernel_rfl) (by kernel_rfl) (by kernel_rfl)
abbrev T23 : Type := List T3
abbrev e23 : T23 → List VVal := fun x => [(fun l : List T3 => VVal.fsl (l.map iI) l.length 1 false) x]
abbrev k23 : T23 → Prop := fun l => l.length * 8 ≤ 140737488351232 ∧ ∀ x, x ∈ l → k3 x
theorem op23 : Opens Tryd.prog 23 T23 e23 k23 := Opens.slice1 (g := iI) 8 op3 Tryd.underlying23 (by kernel_rfl) (by kernel_rfl) (by kernel_rfl)
abbrev T75 : Type := T3 × T3 × T23 × Unit
abbrev e75 : T75 → List VVal := fun x => e3 (x.1) ++ (e3 (x.2.1) ++ (e23 (x.2.2.1) ++ ([])))
abbrev k75 : T75 → Prop := fun x => k3 (x.1) ∧ (k3 (x.2.1) ∧ (k23 (x.2.2.1) ∧ (True)))
theorem op75 : Opens Tryd.prog 75 T75 e75 k75 := Opens.struct Tryd.underlying75 (.cons op3 (by kernel_rfl) (.cons op3 (by kernel_rfl) (.cons op23 (by kernel_rfl) (.nil _)))) (fun a => by kernel_rfl)
abbrev T24 : Type := List T75
abbrev e24 : T24 → List VVal := fun x => [(fun l : List T75 => VVal.fsl (l.flatMap e75) l.length 3 false) x]
abbrev k24 : T24 → Prop := fun l => l.length * 40 ≤ 140737488351232 ∧ ∀ x, x ∈ l → k75 x
theorem op24 : Opens Tryd.prog 24 T24 e24 k24 := Opens.slice 3 40 op75 Tryd.underlying24 (by kernel_rfl) (by kernel_rfl) (by kernel_rfl) (by decide)
abbrev T26 : Type := T3 × T22 × T23 × T24 × Unit
abbrev e26 : T26 → List VVal := fun x => e3 (x.1) ++ (e22 (x.2.1) ++ (e23 (x.2.2.1) ++ (e24 (x.2.2.2.1) ++ ([]))))
abbrev k26 : T26 → Prop := fun x => k3 (x.1) ∧ (k22 (x.2.1) ∧ (k23 (x.2.2.1) ∧ (k24 (x.2.2.2.1) ∧ (True))))
theorem op26 : Opens Tryd.prog 26 T26 e26 k26 := Opens.struct Tryd.underlying26 (.cons op3 (by kernel_rfl) (.cons op22 (by kernel_rfl) (.cons op23 (by kernel_rfl) (.cons op24 (by kernel_rfl) (.nil _))))) (fun a => by kernel_rfl)
abbrev T5 : Type := UInt8
abbrev e5 : T5 → List VVal := fun x => [(fun w : UInt8 => VVal.int .u8 w.toNat) x]
end Go.Proofs.YtgbahioegcpjiaaDoor.VT

set_option autoImplicit false
set_option linter.unusedVariables false
set_option linter.unusedSimpArgs false
set_option maxHeartbeats 4000000
set_option maxRecDepth 100000
namespace Go.Proofs.YtgbahioegcpjiaaDoor.VT
open Go Go.V Go.RowKit
abbrev u55 {a0 a1 a2 a3 a4 a5 a6 a7 a8 a9 a10 a11 a12 a13 a14 a15 a16 a17 a18 a19 a20 a21 a22 a23 a24 a25 a26 a27 a28 a29 a30 a31 a32 a33 a34 a35 a36 a37 a38 a39 a40 a41 a42 a43 a44 a45 a46 a47 a48 a49 a50 a51 a52 a53 a54 : VVal} : VEnv := a0 :: a1 :: a2 :: a3 :: a4 :: a5 :: a6 :: a7 :: a8 :: a9 :: a10 :: a11 :: a12 :: a13 :: a14 :: a15 :: a16 :: a17 :: a18 :: a19 :: a20 :: a21 :: a22 :: a23 :: a24 :: a25 :: a26 :: a27 :: a28 :: a29 :: a30 :: a31 :: a32 :: a33 :: a34 :: a35 :: a36 :: a37 :: a38 :: a39 :: a40 :: a41 :: a42 :: a43 :: a44 :: a45 :: a46 :: a47 :: a48 :: a49 :: a50 :: a51 :: a52 :: a53 :: a54 :: []
theorem fewP_2 {p : Pb} {m : Nat} : fewP (fewP p m) m = fewP p m := by
  show fewQ (cutP (fewP p m)) m = _
  rw [fewP_cut]
  unfold fewP fewQ
  simp only [Pb.users, Pb.who, Pb.fixed, Pb.rules, List.take_take, Nat.min_self, List.filter_filter, Bool.and_self]
theorem Few2_spec {x : SW} (H : VHeap) (p : Pb) (m : Nat) (hu : -9223372036854775808 ≤ p.users ∧ p.users < 9223372036854775808) : F (psys x) 15 [.agg (pbB (fewP p m)), iI (m : Nat)] H fun v G => v = .agg (pbB (fewP p m)) ∧ G = H := by
  have := Few_spec (x := x) H (fewP p m) m hu
  rw [fewP_2] at this; exact this
theorem lo_far {p : Pb} {u : Nat} (g : Go.V.Good p) (h : p.users ≤ (u : Nat)) (hu : u < 64) : loP p (1#64 <<< u) = p := by
  have h0 := g.u0; have h64 := g.u64
  have : p.who.map (fun x => x &&& ~~~(1#64 <<< u)) = p.who := by
    apply List.ext_getElem (by rw [List.length_map])
    intro i h1 h2
    rw [List.getElem_map]
    have ok := okW_in g h2
    rw [show p.who.getD i 0 = p.who[i] by simp [List.getD_eq_getElem?_getD, h2]] at ok
    apply BitVec.eq_of_getLsbD_eq
    intro j hj
    rw [BitVec.getLsbD_and, BitVec.getLsbD_not, one_sh hj, decide_eq_true hj, Bool.true_and]
    by_cases e : j = u
    · subst e
      have h3 := congrArg (fun v : BitVec 64 => v.getLsbD (j - p.users.toNat)) ok.2
      simp only [BitVec.getLsbD_ushiftRight, BitVec.getLsbD_zero] at h3
      rw [show p.users.toNat + (j - p.users.toNat) = j by omega] at h3
      rw [h3]; rfl
    · rw [decide_eq_false e]; simp
  unfold loP
  rw [this]
theorem loW_far {p : Pb} {u : Nat} (h : pck p = 0) (hl : (leA p).isSome = true) (hh : p.users ≤ (u : Nat)) (hu : u < 64) : loB p (1#64 <<< u) = false := by
  rw [loB_eq h, loV_ok h, lo_far (pck_good.1 h) hh hu, hl]; rfl
theorem neP_bit {p : Pb} {u : Nat} (hu : u < 64) : (neP p).getLsbD u = ((leA p).isSome && (decide (pck p = 0) && !(leA (loV p (1#64 <<< u))).isSome)) := by
  by_cases h : pck p = 0
  · rw [decide_eq_true h, Bool.true_and, ← loB_eq h]
    have h0 := (pck_good.1 h).u0
    cases hl : (leA p).isSome with
    | true =>
      rw [neP_yes ((brs_0 h).trans hl), neN_bit hu, Bool.true_and]
      by_cases e : u < p.users.toNat
      · rw [decide_eq_true e, Bool.true_and]
      · rw [decide_eq_false e, Bool.false_and, loW_far h hl (by omega) hu]
    | false => rw [neP_no ((brs_0 h).trans hl)]; simp
  · rw [neP_no (brs_no h), decide_eq_false h]; simp
theorem neP_sh {p : Pb} {u : Nat} (hu : u < 64) : ((neP p >>> u &&& 1#64) == 1#64) = ((leA p).isSome && (decide (pck p = 0) && !(leA (loV p (1#64 <<< u))).isSome)) := by
  rw [← neP_bit hu, Bool.eq_iff_iff, beq_iff_eq]
  constructor
  · intro h
    have := congrArg (fun v : BitVec 64 => v.getLsbD 0) h
    simpa [BitVec.getLsbD_ushiftRight] using this
  · intro h
    apply BitVec.eq_of_getLsbD_eq
    intro j hj
    rw [BitVec.getLsbD_and, BitVec.getLsbD_ushiftRight]
    by_cases e : j = 0
    · subst e; simpa using h
    · simp [e]
theorem neP_shI {p : Pb} {u : Nat} (hu : u < 64) : (((neP p >>> ((u : Nat) : Int).toNat &&& 1#64).toNat : Int) == 1) = ((leA p).isSome && (decide (pck p = 0) && !(leA (loV p (1#64 <<< u))).isSome)) := by
  rw [← neP_sh hu, Bool.eq_iff_iff, beq_iff_eq, beq_iff_eq]
  constructor
  · intro h
    apply BitVec.eq_of_toNat_eq
    have h2 : ((neP p >>> u &&& 1#64).toNat : Int) = 1 := h
    show (neP p >>> u &&& 1#64).toNat = 1
    omega
  · intro h
    show ((neP p >>> u &&& 1#64).toNat : Int) = 1
    rw [h]; rfl
theorem HardyNeeded_walk {x : SW} (H : VHeap) (p : Pb) (hu : -9223372036854775808 ≤ p.users ∧ p.users < 9223372036854775808) : F (psys x) 14 [.agg (pbB p)] H fun v G => v = .bool true ∧ G = H := by
 have hL := fewP_L (m := 6) hu
 refine F_body Tryd.func14 rfl u55 rfl ?_
 refine B_seq (B_region ?_)
 refine Lo u55 (v_boxT rfl rfl rfl) ?_
 refine Lo u55 (v_const (VVal.bool false) (.inr rfl) rfl) ?_
 refine L_nil (K_seq (B_seq ?_))
 refine B_gh (Gh.freezePtrL (cs := pbB p) 1 0 rfl rfl rfl) ?_
 refine B_region ?_
 refine Lo u55 (W24 rfl rfl rfl rfl rfl) ?_
 refine L_call rfl rfl rfl (by exact Few_spec _ p 6 hu) ?_
 rintro _ _ ⟨rfl, rfl⟩
 refine Le u55 ?_
 refine Lo u55 (v_alloc rfl rfl) ?_
 refine Lo u55 (W13 rfl rfl rfl rfl rfl rfl rfl) ?_
 refine L_nil (K_seq (B_seq ?_))
 refine B_gh (Gh.freezePtrL (cs := pbB (fewP p 6)) 3 1 rfl rfl rfl) ?_
 refine B_region ?_
 refine L_call rfl rfl rfl (by exact sNew_spec _) ?_
 rintro _ _ ⟨rfl, rfl⟩; rw [List.append_assoc, List.length_append]
 refine Le u55 ?_
 refine Lo u55 (v_move (.inr rfl) rfl) ?_
 refine L_nil (K_seq (B_seq (B_seq (B_region ?_))))
 refine Lo u55 (v_move (.inl rfl) rfl) ?_
 refine Lo u55 (v_is false rfl rfl) ?_
 refine Lo u55 (v_move (.inl rfl) rfl) ?_
 refine L_call rfl rfl rfl (by exact hwakes_spec _) ?_
 rintro _ _ ⟨rfl, rfl⟩
 refine Le u55 ?_
 refine Lo u55 (rfl) ?_
 refine Lo u55 (v_pickF rfl rfl rfl) ?_
 refine L_nil (K_seq ?_)
 refine B_false rfl rfl ?_
 refine B_skip (K_seq (B_seq (B_region ?_)))
 refine Lo u55 (v_move (.inl rfl) rfl) ?_
 refine Lo u55 (W24 rfl rfl rfl rfl rfl) ?_
 refine L_call rfl rfl rfl (by exact Few2_spec _ p 6 hu) ?_
 rintro _ _ ⟨rfl, rfl⟩
 refine Le u55 ?_
 refine L_heap (H' := H ++ [.dead, .dead, gaB 0]) (by simp) ?_
 refine L_call rfl rfl rfl (by exact Can_spec _ (H.length + 2) 0 (by exact get_app rfl rfl) (fewP p 6) hL) ?_
 rintro _ _ ⟨rfl, rfl⟩; rw [set_app rfl]
 refine Le u55 ?_
 refine Lo u55 (v_move (.inr rfl) rfl) ?_
 refine L_nil (K_seq (B_seq (B_region ?_)))
 refine Lo u55 (W24 rfl rfl rfl rfl rfl) ?_
 refine L_call rfl rfl rfl (by exact Few2_spec _ p 6 hu) ?_
 rintro _ _ ⟨rfl, rfl⟩
 refine Le u55 ?_
 refine L_call rfl rfl rfl (by exact Needed_spec _ (fewP p 6) hL) ?_
 rintro _ _ ⟨rfl, rfl⟩
 refine Le u55 ?_
 refine Lo u55 (v_move (.inr rfl) rfl) ?_
 refine L_nil (K_seq (B_seq (B_seq (B_region ?_))))
 refine Lo u55 (v_const (VVal.int .i64 0) (.inr rfl) rfl) ?_
 refine L_nil (K_seq (B_block ?_))
 refine B_clear (mk 55 36028797018963719) (env' := u55) rfl ?_
 refine B_loopE (fun (u : Nat) => 64 - u) (fun (u : Nat) => [(7, iI (u : Nat))]) (fun (u : Nat) G => (u ≤ 64) ∧ ∃ X g1, G = (H ++ [.dead, .dead, gaB g1]) ++ X) 0 rfl ?_ ?_
 ·refine ⟨?_, ⟨[], _, by rw [List.append_nil]; rfl⟩⟩
  exact Nat.zero_le _
 rintro u _ ⟨hu9, ⟨X, g1, rfl⟩⟩
 refine B_env (env' := u55) rfl ?_
 refine B_seq (B_seq (B_region ?_))
 refine Lo u55 (v_move (.inl rfl) rfl) ?_
 refine Lo u55 (rfl) ?_
 refine L_nil (K_seq ?_)
 refine B_cond _ rfl (fun hc1 => ?_) (fun hc1 => ?_)
 ·try simp only [qB, qN] at hc1
  refine B_skip (K_seq (B_seq (B_block (B_seq ?_))))
  refine B_draw [0, 2, 3, 8, 1, 4, 5, 6, 7, 9, 10] #[0, 1, 0, 4, 15, 31, 63, 63, 0, 383, 1023] (by kernel_rfl) (by kernel_rfl) (by kernel_rfl) ?_
  refine Oo u55 .look rfl (W24 rfl rfl rfl rfl rfl) ?_
  refine Oo u55 .calm rfl (v_move (.inl rfl) rfl) ?_
  refine Oo u55 .calm rfl (v_shl1 rfl rfl rfl (by first | assumption | omega | (simp [*]; done) | (simp at *; omega))) ?_
  refine O_opI (env' := u55) (x := .grow _) rfl rfl rfl (v_alloc rfl rfl) rfl rfl rfl ?_
  refine O_call (env' := u55) rfl rfl rfl rfl rfl (by exact Few2_spec _ p 6 hu) (by first | exact Nat.le_refl _ | simp) rfl rfl ?_
  refine O_call (env' := u55) rfl rfl rfl rfl rfl (by exact Lose_spec _ (fewP p 6) hL (1#64 <<< u)) (by first | exact Nat.le_refl _ | simp) rfl rfl ?_
  refine Oo u55 .calm rfl (v_move (.inl rfl) rfl) ?_
  refine Oo u55 .calm rfl (rfl) ?_
  refine Oo u55 .calm rfl (rfl) ?_
  refine Oo u55 .turn rfl (W13 rfl rfl rfl rfl rfl rfl rfl) ?_
  refine Oo u55 .calm rfl (v_move (.inr rfl) rfl) ?_
  refine O_nilP [(3, 4), (3, 5)] (by kernel_rfl) (And.intro ⟨_, _, _, _, ⟨(gA (gA (gA (gA (gA (gA (gA (gL (by kernel_rfl))))))))), (gA (gA (gA (gA (gA (gA (gL (by kernel_rfl)))))))), (by first | exact rfl | simp)⟩⟩ (And.intro ⟨_, _, _, _, ⟨(gA (gA (gA (gA (gA (gA (gA (gL (by kernel_rfl))))))))), (gA (gA (gA (gA (gA (gL (by kernel_rfl))))))), (by first | exact rfl | simp)⟩⟩ (trivial))) ?_
  refine K_seq (B_seq ?_)
  refine B_draw [0, 1, 2, 3, 4, 5, 6, 7, 8, 9, 10, 11, 12, 13, 14, 15, 16] #[0, 0, 3, 7, 15, 0, 32, 96, 224, 480, 992, 2016, 2016, 8160, 16352, 32736, 65535] (by kernel_rfl) (by kernel_rfl) (by kernel_rfl) ?_
  refine Oo u55 .calm rfl (v_move (.inl rfl) rfl) ?_
  refine Oo u55 .calm rfl (v_move (.inl rfl) rfl) ?_
  refine Oo u55 .calm rfl (v_shrW rfl rfl rfl (by first | assumption | omega | (simp [*]; done) | (simp at *; omega))) ?_
  refine Oo u55 .calm rfl (v_andW (b := 1#64) rfl rfl rfl) ?_
  refine Oo u55 .calm rfl (rfl) ?_
  refine Oo u55 .calm rfl (v_move (.inl rfl) rfl) ?_
  refine Oo u55 .calm rfl (v_move (.inl rfl) rfl) ?_
  refine O_split 44 (env1 := u55) (env2 := u55) rfl rfl rfl (fun hg2 => ?_) (fun hg2 => ?_)
  ·try simp only [qB, qN] at hg2
   refine Oo u55 .calm rfl (v_move (.inl rfl) rfl) ?_
   refine Oo u55 .calm rfl (rfl) ?_
   refine Oo u55 .calm rfl (v_pickT rfl rfl rfl) ?_
   refine Oo u55 .calm rfl (v_move (.inl rfl) rfl) ?_
   refine O_split 48 (env1 := u55) (env2 := u55) rfl rfl rfl (fun hg3 => ?_) (fun hg3 => ?_)
   ·try simp only [qB, qN] at hg3
    refine Oo u55 .calm rfl (v_move (.inl rfl) rfl) ?_
    refine Oo u55 .look rfl (W24 rfl rfl rfl rfl rfl) ?_
    refine O_call (env' := u55) rfl rfl rfl rfl rfl (by exact Can_spec _ (H.length + 2) g1 (by exact getB rfl rfl) (loV (fewP p 6) (1#64 <<< u)) (loV_L hL)) (by first | exact Nat.le_refl _ | simp) rfl rfl ?_
    rw [setB rfl (show 2 < 3 by decide)]
    refine Oo u55 .calm rfl (rfl) ?_
    refine Oo u55 .calm rfl (v_pickT rfl rfl rfl) ?_
    refine Oo u55 .calm rfl (v_is false rfl (by rw [neP_shI (by omega)]; simp_all)) ?_
    refine O_nil [] (by kernel_rfl) (trivial) ?_
    refine K_seq ?_
    refine B_false rfl rfl ?_
    refine B_skip (K_blk (K_seq (B_region ?_)))
    refine Lo u55 (v_move (.inl rfl) rfl) ?_
    refine Lo u55 (W14 rfl rfl rfl) ?_
    refine Lo u55 (v_move (.inr rfl) rfl) ?_
    refine L_nil ?_
    refine K_loop (mk 55 36028797018963719) (env' := u55) rfl ⟨u + 1, ?_, rfl, ?_⟩
    ·first | omega | (simp only []; omega)
    ·exact ⟨by omega, _, _, rfl⟩
   ·try simp only [qB, qN] at hg3
    refine Of u55 rfl ?_
    refine Of u55 rfl ?_
    refine Of u55 rfl ?_
    refine Of u55 rfl ?_
    refine Oo u55 .calm rfl (v_pickFC (VVal.bool false) rfl rfl rfl) ?_
    refine Oo u55 .calm rfl (v_is false rfl (by rw [neP_shI (by omega)]; simp_all)) ?_
    refine O_nil [] (by kernel_rfl) (trivial) ?_
    refine K_seq ?_
    refine B_false rfl rfl ?_
    refine B_skip (K_blk (K_seq (B_region ?_)))
    refine Lo u55 (v_move (.inl rfl) rfl) ?_
    refine Lo u55 (W14 rfl rfl rfl) ?_
    refine Lo u55 (v_move (.inr rfl) rfl) ?_
    refine L_nil ?_
    refine K_loop (mk 55 36028797018963719) (env' := u55) rfl ⟨u + 1, ?_, rfl, ?_⟩
    ·first | omega | (simp only []; omega)
    ·exact ⟨by omega, _, _, rfl⟩
  ·try simp only [qB, qN] at hg2
   refine Of u55 rfl ?_
   refine Of u55 rfl ?_
   refine Oo u55 .calm rfl (v_pickFC (VVal.bool false) rfl rfl rfl) ?_
   refine Oo u55 .calm rfl (v_move (.inl rfl) rfl) ?_
   refine Of u55 rfl ?_
   refine Of u55 rfl ?_
   refine Of u55 rfl ?_
   refine Of u55 rfl ?_
   refine Oo u55 .calm rfl (v_pickFC (VVal.bool false) rfl rfl rfl) ?_
   refine Oo u55 .calm rfl (v_is false rfl (by rw [neP_shI (by omega)]; simp_all)) ?_
   refine O_nil [] (by kernel_rfl) (trivial) ?_
   refine K_seq ?_
   refine B_false rfl rfl ?_
   refine B_skip (K_blk (K_seq (B_region ?_)))
   refine Lo u55 (v_move (.inl rfl) rfl) ?_
   refine Lo u55 (W14 rfl rfl rfl) ?_
   refine Lo u55 (v_move (.inr rfl) rfl) ?_
   refine L_nil ?_
   refine K_loop (mk 55 36028797018963719) (env' := u55) rfl ⟨u + 1, ?_, rfl, ?_⟩
   ·first | omega | (simp only []; omega)
   ·exact ⟨by omega, _, _, rfl⟩
 ·try simp only [qB, qN] at hc1
  refine B_exit (K_seqX (K_loopX (K_blkX (K_seq (B_seq (B_region ?_))))))
  refine Lo u55 (v_const (VVal.bool true) (.inr rfl) rfl) ?_
  refine L_nil (K_seq ?_)
  try refine B_heap (List.append_assoc _ _ _) ?_
  refine B_ret ?_
  refine W10 (.inr rfl) (vres_tmp rfl rfl) ?_
  exact ⟨rfl, rfl⟩
theorem HardyNeeded_law {x : SW} (p : Pb) (hu : -9223372036854775808 ≤ p.users ∧ p.users < 9223372036854775808) : F (psys x) 14 [.agg (pbB p)] [] fun v G => v = .bool true := (HardyNeeded_walk [] p hu).mono fun v G h => h.1
end Go.Proofs.YtgbahioegcpjiaaDoor.VT
