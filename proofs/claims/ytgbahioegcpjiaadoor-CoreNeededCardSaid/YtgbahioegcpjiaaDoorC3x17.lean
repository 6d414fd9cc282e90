/- Proved: Rows.CoreNeededCardSaid, the statement CoreNeeded with its card, of the given program at the commit; no conditions beyond those in the statement. -/
import Derived.Test.YtgbahioegcpjiaaDoorC3x16
import Derived.Test.YtgbahioegcpjiaaDoorRows
import Derived.LaidMore
import Derived.Stop.Joined
set_option autoImplicit false
set_option linter.unusedVariables false
set_option maxRecDepth 100000
namespace Go.Proofs.YtgbahioegcpjiaaDoor.VT
open Go Go.V Go.RowKit Go.Shelf Go.ChangeShapes Go.WideShapes Go.ChangeAt Go.WideMaps Go.WideElems
theorem own : ownKnob Tryd.prog.godebug = none := by kernel_rfl
theorem laidOut : laidOutB Tryd.prog = true := by kernel_rfl
theorem gTab : Tryd.prog.globalNamed "math/bits.deBruijn64tab" = some 0 := by kernel_rfl
theorem tTab : (Tryd.prog.globals[0]?).map (·.type) = some 180 := by kernel_rfl
abbrev laidL : List (String × DataW Unit) := [("math/bits.deBruijn64tab", Rows.laid_math_bits_deBruijn64tab)]
theorem door_met (os : Os) (args : Array Value) : laidMetH Tryd.prog laidL ((World.doorLaid Tryd.prog 400 os).forCall (fun _ _ => 0) ⟨#[], args, []⟩).memory :=
  laidMetH_of_parts3 (fuel := 8) (laidMet_of_run' 8 (by kernel_rfl) (by kernel_rfl)) (by kernel_rfl) (by kernel_rfl)
theorem laid_tab : (Rows.laid_math_bits_deBruijn64tab : DataW Unit) = .agg (Lib.deBruijn64tab.map fun n : Nat => .lit (.int .u8 (n : Int))) := by kernel_rfl
theorem of_laid {W : World} (h : laidMetH Tryd.prog laidL W) : 0 < W.heap.size ∧ TabAt 0 Lib.deBruijn64tab W := by
  rw [MakeChecks.laidMetH_plain _ _ _ (by kernel_rfl)] at h
  obtain ⟨ps, ⟨g0, t0, cs0, f0, p0, q0, hg0, ht0, hv0, hd0, _, _⟩, _, _⟩ := h
  obtain rfl := Option.some.inj (gTab.symm.trans hg0)
  obtain rfl := Option.some.inj (tTab.symm.trans ht0)
  obtain ⟨xs, m, rfl, hx, hlen, hn, hel⟩ := DataW.trod_array Tryd.underlying180 hd0
  have c5 : Tryd.prog.cellsOf 5 = 1 := by kernel_rfl
  rw [c5] at hel
  simp only [Prod.mk.injEq] at hx
  have hx1 := hx.1
  rw [laid_tab] at hx1
  simp only [DataW.agg.injEq] at hx1
  have key : TabAt 0 Lib.deBruijn64tab W := by
    intro j hj
    have hj' : j < 64 := hj
    have h1 := hel j hj'
    have hxl : j < xs.length := by rw [hn]; exact hj'
    have hxj : xs[j]? = some xs[j] := by simp [hxl]
    rw [hxj] at h1
    obtain ⟨n, e1, e2, _⟩ := DataW.trod_int Tryd.underlying5 h1
    have h2 : (xs.map (·.1))[j]? = (Lib.deBruijn64tab.map fun n : Nat => (DataW.lit (.int .u8 (n : Int)) : DataW Unit))[j]? := by rw [← hx1]
    rw [List.getElem?_map, List.getElem?_map, hxj] at h2
    have hjl : j < Lib.deBruijn64tab.length := hj
    rw [List.getElem?_eq_getElem hjl] at h2
    simp only [Option.map_some, Option.some.injEq] at h2
    rw [e2] at h2
    simp only [DataW.lit.injEq, Lit.int.injEq, true_and] at h2
    have h3 := World.var?_cell hg0 hv0 j
    have h4 : cs0[j]? = some (.int .u8 n) := by
      have : cs0.toList[j]? = some (.int .u8 n) := by
        rw [← List.head?_drop]
        rw [Nat.mul_one] at e1
        cases hd : cs0.toList.drop j with
        | nil => rw [hd] at e1; simp at e1
        | cons c r => rw [hd] at e1; simp at e1; rw [e1]; rfl
      simpa using this
    rw [h4] at h3
    rw [h3, h2]
    simp [List.getD_eq_getElem?_getD, hjl]
  refine ⟨?_, key⟩
  have h0 := key 0 (by decide)
  simp only [World.cell?] at h0
  split at h0
  · rename_i hh; exact (Array.getElem?_eq_some_iff.1 hh).1
  · cases h0
def sw {W : World} (h : laidMetH Tryd.prog laidL W) : SW := ⟨W, (of_laid h).1, (of_laid h).2⟩
end Go.Proofs.YtgbahioegcpjiaaDoor.VT

set_option autoImplicit false
set_option linter.unusedVariables false
set_option maxRecDepth 100000
namespace Go.Proofs.YtgbahioegcpjiaaDoor.VT
open Go Go.V Go.RowKit Go.ChangeShapes
abbrev T3 : Type := Int
abbrev e3 : T3 → List VVal := fun x => [iI x]
abbrev k3 : T3 → Prop := fun n => -9223372036854775808 ≤ n ∧ n < 9223372036854775808
theorem op3 : Opens Tryd.prog 3 T3 e3 k3 := Opens.int Tryd.underlying3 (by kernel_rfl)
abbrev T27 : Type := BitVec 64
abbrev e27 : T27 → List VVal := fun x => [iW x]
abbrev k27 : T27 → Prop := fun _ => True
theorem op27 : Opens Tryd.prog 27 T27 e27 k27 := Opens.word Tryd.underlying27 (by kernel_rfl)
abbrev T22 : Type := List T27
abbrev e22 : T22 → List VVal := fun x => [(fun l : List T27 => VVal.fsl (l.map iW) l.length 1 false) x]
abbrev k22 : T22 → Prop := fun l => l.length * 8 ≤ 140737488351232 ∧ ∀ x, x ∈ l → k27 x
theorem op22 : Opens Tryd.prog 22 T22 e22 k22 := Opens.slice1 (g := iW) 8 op27 Tryd.underlying22 (by kernel_rfl) (by kernel_rfl) (by kernel_rfl)
abbrev T23 : Type := List T3
abbrev e23 : T23 → List VVal := fun x => [(fun l : List T3 => VVal.fsl (l.map iI) l.length 1 false) x]
abbrev k23 : T23 → Prop := fun l => l.length * 8 ≤ 140737488351232 ∧ ∀ x, x ∈ l → k3 x
theorem op23 : Opens Tryd.prog 23 T23 e23 k23 := Opens.slice1 (g := iI) 8 op3 Tryd.underlying23 (by kernel_rfl) (by kernel_rfl) (by kernel_rfl)
abbrev T75 : Type := T3 × T3 × T23 × Unit
abbrev e75 : T75 → List VVal := fun x => e3 (x.1) ++ (e3 (x.2.1) ++ (e23 (x.2.2.1) ++ ([])))
abbrev k75 : T75 → Prop := fun x => k3 (x.1) ∧ (k3 (x.2.1) ∧ (k23 (x.2.2.1) ∧ (True)))
theorem op75 : Opens Tryd.prog 75 T75 e75 k75 := Opens.struct Tryd.underlying75 (.cons op3 (by kernel_rfl) (.cons op3 (by kernel_rfl) (.cons op23 (by kernel_rfl) (.nil _)))) (fun a => by kernel_rfl)
abbrev T24 : Type := List T75
abbrev e24 : T24 → List VVal := fun x => [(fun l : List T75 => VVal.fsl (l.flatMap e75) l.length 3 false) x]
abbrev k24 : T24 → Prop := fun l => l.length * 40 ≤ 140737488351232 ∧ ∀ x, x ∈ l → k75 x
theorem op24 : Opens Tryd.prog 24 T24 e24 k24 := Opens.slice 3 40 op75 Tryd.underlying24 (by kernel_rfl) (by kernel_rfl) (by kernel_rfl) (by decide)
abbrev T26 : Type := T3 × T22 × T23 × T24 × Unit
abbrev e26 : T26 → List VVal := fun x => e3 (x.1) ++ (e22 (x.2.1) ++ (e23 (x.2.2.1) ++ (e24 (x.2.2.2.1) ++ ([]))))
abbrev k26 : T26 → Prop := fun x => k3 (x.1) ∧ (k22 (x.2.1) ∧ (k23 (x.2.2.1) ∧ (k24 (x.2.2.2.1) ∧ (True))))
theorem op26 : Opens Tryd.prog 26 T26 e26 k26 := Opens.struct Tryd.underlying26 (.cons op3 (by kernel_rfl) (.cons op22 (by kernel_rfl) (.cons op23 (by kernel_rfl) (.cons op24 (by kernel_rfl) (.nil _))))) (fun a => by kernel_rfl)
abbrev T5 : Type := UInt8
abbrev e5 : T5 → List VVal := fun x => [(fun w : UInt8 => VVal.int .u8 w.toNat) x]
end Go.Proofs.YtgbahioegcpjiaaDoor.VT

set_option autoImplicit false
set_option linter.unusedVariables false
set_option linter.unusedSimpArgs false
set_option maxHeartbeats 4000000
set_option maxRecDepth 100000
namespace Go.Proofs.YtgbahioegcpjiaaDoor.VT
open Go Go.V Go.RowKit
abbrev u147 {a0 a1 a2 a3 a4 a5 a6 a7 a8 a9 a10 a11 a12 a13 a14 a15 a16 a17 a18 a19 a20 a21 a22 a23 a24 a25 a26 a27 a28 a29 a30 a31 a32 a33 a34 a35 a36 a37 a38 a39 a40 a41 a42 a43 a44 a45 a46 a47 a48 a49 a50 a51 a52 a53 a54 a55 a56 a57 a58 a59 a60 a61 a62 a63 a64 a65 a66 a67 a68 a69 a70 a71 a72 a73 a74 a75 a76 a77 a78 a79 a80 a81 a82 a83 a84 a85 a86 a87 a88 a89 a90 a91 a92 a93 a94 a95 a96 a97 a98 a99 a100 a101 a102 a103 a104 a105 a106 a107 a108 a109 a110 a111 a112 a113 a114 a115 a116 a117 a118 a119 a120 a121 a122 a123 a124 a125 a126 a127 a128 a129 a130 a131 a132 a133 a134 a135 a136 a137 a138 a139 a140 a141 a142 a143 a144 a145 a146 : VVal} : VEnv := a0 :: a1 :: a2 :: a3 :: a4 :: a5 :: a6 :: a7 :: a8 :: a9 :: a10 :: a11 :: a12 :: a13 :: a14 :: a15 :: a16 :: a17 :: a18 :: a19 :: a20 :: a21 :: a22 :: a23 :: a24 :: a25 :: a26 :: a27 :: a28 :: a29 :: a30 :: a31 :: a32 :: a33 :: a34 :: a35 :: a36 :: a37 :: a38 :: a39 :: a40 :: a41 :: a42 :: a43 :: a44 :: a45 :: a46 :: a47 :: a48 :: a49 :: a50 :: a51 :: a52 :: a53 :: a54 :: a55 :: a56 :: a57 :: a58 :: a59 :: a60 :: a61 :: a62 :: a63 :: a64 :: a65 :: a66 :: a67 :: a68 :: a69 :: a70 :: a71 :: a72 :: a73 :: a74 :: a75 :: a76 :: a77 :: a78 :: a79 :: a80 :: a81 :: a82 :: a83 :: a84 :: a85 :: a86 :: a87 :: a88 :: a89 :: a90 :: a91 :: a92 :: a93 :: a94 :: a95 :: a96 :: a97 :: a98 :: a99 :: a100 :: a101 :: a102 :: a103 :: a104 :: a105 :: a106 :: a107 :: a108 :: a109 :: a110 :: a111 :: a112 :: a113 :: a114 :: a115 :: a116 :: a117 :: a118 :: a119 :: a120 :: a121 :: a122 :: a123 :: a124 :: a125 :: a126 :: a127 :: a128 :: a129 :: a130 :: a131 :: a132 :: a133 :: a134 :: a135 :: a136 :: a137 :: a138 :: a139 :: a140 :: a141 :: a142 :: a143 :: a144 :: a145 :: a146 :: []
theorem W6a {T : TypeId → Option VTy} {H : VHeap} {op : Op} {ρ : Operand → VVal} {t : TypeId} {a : Operand} {y : VTy} {p : VVal} {n : Nat} {vs : List VVal} (ho : op = .load t a) (ha : ρ a = p) (hy : T t = some y) (hd : isAggDesc y.desc = true) (hn : y.size = n) (h : LdOkA H p n vs := by first | exact .inl ⟨_, _, rfl, by first | rfl | assumption | exact fgetN (α := BitVec 64) 0 (by omega) | exact fgetN (α := Int) 0 (by omega) | exact rul_at (by omega) | exact rul_f2 (by omega) | exact rul_f0 (by omega) | exact rul_f1 (by omega) | exact fgetN (α := Nat) 0 (by omega)⟩ | exact .inr ⟨_, _, _, _, rfl, by first | exact get_app rfl rfl | exact get_out (by assumption) | exact getE0 rfl rfl | exact get_out (get_app rfl rfl) | exact get_app rfl (by assumption) | assumption | (simp only [List.append_assoc, List.singleton_append, List.cons_append, List.nil_append]; refine getE (i := 0) rfl ?_ rfl; simp; done) | (simp only [List.append_assoc, List.singleton_append, List.cons_append, List.nil_append]; refine getE (i := 1) rfl ?_ rfl; simp; done) | (simp only [List.append_assoc, List.singleton_append, List.cons_append, List.nil_append]; refine getE (i := 2) rfl ?_ rfl; simp; done) | (simp only [List.append_assoc, List.singleton_append, List.cons_append, List.nil_append]; refine getE (i := 3) rfl ?_ rfl; simp; done) | (simp [*]; done), by first | rfl | assumption | exact fgetN (α := BitVec 64) 0 (by omega) | exact fgetN (α := Int) 0 (by omega) | exact rul_at (by omega) | exact rul_f2 (by omega) | exact rul_f0 (by omega) | exact rul_f1 (by omega) | exact fgetN (α := Nat) 0 (by omega)⟩) : vop T ρ H op = some (.agg vs, H) := v_ldA ho ha hy hd hn h
theorem W6d {T : TypeId → Option VTy} {H : VHeap} {op : Op} {ρ : Operand → VVal} {t : TypeId} {a : Operand} {y : VTy} {p v : VVal} (ho : op = .load t a) (ha : ρ a = p) (hy : T t = some y) (hd : isAggDesc y.desc = false) (h : LdOk H p v := by first | exact .inl ⟨_, _, rfl, by first | rfl | assumption | exact fgetN (α := BitVec 64) 0 (by omega) | exact fgetN (α := Int) 0 (by omega) | exact rul_at (by omega) | exact rul_f2 (by omega) | exact rul_f0 (by omega) | exact rul_f1 (by omega) | exact fgetN (α := Nat) 0 (by omega)⟩ | exact .inr ⟨_, _, _, _, rfl, by first | exact get_app rfl rfl | exact get_out (by assumption) | exact getE0 rfl rfl | exact get_out (get_app rfl rfl) | exact get_app rfl (by assumption) | assumption | (simp only [List.append_assoc, List.singleton_append, List.cons_append, List.nil_append]; refine getE (i := 0) rfl ?_ rfl; simp; done) | (simp only [List.append_assoc, List.singleton_append, List.cons_append, List.nil_append]; refine getE (i := 1) rfl ?_ rfl; simp; done) | (simp only [List.append_assoc, List.singleton_append, List.cons_append, List.nil_append]; refine getE (i := 2) rfl ?_ rfl; simp; done) | (simp only [List.append_assoc, List.singleton_append, List.cons_append, List.nil_append]; refine getE (i := 3) rfl ?_ rfl; simp; done) | (simp [*]; done), by first | rfl | assumption | exact fgetN (α := BitVec 64) 0 (by omega) | exact fgetN (α := Int) 0 (by omega) | exact rul_at (by omega) | exact rul_f2 (by omega) | exact rul_f0 (by omega) | exact rul_f1 (by omega) | exact fgetN (α := Nat) 0 (by omega)⟩) : vop T ρ H op = some (v, H) := v_ld ho ha hy hd h
theorem W6f {T : TypeId → Option VTy} {H : VHeap} {op : Op} {ρ : VEnv} {H' : VHeap} {t : TypeId} {a : Operand} {i : Nat} {v : VVal} {y : VTy} {b off : Nat} {cs new : List VVal} (ho : op = .store t a (.tmp i)) (hv : ρ[i]? = some v) (ha : ρ.eval a = .ptr (some (b, off))) (hy : T t = some y) (hx : v.cells = some new) (hn : new.length = y.size) (h1 : new.all VVal.one = true) (hb : H[b]? = some (.cells cs true) := by exact get_append (getB rfl rfl)) (hl : off + new.length ≤ cs.length := by show 0 + 4 ≤ _; omega) (hH : H.set b (.cells (splice cs off new) true) = H' := by exact (set_out (by simp <;> omega)).trans (congrArg (fun z => z ++ _) ((setB rfl (show 3 < 4 by decide)).trans (congrArg (fun z => (H ++ [.dead, .dead, _, .cells z true]) ++ _) (spl4 hxs))))) : vop T ρ.eval H op = some (.skip, H') := v_storeT ho hv ha hy hx hn h1 hb hl hH
theorem W6g {T : TypeId → Option VTy} {H : VHeap} {op : Op} {ρ : Operand → VVal} {t : TypeId} {a : Operand} {y : VTy} {p : VVal} {n : Nat} {vs : List VVal} (ho : op = .load t a) (ha : ρ a = p) (hy : T t = some y) (hd : isAggDesc y.desc = true) (hn : y.size = n) (h : LdOkA H p n vs := by first | exact .inl ⟨_, _, rfl, by first | rfl | assumption | exact fgetN (α := BitVec 64) 0 (by omega) | exact fgetN (α := Int) 0 (by omega) | exact rul_at (by omega) | exact rul_f2 (by omega) | exact rul_f0 (by omega) | exact rul_f1 (by omega) | exact fgetN (α := Nat) 0 (by omega)⟩ | exact .inr ⟨_, _, _, _, rfl, by exact get_append (getB rfl rfl), by first | rfl | assumption | exact fgetN (α := BitVec 64) 0 (by omega) | exact fgetN (α := Int) 0 (by omega) | exact rul_at (by omega) | exact rul_f2 (by omega) | exact rul_f0 (by omega) | exact rul_f1 (by omega) | exact fgetN (α := Nat) 0 (by omega)⟩) : vop T ρ H op = some (.agg vs, H) := v_ldA ho ha hy hd hn h
theorem CoreNeeded_walk {x : SW} (H : VHeap) (p : Pb) (hu : -9223372036854775808 ≤ p.users ∧ p.users < 9223372036854775808) : F (psys x) 7 [.agg (pbB p)] H fun v G => v = .bool true ∧ G = H := by
 have hL := fewP_L (m := 8) hu
 have hL3 := hL.r; have hL2 := hL.w
 have hA := @whA_len (fewP p 8); have hC := @whC_len (fewP p 8)
 refine F_body Tryd.func7 rfl u147 rfl ?_
 refine B_seq (B_region ?_)
 refine Lo u147 (v_boxT rfl rfl rfl) ?_
 refine Lo u147 (v_const (VVal.bool false) (.inr rfl) rfl) ?_
 refine L_nil (K_seq (B_seq ?_))
 refine B_gh (Gh.freezePtrL (cs := pbB p) 1 0 rfl rfl rfl) ?_
 refine B_region ?_
 refine Lo u147 (W6a rfl rfl rfl rfl rfl) ?_
 refine L_call rfl rfl rfl (by exact Few_spec _ p 8 hu) ?_
 rintro _ _ ⟨rfl, rfl⟩
 refine Le u147 ?_
 refine Lo u147 (v_alloc rfl rfl) ?_
 refine Lo u147 (W13 rfl rfl rfl rfl rfl rfl rfl) ?_
 refine L_nil (K_seq (B_seq ?_))
 refine B_gh (Gh.freezePtrL (cs := pbB (fewP p 8)) 3 1 rfl rfl rfl) ?_
 refine B_region ?_
 refine Lo u147 (W6a rfl rfl rfl rfl rfl) ?_
 refine L_call rfl rfl rfl (by exact Cut_few _ p 8) ?_
 rintro _ _ ⟨rfl, rfl⟩
 refine Le u147 ?_
 refine L_call rfl rfl rfl (by exact Why_spec _ (fewP p 8) hL) ?_
 rintro v _ ⟨hv, rfl⟩; obtain ⟨a, c, ok, he, h1, h2⟩ := whV_eq (fewP p 8); rw [he] at hv; subst hv
 refine Le u147 ?_
 refine Lo u147 (v_move (.inl rfl) rfl) ?_
 refine Lo u147 (rfl) ?_
 refine Lo u147 (rfl) ?_
 refine Lo u147 (rfl) ?_
 refine Lo u147 (v_move (.inr rfl) rfl) ?_
 refine Lo u147 (v_move (.inr rfl) rfl) ?_
 refine Lo u147 (v_move (.inr rfl) rfl) ?_
 refine L_nil (K_seq (B_seq (B_region ?_)))
 refine L_call rfl rfl rfl (by exact sNew_spec _) ?_
 rintro _ _ ⟨rfl, rfl⟩; rw [List.append_assoc, List.length_append]
 refine Le u147 ?_
 refine Lo u147 (v_move (.inr rfl) rfl) ?_
 refine L_nil (K_seq (B_seq (B_seq (B_region ?_))))
 refine Lo u147 (v_move (.inl rfl) rfl) ?_
 refine Lo u147 (v_is false rfl rfl) ?_
 refine Lo u147 (v_move (.inl rfl) rfl) ?_
 refine L_call rfl rfl rfl (by exact cwakes_spec _) ?_
 rintro _ _ ⟨rfl, rfl⟩
 refine Le u147 ?_
 refine Lo u147 (rfl) ?_
 refine Lo u147 (v_pickF rfl rfl rfl) ?_
 refine L_nil (K_seq ?_)
 refine B_false rfl rfl ?_
 refine B_skip (K_seq (B_seq (B_seq (B_region ?_))))
 refine Lo u147 (v_move (.inl rfl) rfl) ?_
 refine Lo u147 (rfl) ?_
 refine L_nil (K_seq ?_)
 refine B_cond _ rfl (fun hc1 => ?_) (fun hc1 => ?_)
 ·try simp only [qB, qN] at hc1
  refine B_seq ?_
  have hok : ok = false := by first | assumption | simp_all
  obtain ⟨hw, rfl, rfl⟩ := h2 hok
  refine B_region ?_
  refine Lo u147 (v_move (.inl rfl) rfl) ?_
  refine Lo u147 (rfl) ?_
  refine Lo u147 (v_is true rfl rfl) ?_
  refine Lo u147 (v_move (.inl rfl) rfl) ?_
  refine Lo u147 (v_move (.inl rfl) rfl) ?_
  refine Lo u147 (rfl) ?_
  refine Lo u147 (v_is true rfl rfl) ?_
  refine Lo u147 (v_pickT rfl rfl rfl) ?_
  refine Lo u147 (v_move (.inl rfl) rfl) ?_
  refine Lo u147 (W6a rfl rfl rfl rfl rfl) ?_
  refine L_call rfl rfl rfl (by exact Cut_few _ p 8) ?_
  rintro _ _ ⟨rfl, rfl⟩
  refine Le u147 ?_
  refine L_call rfl rfl rfl (by exact sCheck_spec _ (fewP p 8) hL) ?_
  rintro _ _ ⟨rfl, rfl⟩
  refine Le u147 ?_
  refine Lo u147 (rfl) ?_
  refine Lo u147 (v_move (.inl rfl) rfl) ?_
  refine L_split 45 (env1 := u147) (env2 := u147) rfl rfl rfl (fun hg2 => ?_) (fun hg2 => ?_)
  ·try simp only [qB, qN] at hg2
   refine Lf u147 ?_
   refine Lf u147 ?_
   refine Lf u147 ?_
   refine L_heap (H' := H ++ [.dead, .dead, gaB 0]) (by simp) ?_
   refine Lf u147 ?_
   refine Lo u147 (v_pickTC (VVal.bool true) rfl rfl rfl) ?_
   refine Lo u147 (v_pickT rfl rfl rfl) ?_
   refine Lo u147 (v_move (.inr rfl) rfl) ?_
   refine L_nil (K_seq ?_)
   try refine B_heap (List.append_assoc _ _ _) ?_
   refine B_ret (K_seqR ?_)
   refine W10 (.inr rfl) (vres_tmp rfl rfl) ?_
   exact ⟨rfl, rfl⟩
  ·try simp only [qB, qN] at hg2
   refine Lo u147 (v_move (.inl rfl) rfl) ?_
   refine Lo u147 (W6a rfl rfl rfl rfl rfl) ?_
   refine L_call rfl rfl rfl (by exact Cut_few _ p 8) ?_
   rintro _ _ ⟨rfl, rfl⟩
   refine Le u147 ?_
   refine L_heap (H' := H ++ [.dead, .dead, gaB 0]) (by simp) ?_
   refine L_call rfl rfl rfl (by exact Can_spec _ (H.length + 2) 0 (by exact get_app rfl rfl) (fewP p 8) hL) ?_
   rintro v _ ⟨hv, rfl⟩; obtain rfl : v = .bool true := hv.trans (congrArg VVal.bool (whB_not hw (by assumption))); rw [set_app rfl]
   refine Le u147 ?_
   refine Lo u147 (v_pickF rfl rfl rfl) ?_
   refine Lo u147 (v_pickT rfl rfl rfl) ?_
   refine Lo u147 (v_move (.inr rfl) rfl) ?_
   refine L_nil (K_seq ?_)
   try refine B_heap (List.append_assoc _ _ _) ?_
   refine B_ret (K_seqR ?_)
   refine W10 (.inr rfl) (vres_tmp rfl rfl) ?_
   exact ⟨rfl, rfl⟩
 ·try simp only [qB, qN] at hc1
  refine B_skip (K_seq (B_seq ?_))
  have hok : ok = true := by first | assumption | simp_all
  obtain ⟨hw, rfl, rfl⟩ := h1 hok
  obtain ⟨g, hno⟩ := whB_ok hw
  have g1 := g.n12; have g3 := g.r32
  refine B_region ?_
  refine Lo u147 (rfl) ?_
  refine Lo u147 (W6d rfl rfl rfl rfl) ?_
  refine Lo u147 (rfl) ?_
  refine Lo u147 (v_move (.inr rfl) rfl) ?_
  refine L_nil (K_seq (B_seq (B_region ?_)))
  refine Lo u147 (rfl) ?_
  refine Lo u147 (W6d rfl rfl rfl rfl) ?_
  refine Lo u147 (rfl) ?_
  refine Lo u147 (v_move (.inr rfl) rfl) ?_
  refine L_nil (K_seq (B_seq (B_region ?_)))
  refine Lo u147 (W6a rfl rfl rfl rfl rfl) ?_
  refine L_call rfl rfl rfl (by exact Cut_few _ p 8) ?_
  rintro _ _ ⟨rfl, rfl⟩
  refine Le u147 ?_
  refine Lo u147 (v_move (.inl rfl) rfl) ?_
  refine Lo u147 (v_move (.inl rfl) rfl) ?_
  refine L_call rfl rfl rfl (by exact restA_F _ (fewP p 8) hL3) ?_
  rintro _ _ ⟨rfl, rfl⟩
  refine Le u147 ?_
  refine Lo u147 (v_move (.inl rfl) rfl) ?_
  refine Lo u147 (v_move (.inl rfl) rfl) ?_
  refine L_call rfl rfl rfl (by exact restC_F _ (fewP p 8) hL2) ?_
  rintro _ _ ⟨rfl, rfl⟩
  refine Le u147 ?_
  refine L_call rfl rfl rfl (by exact Without_spec _ (fewP p 8) (fzN (whA (fewP p 8)).1) (fzN (whC (fewP p 8)).1) (zI (whA (fewP p 8)).1) (zI (whC (fewP p 8)).1) hL (RD.fzN _ _) (RD.fzN _ _) (by rw [zI_len]; omega) (by rw [zI_len]; omega)) ?_
  rintro _ _ ⟨rfl, rfl⟩
  refine Le u147 ?_
  refine Lo u147 (v_move (.inl rfl) rfl) ?_
  refine Lo u147 (rfl) ?_
  refine Lo u147 (rfl) ?_
  refine Lo u147 (v_alloc rfl rfl) ?_
  refine Lo u147 (W13 rfl rfl rfl rfl rfl rfl rfl) ?_
  refine Lo u147 (v_move (.inr rfl) rfl) ?_
  refine L_nil (K_seq (B_seq (B_seq (B_region ?_))))
  refine Lo u147 (v_move (.inl rfl) rfl) ?_
  refine Lo u147 (v_is false rfl (by rw [wo_E0 g (fun x hx => (whA_lt x).1 hx) (fun x hx => (whC_lt x).1 hx)]; rfl)) ?_
  refine Lo u147 (v_move (.inl rfl) rfl) ?_
  refine Lo u147 (v_move (.inl rfl) rfl) ?_
  refine Lo u147 (W6a rfl rfl rfl rfl rfl) ?_
  refine L_heap (H' := H ++ [.dead, .dead, gaB 0, .cells (pbB (woP (fewP p 8) (zI (whA (fewP p 8)).1) (zI (whC (fewP p 8)).1))) true]) (by simp; rfl) ?_
  refine L_call rfl rfl rfl (by exact Can_spec _ (H.length + 2) 0 (by exact get_app rfl rfl) (woP (fewP p 8) (zI (whA (fewP p 8)).1) (zI (whC (fewP p 8)).1)) (woP_L hL)) ?_
  rintro v _ ⟨hv, rfl⟩; obtain rfl : v = .bool false := hv.trans (congrArg VVal.bool (need_st hw)); rw [set_app rfl]
  refine Le u147 ?_
  refine Lo u147 (v_pickF rfl rfl rfl) ?_
  refine Lo u147 (v_move (.inl rfl) rfl) ?_
  refine Lo u147 (v_move (.inl rfl) rfl) ?_
  refine Lo u147 (W6a rfl rfl rfl rfl rfl) ?_
  refine L_call rfl rfl rfl (by exact Cut_few _ p 8) ?_
  rintro _ _ ⟨rfl, rfl⟩
  refine Le u147 ?_
  refine L_call rfl rfl rfl (by exact Can_spec _ (H.length + 2) _ (by exact get_app rfl rfl) (fewP p 8) hL) ?_
  rintro v _ ⟨hv, rfl⟩; obtain rfl : v = .bool false := hv.trans (congrArg VVal.bool hno); rw [set_app rfl]
  refine Le u147 ?_
  refine Lo u147 (v_pickF rfl rfl rfl) ?_
  refine L_nil (K_seq ?_)
  refine B_false rfl rfl ?_
  refine B_skip (K_seq (B_seq (B_seq (B_region ?_))))
  refine Lo u147 (v_const (VVal.int .i64 0) (.inr rfl) rfl) ?_
  refine L_nil (K_seq (B_block ?_))
  refine B_clear (mk 147 178405961588244985132285746181186892047837255) (env' := u147) rfl ?_
  refine B_loopE (fun (i : Nat) => (whA (fewP p 8)).2.length - i) (fun (i : Nat) => [(12, iI (i : Nat))]) (fun (i : Nat) G => (i ≤ (whA (fewP p 8)).2.length) ∧ ∃ X g1 xs, G = (H ++ [.dead, .dead, gaB g1, .cells xs true]) ++ X ∧ xs.length = 4) 0 rfl ?_ ?_
  ·refine ⟨?_, ⟨[], _, _, by rw [List.append_nil]; rfl, rfl⟩⟩
   exact Nat.zero_le _
  rintro i _ ⟨hi, ⟨X, g1, xs, rfl, hxs⟩⟩
  refine B_env (env' := u147) rfl ?_
  refine B_seq (B_seq (B_region ?_))
  refine Lo u147 (v_move (.inl rfl) rfl) ?_
  refine Lo u147 (v_move (.inl rfl) rfl) ?_
  refine Lo u147 (rfl) ?_
  refine Lo u147 (rfl) ?_
  refine L_nil (K_seq ?_)
  refine B_cond _ rfl (fun hc3 => ?_) (fun hc3 => ?_)
  ·try simp only [qB, qN] at hc3
   refine B_skip (K_seq (B_seq (B_block (B_seq ?_))))
   have hin : (whA (fewP p 8)).2.getD i 0 ∈ (whA (fewP p 8)).2 := by rw [List.getD_eq_getElem?_getD, List.getElem?_eq_getElem (show i < (whA (fewP p 8)).2.length by omega)]; exact List.getElem_mem _
   obtain ⟨hE, hS⟩ := need_A hw hin
   refine B_draw [0, 2, 3, 5, 6, 7, 8, 9, 11, 12, 1, 4, 10, 13, 14, 15, 16, 17, 18, 19] #[0, 1, 0, 0, 15, 0, 0, 96, 224, 480, 1023, 0, 0, 8191, 16383, 32767, 65535, 65535, 131071, 524287] (by kernel_rfl) (by kernel_rfl) (by kernel_rfl) ?_
   refine Oo u147 .look rfl (W6a rfl rfl rfl rfl rfl) ?_
   refine Oo u147 .calm rfl (v_move (.inl rfl) rfl) ?_
   refine Oo u147 .calm rfl (v_move (.inl rfl) rfl) ?_
   refine Oo u147 .calm rfl (v_move (.inl rfl) rfl) ?_
   refine Oo u147 .calm rfl (v_move (.inl rfl) rfl) ?_
   refine Oo u147 .calm rfl (W18 rfl rfl rfl rfl rfl rfl rfl) ?_
   refine O_opI (env' := u147) (x := .look _ _) rfl rfl rfl (W6d rfl rfl rfl rfl) rfl rfl rfl ?_
   refine O_opI (env' := u147) (x := .grow _) rfl rfl rfl (v_buildSlice rfl rfl (by decide) rfl) rfl rfl rfl ?_
   refine Oo u147 .calm rfl (v_move (.inl rfl) rfl) ?_
   refine Oo u147 .calm rfl (v_move (.inl rfl) rfl) ?_
   refine O_call (env' := u147) rfl rfl rfl rfl rfl (by exact Cut_few _ p 8) (by first | exact Nat.le_refl _ | simp) rfl rfl ?_
   refine O_call (env' := u147) rfl rfl rfl rfl rfl (by exact restA_P _ (fewP p 8) hL3) (by first | exact Nat.le_refl _ | simp) rfl rfl ?_
   refine O_opX .turn rfl rfl rfl (v_appLB rfl rfl rfl rfl rfl rfl rfl rfl (by first | exact get_end | exact get_app rfl get_end) rfl pk_LV rfl (by show (_ + 1) * 8 ≤ _ ∧ _; omega)) rfl rfl ?_
   rintro _ _ ⟨Y3, rfl, hY3⟩; have hY4 := LV.pushN hY3
   refine O_env (env' := u147) rfl ?_
   refine O_call (env' := u147) rfl rfl rfl rfl rfl (by exact restC_F _ (fewP p 8) hL2) (by first | exact Nat.le_refl _ | simp) rfl rfl ?_
   refine O_call (env' := u147) rfl rfl rfl rfl rfl (by exact Without_spec _ (fewP p 8) _ (fzN (whC (fewP p 8)).1) (zI ((whA (fewP p 8)).1 ++ [(whA (fewP p 8)).2.getD i 0])) (zI (whC (fewP p 8)).1) hL (RD.of_lv hY4) (RD.fzN _ _) (by rw [zI_len, List.length_append]; show _ + 1 ≤ _; omega) (by rw [zI_len]; omega)) (by first | exact Nat.le_refl _ | simp) rfl rfl ?_
   refine Oo u147 .calm rfl (v_move (.inl rfl) rfl) ?_
   refine Oo u147 .calm rfl (rfl) ?_
   refine Oo u147 .calm rfl (rfl) ?_
   refine Oo u147 .turn rfl (W6f rfl rfl rfl rfl rfl rfl rfl) ?_
   refine Oo u147 .calm rfl (v_move (.inr rfl) rfl) ?_
   refine O_nilP [(6, 10), (6, 11), (7, 10), (7, 11)] (by kernel_rfl) (And.intro ⟨_, _, _, _, ⟨(gA (gA (gA (gA (gA (gA (gA (gA (gA (gA (gA (gA (gA (gL (by kernel_rfl))))))))))))))), (gA (gA (gA (gA (gA (gA (gA (gA (gA (gL (by kernel_rfl))))))))))), And.intro (W6d rfl rfl rfl rfl) (W6d rfl rfl rfl rfl)⟩⟩ (And.intro ⟨_, _, _, _, ⟨(gA (gA (gA (gA (gA (gA (gA (gA (gA (gA (gA (gA (gA (gL (by kernel_rfl))))))))))))))), (gA (gA (gA (gA (gA (gA (gA (gA (gL (by kernel_rfl)))))))))), And.intro (W6d rfl rfl rfl rfl) (W6d rfl rfl rfl rfl)⟩⟩ (And.intro ⟨_, _, _, _, ⟨(gA (gA (gA (gA (gA (gA (gA (gA (gA (gA (gA (gA (gL (by kernel_rfl)))))))))))))), (gA (gA (gA (gA (gA (gA (gA (gA (gA (gL (by kernel_rfl))))))))))), (by first | exact rfl | simp)⟩⟩ (And.intro ⟨_, _, _, _, ⟨(gA (gA (gA (gA (gA (gA (gA (gA (gA (gA (gA (gA (gL (by kernel_rfl)))))))))))))), (gA (gA (gA (gA (gA (gA (gA (gA (gL (by kernel_rfl)))))))))), (show (_ ++ _)[_]? = _ from List.getElem?_append_left (by simp only [List.length_append, List.length_cons, List.length_nil]; omega))⟩⟩ (trivial))))) ?_
   refine K_seq (B_seq (B_region ?_))
   refine Lo u147 (v_move (.inl rfl) rfl) ?_
   refine Lo u147 (v_is false rfl (by rw [hE]; rfl)) ?_
   refine Lo u147 (v_move (.inl rfl) rfl) ?_
   refine Lo u147 (v_move (.inl rfl) rfl) ?_
   refine Lo u147 (W6g rfl rfl rfl rfl rfl) ?_
   refine L_call rfl rfl rfl (by exact Can_spec _ (H.length + 2) _ (by first | exact getB rfl rfl | exact get_append (getB rfl rfl) | exact get_append (get_append (getB rfl rfl))) (woP (fewP p 8) (zI ((whA (fewP p 8)).1 ++ [(whA (fewP p 8)).2.getD i 0])) (zI (whC (fewP p 8)).1)) (woP_L hL)) ?_
   rintro v _ ⟨hv, rfl⟩; obtain rfl : v = .bool true := hv.trans (congrArg VVal.bool hS); rw [setBB rfl (show 2 < 4 by decide)]
   refine Le u147 ?_
   refine Lo u147 (rfl) ?_
   refine Lo u147 (v_pickF rfl rfl rfl) ?_
   refine L_nil (K_seq ?_)
   refine B_false rfl rfl ?_
   refine B_skip (K_blk (K_seq (B_region ?_)))
   refine Lo u147 (v_move (.inl rfl) rfl) ?_
   refine Lo u147 (W14 rfl rfl rfl) ?_
   refine Lo u147 (v_move (.inr rfl) rfl) ?_
   refine L_nil ?_
   refine K_loop (mk 147 178405961588244985132285746181186892047837255) (env' := u147) rfl ⟨i + 1, ?_, rfl, ?_⟩
   ·first | omega | (simp only []; omega)
   ·first | exact ⟨by omega, _, _, _, rfl, rfl⟩ | exact ⟨by omega, _, _, _, List.append_assoc _ _ _, rfl⟩
  ·try simp only [qB, qN] at hc3
   refine B_exit (K_seqX (K_loopX (K_blkX (K_seq (B_seq (B_seq (B_region ?_)))))))
   refine Lo u147 (v_const (VVal.int .i64 0) (.inr rfl) rfl) ?_
   refine L_nil (K_seq (B_block ?_))
   refine B_clear (mk 147 178405961588244985132285746181186892047833159) (env' := u147) rfl ?_
   refine B_loopE (fun (j : Nat) => (whC (fewP p 8)).2.length - j) (fun (j : Nat) => [(13, iI (j : Nat))]) (fun (j : Nat) G => (j ≤ (whC (fewP p 8)).2.length) ∧ ∃ X g1 xs, G = (H ++ [.dead, .dead, gaB g1, .cells xs true]) ++ X ∧ xs.length = 4) 0 rfl ?_ ?_
   ·refine ⟨?_, ⟨X, g1, xs, rfl, hxs⟩⟩
    exact Nat.zero_le _
   rintro j _ ⟨hj, ⟨X, g1, xs, rfl, hxs⟩⟩
   refine B_env (env' := u147) rfl ?_
   refine B_seq (B_seq (B_region ?_))
   refine Lo u147 (v_move (.inl rfl) rfl) ?_
   refine Lo u147 (v_move (.inl rfl) rfl) ?_
   refine Lo u147 (rfl) ?_
   refine Lo u147 (rfl) ?_
   refine L_nil (K_seq ?_)
   refine B_cond _ rfl (fun hc4 => ?_) (fun hc4 => ?_)
   ·try simp only [qB, qN] at hc4
    refine B_skip (K_seq (B_seq (B_block (B_seq ?_))))
    have hin : (whC (fewP p 8)).2.getD j 0 ∈ (whC (fewP p 8)).2 := by rw [List.getD_eq_getElem?_getD, List.getElem?_eq_getElem (show j < (whC (fewP p 8)).2.length by omega)]; exact List.getElem_mem _
    obtain ⟨hE, hS⟩ := need_C hw hin
    refine B_draw [0, 2, 3, 5, 6, 8, 9, 10, 11, 12, 1, 4, 7, 13, 14, 15, 16, 17, 18, 19] #[0, 1, 0, 0, 15, 0, 0, 127, 0, 0, 768, 1792, 3840, 8191, 16383, 32767, 65535, 65535, 131071, 524287] (by kernel_rfl) (by kernel_rfl) (by kernel_rfl) ?_
    refine Oo u147 .look rfl (W6a rfl rfl rfl rfl rfl) ?_
    refine Oo u147 .calm rfl (v_move (.inl rfl) rfl) ?_
    refine Oo u147 .calm rfl (v_move (.inl rfl) rfl) ?_
    refine Oo u147 .calm rfl (v_move (.inl rfl) rfl) ?_
    refine Oo u147 .calm rfl (v_move (.inl rfl) rfl) ?_
    refine Oo u147 .calm rfl (v_move (.inl rfl) rfl) ?_
    refine Oo u147 .calm rfl (v_move (.inl rfl) rfl) ?_
    refine Oo u147 .calm rfl (W18 rfl rfl rfl rfl rfl rfl rfl) ?_
    refine O_opI (env' := u147) (x := .look _ _) rfl rfl rfl (W6d rfl rfl rfl rfl) rfl rfl rfl ?_
    refine O_opI (env' := u147) (x := .grow _) rfl rfl rfl (v_buildSlice rfl rfl (by decide) rfl) rfl rfl rfl ?_
    refine O_call (env' := u147) rfl rfl rfl rfl rfl (by exact Cut_few _ p 8) (by first | exact Nat.le_refl _ | simp) rfl rfl ?_
    refine O_call (env' := u147) rfl rfl rfl rfl rfl (by exact restA_F _ (fewP p 8) hL3) (by first | exact Nat.le_refl _ | simp) rfl rfl ?_
    refine O_call (env' := u147) rfl rfl rfl rfl rfl (by exact restC_P _ (fewP p 8) hL2) (by first | exact Nat.le_refl _ | simp) rfl rfl ?_
    refine O_opX .turn rfl rfl rfl (v_appLB rfl rfl rfl rfl rfl rfl rfl rfl (by first | exact get_end | exact get_app rfl get_end) rfl pk_LV rfl (by show (_ + 1) * 8 ≤ _ ∧ _; omega)) rfl rfl ?_
    rintro _ _ ⟨Y3, rfl, hY3⟩; have hY4 := LV.pushN hY3
    refine O_env (env' := u147) rfl ?_
    refine O_call (env' := u147) rfl rfl rfl rfl rfl (by exact Without_spec _ (fewP p 8) (fzN (whA (fewP p 8)).1) _ (zI (whA (fewP p 8)).1) (zI ((whC (fewP p 8)).1 ++ [(whC (fewP p 8)).2.getD j 0])) hL (RD.fzN _ _) (RD.of_lv hY4) (by rw [zI_len]; omega) (by rw [zI_len, List.length_append]; show _ + 1 ≤ _; omega)) (by first | exact Nat.le_refl _ | simp) rfl rfl ?_
    refine Oo u147 .calm rfl (v_move (.inl rfl) rfl) ?_
    refine Oo u147 .calm rfl (rfl) ?_
    refine Oo u147 .calm rfl (rfl) ?_
    refine Oo u147 .turn rfl (W6f rfl rfl rfl rfl rfl rfl rfl) ?_
    refine Oo u147 .calm rfl (v_move (.inr rfl) rfl) ?_
    refine O_nilP [(8, 10), (8, 11), (8, 12), (9, 10), (9, 11), (9, 12)] (by kernel_rfl) (And.intro ⟨_, _, _, _, ⟨(gA (gA (gA (gA (gA (gA (gA (gA (gA (gA (gA (gL (by kernel_rfl))))))))))))), (gA (gA (gA (gA (gA (gA (gA (gA (gA (gL (by kernel_rfl))))))))))), And.intro (W6d rfl rfl rfl rfl) (W6d rfl rfl rfl rfl)⟩⟩ (And.intro ⟨_, _, _, _, ⟨(gA (gA (gA (gA (gA (gA (gA (gA (gA (gA (gA (gL (by kernel_rfl))))))))))))), (gA (gA (gA (gA (gA (gA (gA (gA (gL (by kernel_rfl)))))))))), And.intro (W6d rfl rfl rfl rfl) (W6d rfl rfl rfl rfl)⟩⟩ (And.intro ⟨_, _, _, _, ⟨(gA (gA (gA (gA (gA (gA (gA (gA (gA (gA (gA (gL (by kernel_rfl))))))))))))), (gA (gA (gA (gA (gA (gA (gA (gL (by kernel_rfl))))))))), And.intro (W6d rfl rfl rfl rfl) (W6d rfl rfl rfl rfl)⟩⟩ (And.intro ⟨_, _, _, _, ⟨(gA (gA (gA (gA (gA (gA (gA (gA (gA (gA (gL (by kernel_rfl)))))))))))), (gA (gA (gA (gA (gA (gA (gA (gA (gA (gL (by kernel_rfl))))))))))), (by first | exact rfl | simp)⟩⟩ (And.intro ⟨_, _, _, _, ⟨(gA (gA (gA (gA (gA (gA (gA (gA (gA (gA (gL (by kernel_rfl)))))))))))), (gA (gA (gA (gA (gA (gA (gA (gA (gL (by kernel_rfl)))))))))), (by first | exact rfl | simp)⟩⟩ (And.intro ⟨_, _, _, _, ⟨(gA (gA (gA (gA (gA (gA (gA (gA (gA (gA (gL (by kernel_rfl)))))))))))), (gA (gA (gA (gA (gA (gA (gA (gL (by kernel_rfl))))))))), (show (_ ++ _)[_]? = _ from List.getElem?_append_left (by simp only [List.length_append, List.length_cons, List.length_nil]; omega))⟩⟩ (trivial))))))) ?_
    refine K_seq (B_seq (B_region ?_))
    refine Lo u147 (v_move (.inl rfl) rfl) ?_
    refine Lo u147 (v_is false rfl (by rw [hE]; rfl)) ?_
    refine Lo u147 (v_move (.inl rfl) rfl) ?_
    refine Lo u147 (v_move (.inl rfl) rfl) ?_
    refine Lo u147 (W6g rfl rfl rfl rfl rfl) ?_
    refine L_call rfl rfl rfl (by exact Can_spec _ (H.length + 2) _ (by first | exact getB rfl rfl | exact get_append (getB rfl rfl) | exact get_append (get_append (getB rfl rfl))) (woP (fewP p 8) (zI (whA (fewP p 8)).1) (zI ((whC (fewP p 8)).1 ++ [(whC (fewP p 8)).2.getD j 0]))) (woP_L hL)) ?_
    rintro v _ ⟨hv, rfl⟩; obtain rfl : v = .bool true := hv.trans (congrArg VVal.bool hS); rw [setBB rfl (show 2 < 4 by decide)]
    refine Le u147 ?_
    refine Lo u147 (rfl) ?_
    refine Lo u147 (v_pickF rfl rfl rfl) ?_
    refine L_nil (K_seq ?_)
    refine B_false rfl rfl ?_
    refine B_skip (K_blk (K_seq (B_region ?_)))
    refine Lo u147 (v_move (.inl rfl) rfl) ?_
    refine Lo u147 (W14 rfl rfl rfl) ?_
    refine Lo u147 (v_move (.inr rfl) rfl) ?_
    refine L_nil ?_
    refine K_loop (mk 147 178405961588244985132285746181186892047833159) (env' := u147) rfl ⟨j + 1, ?_, rfl, ?_⟩
    ·first | omega | (simp only []; omega)
    ·first | exact ⟨by omega, _, _, _, rfl, rfl⟩ | exact ⟨by omega, _, _, _, List.append_assoc _ _ _, rfl⟩
   ·try simp only [qB, qN] at hc4
    refine B_exit (K_seqX (K_loopX (K_blkX (K_seq (B_seq (B_region ?_))))))
    refine Lo u147 (v_const (VVal.bool true) (.inr rfl) rfl) ?_
    refine L_nil (K_seq ?_)
    try refine B_heap (List.append_assoc _ _ _) ?_
    refine B_ret ?_
    refine W10 (.inr rfl) (vres_tmp rfl rfl) ?_
    exact ⟨rfl, rfl⟩
theorem CoreNeeded_law {x : SW} (p : Pb) (hu : -9223372036854775808 ≤ p.users ∧ p.users < 9223372036854775808) : F (psys x) 7 [.agg (pbB p)] [] fun v G => v = .bool true := (CoreNeeded_walk [] p hu).mono fun v G h => h.1
end Go.Proofs.YtgbahioegcpjiaaDoor.VT
