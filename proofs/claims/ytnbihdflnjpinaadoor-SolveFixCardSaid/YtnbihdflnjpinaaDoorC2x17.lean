/- Proved: Rows.SolveFixCardSaid, the statement SolveFix with its card, of the given program at the commit; no conditions beyond those in the statement. -/
import Derived.Test.YtnbihdflnjpinaaDoorC2x16
import Derived.Test.YtnbihdflnjpinaaDoorRows
import Derived.LaidMore
import Derived.Stop.Joined
set_option autoImplicit false
set_option linter.unusedVariables false
set_option maxRecDepth 100000
namespace Go.Proofs.YtnbihdflnjpinaaDoor.VT
open Go Go.V Go.RowKit Go.Shelf Go.ChangeShapes Go.WideShapes Go.ChangeAt Go.WideMaps Go.WideElems
theorem own : ownKnob Tryd.prog.godebug = none := by kernel_rfl
theorem laidOut : laidOutB Tryd.prog = true := by kernel_rfl
theorem gTab : Tryd.prog.globalNamed "math/bits.deBruijn64tab" = some 0 := by kernel_rfl
theorem tTab : (Tryd.prog.globals[0]?).map (·.type) = some 149 := by kernel_rfl
abbrev laidL : List (String × DataW Unit) := [("math/bits.deBruijn64tab", Rows.laid_math_bits_deBruijn64tab)]
theorem door_met (os : Os) (args : Array Value) : laidMetH Tryd.prog laidL ((World.doorLaid Tryd.prog 400 os).forCall (fun _ _ => 0) ⟨#[], args, []⟩).memory :=
  laidMetH_of_parts3 (fuel := 8) (laidMet_of_run' 8 (by kernel_rfl) (by kernel_rfl)) (by kernel_rfl) (by kernel_rfl)
theorem laid_tab : (Rows.laid_math_bits_deBruijn64tab : DataW Unit) = .agg (Lib.deBruijn64tab.map fun n : Nat => .lit (.int .u8 (n : Int))) := by kernel_rfl
theorem of_laid {W : World} (h : laidMetH Tryd.prog laidL W) : 0 < W.heap.size ∧ TabAt 0 Lib.deBruijn64tab W := by
  rw [MakeChecks.laidMetH_plain _ _ _ (by kernel_rfl)] at h
  obtain ⟨ps, ⟨g0, t0, cs0, f0, p0, q0, hg0, ht0, hv0, hd0, _, _⟩, _, _⟩ := h
  obtain rfl := Option.some.inj (gTab.symm.trans hg0)
  obtain rfl := Option.some.inj (tTab.symm.trans ht0)
  obtain ⟨xs, m, rfl, hx, hlen, hn, hel⟩ := DataW.trod_array Tryd.underlying149 hd0
  have c5 : Tryd.prog.cellsOf 5 = 1 := by kernel_rfl
  rw [c5] at hel
  simp only [Prod.mk.injEq] at hx
  have hx1 := hx.1
  rw [laid_tab] at hx1
  simp only [DataW.agg.injEq] at hx1
  have key : TabAt 0 Lib.deBruijn64tab W := by
    intro j hj
    have hj' : j < 64 := hj
    have h1 := hel j hj'
    have hxl : j < xs.length := by rw [hn]; exact hj'
    have hxj : xs[j]? = some xs[j] := by simp [hxl]
    rw [hxj] at h1
    obtain ⟨n, e1, e2, _⟩ := DataW.trod_int Tryd.underlying5 h1
    have h2 : (xs.map (·.1))[j]? = (Lib.deBruijn64tab.map fun n : Nat => (DataW.lit (.int .u8 (n : Int)) : DataW Unit))[j]? := by rw [← hx1]
    rw [List.getElem?_map, List.getElem?_map, hxj] at h2
    have hjl : j < Lib.deBruijn64tab.length := hj
    rw [List.getElem?_eq_getElem hjl] at h2
    simp only [Option.map_some, Option.some.injEq] at h2
    rw [e2] at h2
    simp only [DataW.lit.injEq, Lit.int.injEq, true_and] at h2
    have h3 := World.var?_cell hg0 hv0 j
    have h4 : cs0[j]? = some (.int .u8 n) := by
      have : cs0.toList[j]? = some (.int .u8 n) := by
        rw [← List.head?_drop]
        rw [Nat.mul_one] at e1
        cases hd : cs0.toList.drop j with
        | nil => rw [hd] at e1; simp at e1
        | cons c r => rw [hd] at e1; simp at e1; rw [e1]; rfl
      simpa using this
    rw [h4] at h3
    rw [h3, h2]
    simp [List.getD_eq_getElem?_getD, hjl]
  refine ⟨?_, key⟩
  have h0 := key 0 (by decide)
  simp only [World.cell?] at h0
  split at h0
  · rename_i hh; exact (Array.getElem?_eq_some_iff.1 hh).1
  · cases h0
def sw {W : World} (h : laidMetH Tryd.prog laidL W) : SW := ⟨W, (of_laid h).1, (of_laid h).2⟩
end Go.Proofs.YtnbihdflnjpinaaDoor.VT

set_option autoImplicit false
set_option linter.unusedVariables false
set_option maxRecDepth 100000
namespace Go.Proofs.YtnbihdflnjpinaaDoor.VT
open Go Go.V Go.RowKit Go.ChangeShapes
abbrev T3 : Type := Int
abbrev e3 : T3 → List VVal := fun x => [iI x]
abbrev k3 : T3 → Prop := fun n => -9223372036854775808 ≤ n ∧ n < 9223372036854775808
theorem op3 : Opens Tryd.prog 3 T3 e3 k3 := Opens.int Tryd.underlying3 (by kernel_rfl)
abbrev T41 : Type := BitVec 64
abbrev e41 : T41 → List VVal := fun x => [iW x]
abbrev k41 : T41 → Prop := fun _ => True
theorem op41 : Opens Tryd.prog 41 T41 e41 k41 := Opens.word Tryd.underlying41 (by kernel_rfl)
abbrev T22 : Type := List T41
abbrev e22 : T22 → List VVal := fun x => [(fun l : List T41 => VVal.fsl (l.map iW) l.length 1 false) x]
abbrev k22 : T22 → Prop := fun l => l.length * 8 ≤ 140737488351232 ∧ ∀ x, x ∈ l → k41 x
theorem op22 : Opens Tryd.prog 22 T22 e22 k22 := Opens.slice1 (g := iW) 8 op41 Tryd.underlying22 (by kernel_rfl) (by kernel_rfl) (by kernel_rfl)
abbrev T23 : Type := List T3
abbrev e23 : T23 → List VVal := fun x => [(fun l : List T3 => VVal.fsl (l.map iI) l.length 1 false) x]
abbrev k23 : T23 → Prop := fun l => l.length * 8 ≤ 140737488351232 ∧ ∀ x, x ∈ l → k3 x
theorem op23 : Opens Tryd.prog 23 T23 e23 k23 := Opens.slice1 (g := iI) 8 op3 Tryd.underlying23 (by kernel_rfl) (by kernel_rfl) (by kernel_rfl)
abbrev T73 : Type := T3 × T3 × T23 × Unit
abbrev e73 : T73 → List VVal := fun x => e3 (x.1) ++ (e3 (x.2.1) ++ (e23 (x.2.2.1) ++ ([])))
abbrev k73 : T73 → Prop := fun x => k3 (x.1) ∧ (k3 (x.2.1) ∧ (k23 (x.2.2.1) ∧ (True)))
theorem op73 : Opens Tryd.prog 73 T73 e73 k73 := Opens.struct Tryd.underlying73 (.cons op3 (by kernel_rfl) (.cons op3 (by kernel_rfl) (.cons op23 (by kernel_rfl) (.nil _)))) (fun a => by kernel_rfl)
abbrev T24 : Type := List T73
abbrev e24 : T24 → List VVal := fun x => [(fun l : List T73 => VVal.fsl (l.flatMap e73) l.length 3 false) x]
abbrev k24 : T24 → Prop := fun l => l.length * 40 ≤ 140737488351232 ∧ ∀ x, x ∈ l → k73 x
theorem op24 : Opens Tryd.prog 24 T24 e24 k24 := Opens.slice 3 40 op73 Tryd.underlying24 (by kernel_rfl) (by kernel_rfl) (by kernel_rfl) (by decide)
abbrev T26 : Type := T3 × T22 × T23 × T24 × Unit
abbrev e26 : T26 → List VVal := fun x => e3 (x.1) ++ (e22 (x.2.1) ++ (e23 (x.2.2.1) ++ (e24 (x.2.2.2.1) ++ ([]))))
abbrev k26 : T26 → Prop := fun x => k3 (x.1) ∧ (k22 (x.2.1) ∧ (k23 (x.2.2.1) ∧ (k24 (x.2.2.2.1) ∧ (True))))
theorem op26 : Opens Tryd.prog 26 T26 e26 k26 := Opens.struct Tryd.underlying26 (.cons op3 (by kernel_rfl) (.cons op22 (by kernel_rfl) (.cons op23 (by kernel_rfl) (.cons op24 (by kernel_rfl) (.nil _))))) (fun a => by kernel_rfl)
end Go.Proofs.YtnbihdflnjpinaaDoor.VT

set_option autoImplicit false
set_option linter.unusedVariables false
set_option linter.unusedSimpArgs false
set_option maxHeartbeats 4000000
set_option maxRecDepth 100000
namespace Go.Proofs.YtnbihdflnjpinaaDoor.VT
open Go Go.V Go.RowKit
abbrev u119 {a0 a1 a2 a3 a4 a5 a6 a7 a8 a9 a10 a11 a12 a13 a14 a15 a16 a17 a18 a19 a20 a21 a22 a23 a24 a25 a26 a27 a28 a29 a30 a31 a32 a33 a34 a35 a36 a37 a38 a39 a40 a41 a42 a43 a44 a45 a46 a47 a48 a49 a50 a51 a52 a53 a54 a55 a56 a57 a58 a59 a60 a61 a62 a63 a64 a65 a66 a67 a68 a69 a70 a71 a72 a73 a74 a75 a76 a77 a78 a79 a80 a81 a82 a83 a84 a85 a86 a87 a88 a89 a90 a91 a92 a93 a94 a95 a96 a97 a98 a99 a100 a101 a102 a103 a104 a105 a106 a107 a108 a109 a110 a111 a112 a113 a114 a115 a116 a117 a118 : VVal} : VEnv := a0 :: a1 :: a2 :: a3 :: a4 :: a5 :: a6 :: a7 :: a8 :: a9 :: a10 :: a11 :: a12 :: a13 :: a14 :: a15 :: a16 :: a17 :: a18 :: a19 :: a20 :: a21 :: a22 :: a23 :: a24 :: a25 :: a26 :: a27 :: a28 :: a29 :: a30 :: a31 :: a32 :: a33 :: a34 :: a35 :: a36 :: a37 :: a38 :: a39 :: a40 :: a41 :: a42 :: a43 :: a44 :: a45 :: a46 :: a47 :: a48 :: a49 :: a50 :: a51 :: a52 :: a53 :: a54 :: a55 :: a56 :: a57 :: a58 :: a59 :: a60 :: a61 :: a62 :: a63 :: a64 :: a65 :: a66 :: a67 :: a68 :: a69 :: a70 :: a71 :: a72 :: a73 :: a74 :: a75 :: a76 :: a77 :: a78 :: a79 :: a80 :: a81 :: a82 :: a83 :: a84 :: a85 :: a86 :: a87 :: a88 :: a89 :: a90 :: a91 :: a92 :: a93 :: a94 :: a95 :: a96 :: a97 :: a98 :: a99 :: a100 :: a101 :: a102 :: a103 :: a104 :: a105 :: a106 :: a107 :: a108 :: a109 :: a110 :: a111 :: a112 :: a113 :: a114 :: a115 :: a116 :: a117 :: a118 :: []
theorem W65 {T : TypeId → Option VTy} {H : VHeap} {op : Op} {ρ : Operand → VVal} {t : TypeId} {a : Operand} {y : VTy} {p v : VVal} (ho : op = .load t a) (ha : ρ a = p) (hy : T t = some y) (hd : isAggDesc y.desc = false) (h : LdOk H p v := by first | exact .inl ⟨_, _, rfl, by first | rfl | assumption | exact fgetN (α := BitVec 64) 0 (by omega) | exact fgetN (α := Int) 0 (by omega) | exact rul_at (by omega) | exact rul_f2 (by omega) | exact rul_f0 (by omega) | exact rul_f1 (by omega)⟩ | exact .inr ⟨_, _, _, _, rfl, by first | exact get_app rfl rfl | exact get_out (by assumption) | exact getE0 rfl rfl | exact get_out (get_app rfl rfl) | exact get_app rfl (by assumption) | assumption | (simp only [List.append_assoc, List.singleton_append, List.cons_append, List.nil_append]; refine getE (i := 0) rfl ?_ rfl; simp; done) | (simp only [List.append_assoc, List.singleton_append, List.cons_append, List.nil_append]; refine getE (i := 1) rfl ?_ rfl; simp; done) | (simp only [List.append_assoc, List.singleton_append, List.cons_append, List.nil_append]; refine getE (i := 2) rfl ?_ rfl; simp; done) | (simp only [List.append_assoc, List.singleton_append, List.cons_append, List.nil_append]; refine getE (i := 3) rfl ?_ rfl; simp; done) | (simp [*]; done), by first | rfl | assumption | exact fgetN (α := BitVec 64) 0 (by omega) | exact fgetN (α := Int) 0 (by omega) | exact rul_at (by omega) | exact rul_f2 (by omega) | exact rul_f0 (by omega) | exact rul_f1 (by omega)⟩) : vop T ρ H op = some (v, H) := v_ld ho ha hy hd h
theorem W66 {T : TypeId → Option VTy} {H : VHeap} {op : Op} {ρ : Operand → VVal} {t e : TypeId} {x i : Operand} {y z : VTy} {k : IntKind} {n : Int} {p v : VVal} {es : Nat} (ho : op = .indexAddr t x i) (hx : ρ x = p) (hi : ρ i = .int k n) (hy : T t = some y) (hd : y.desc = .slice e) (hz : T e = some z) (hs : z.size = es) (h : IxOk p es n v := by first | exact .inl ⟨_, _, _, rfl, by first | assumption | omega | (simp [*]; done) | (simp at *; omega), rfl⟩ | exact .inr ⟨_, _, _, _, _, rfl, by first | assumption | omega | (simp [*]; done) | (simp at *; omega), rfl⟩) : vop T ρ H op = some (v, H) := v_ix ho hx hi hy hd hz hs h
theorem W67 {S : V.Sys} {H : VHeap} {fn : Func} {ex : Exit} {env : VEnv} {B L : VHeap} {v : VVal} {R : VVal → VHeap → Prop} (hx : ex = .normal ∨ ex = .ret) (hv : vresults S.C.T env (B ++ L) fn.results = some v) (h : R v B) (hB : BaseOk H B := by first | exact BaseOk.refl _ | exact BaseOk.set (BaseOk.refl _) _ rfl) (hu : v.under H.length = true := by first | rfl | simp [VVal.under, VVal.underL, *]) : fnK S fn H R ex env (B ++ L) := E_app hx hv hB hu h
theorem W68 {P : Prop} (h : P := by first | exact ⟨by rw [myB_f g hi (by assumption), beq_d], rfl⟩ | exact ⟨by rw [myB_w g hi (by omega), decide_eq_false (by omega)]; rfl, rfl⟩ | exact ⟨by rw [myB_w g hi (by omega), decide_eq_true (by omega), Bool.true_and]; exact congrArg VVal.bool bit_eq, rfl⟩) : P := h
theorem W69 {T : TypeId → Option VTy} {H : VHeap} {op : Op} {ρ : Operand → VVal} {t : TypeId} {a : Operand} {y : VTy} {p : VVal} {n : Nat} {vs : List VVal} (ho : op = .load t a) (ha : ρ a = p) (hy : T t = some y) (hd : isAggDesc y.desc = true) (hn : y.size = n) (h : LdOkA H p n vs := by first | exact .inl ⟨_, _, rfl, by first | rfl | assumption | exact fgetN (α := BitVec 64) 0 (by omega) | exact fgetN (α := Int) 0 (by omega) | exact rul_at (by omega) | exact rul_f2 (by omega) | exact rul_f0 (by omega) | exact rul_f1 (by omega)⟩ | exact .inr ⟨_, _, _, _, rfl, by first | exact get_app rfl rfl | exact get_out (by assumption) | exact getE0 rfl rfl | exact get_out (get_app rfl rfl) | exact get_app rfl (by assumption) | assumption | (simp only [List.append_assoc, List.singleton_append, List.cons_append, List.nil_append]; refine getE (i := 0) rfl ?_ rfl; simp; done) | (simp only [List.append_assoc, List.singleton_append, List.cons_append, List.nil_append]; refine getE (i := 1) rfl ?_ rfl; simp; done) | (simp only [List.append_assoc, List.singleton_append, List.cons_append, List.nil_append]; refine getE (i := 2) rfl ?_ rfl; simp; done) | (simp only [List.append_assoc, List.singleton_append, List.cons_append, List.nil_append]; refine getE (i := 3) rfl ?_ rfl; simp; done) | (simp [*]; done), by first | rfl | assumption | exact fgetN (α := BitVec 64) 0 (by omega) | exact fgetN (α := Int) 0 (by omega) | exact rul_at (by omega) | exact rul_f2 (by omega) | exact rul_f0 (by omega) | exact rul_f1 (by omega)⟩) : vop T ρ H op = some (.agg vs, H) := v_ldA ho ha hy hd hn h
theorem W6a {T : TypeId → Option VTy} {H : VHeap} {op : Op} {ρ : VEnv} {H' : VHeap} {t : TypeId} {a : Operand} {i : Nat} {v : VVal} {y : VTy} {b off : Nat} {cs new : List VVal} (ho : op = .store t a (.tmp i)) (hv : ρ[i]? = some v) (ha : ρ.eval a = .ptr (some (b, off))) (hy : T t = some y) (hx : v.cells = some new) (hn : new.length = y.size) (h1 : new.all VVal.one = true) (hb : H[b]? = some (.cells cs true) := by first | exact get_app rfl rfl | exact get_out (by assumption) | exact getE0 rfl rfl | exact get_out (get_app rfl rfl) | exact get_app rfl (by assumption) | assumption | (simp only [List.append_assoc, List.singleton_append, List.cons_append, List.nil_append]; refine getE (i := 0) rfl ?_ rfl; simp; done) | (simp only [List.append_assoc, List.singleton_append, List.cons_append, List.nil_append]; refine getE (i := 1) rfl ?_ rfl; simp; done) | (simp only [List.append_assoc, List.singleton_append, List.cons_append, List.nil_append]; refine getE (i := 2) rfl ?_ rfl; simp; done) | (simp only [List.append_assoc, List.singleton_append, List.cons_append, List.nil_append]; refine getE (i := 3) rfl ?_ rfl; simp; done) | (simp [*]; done)) (hl : off + new.length ≤ cs.length := by first | exact Nat.le_of_ble_eq_true rfl | (simp only [List.length_map, List.length_cons, List.length_nil]; omega) | omega | (simp; done) | (simp; omega)) (hH : H.set b (.cells (splice cs off new) true) = H' := by first | exact setE0 rfl rfl | (simp only [List.append_assoc, List.singleton_append, List.cons_append, List.nil_append]; refine setE (i := 0) rfl ?_; simp; done) | (simp only [List.append_assoc, List.singleton_append, List.cons_append, List.nil_append]; refine setE (i := 1) rfl ?_; simp; done) | (simp only [List.append_assoc, List.singleton_append, List.cons_append, List.nil_append]; refine setE (i := 2) rfl ?_; simp; done) | (simp only [List.append_assoc, List.singleton_append, List.cons_append, List.nil_append]; refine setE (i := 3) rfl ?_; simp; done) | (refine setB rfl ?_; simp; done) | exact set_app rfl | exact set_out (lt_of_get (by assumption)) | rfl) : vop T ρ.eval H op = some (.skip, H') := v_storeT ho hv ha hy hx hn h1 hb hl hH
theorem W6b {T : TypeId → Option VTy} {H : VHeap} {op : Op} {ρ : Operand → VVal} {t e : TypeId} {x i : Operand} {y z : VTy} {k : IntKind} {n : Int} {p v : VVal} {es : Nat} (ho : op = .indexAddr t x i) (hx : ρ x = p) (hi : ρ i = .int k n) (hy : T t = some y) (hd : y.desc = .slice e) (hz : T e = some z) (hs : z.size = es) (h : IxOk p es n v := by first | exact .inl ⟨_, _, _, rfl, by omega, rfl⟩ | exact .inr ⟨_, _, _, _, _, rfl, by omega, rfl⟩) : vop T ρ H op = some (v, H) := v_ix ho hx hi hy hd hz hs h
theorem W6c {T : TypeId → Option VTy} {H : VHeap} {op : Op} {ρ : Operand → VVal} {t : TypeId} {a : Operand} {y : VTy} {p v : VVal} (ho : op = .load t a) (ha : ρ a = p) (hy : T t = some y) (hd : isAggDesc y.desc = false) (h : LdOk H p v := by first | exact .inl ⟨_, _, rfl, by exact fgetN (α := Nat) 0 (by omega)⟩ | exact .inr ⟨_, _, _, _, rfl, by first | exact get_app rfl rfl | exact get_out (by assumption) | exact getE0 rfl rfl | exact get_out (get_app rfl rfl) | exact get_app rfl (by assumption) | assumption | (simp only [List.append_assoc, List.singleton_append, List.cons_append, List.nil_append]; refine getE (i := 0) rfl ?_ rfl; simp; done) | (simp only [List.append_assoc, List.singleton_append, List.cons_append, List.nil_append]; refine getE (i := 1) rfl ?_ rfl; simp; done) | (simp only [List.append_assoc, List.singleton_append, List.cons_append, List.nil_append]; refine getE (i := 2) rfl ?_ rfl; simp; done) | (simp only [List.append_assoc, List.singleton_append, List.cons_append, List.nil_append]; refine getE (i := 3) rfl ?_ rfl; simp; done) | (simp [*]; done), by exact fgetN (α := Nat) 0 (by omega)⟩) : vop T ρ H op = some (v, H) := v_ld ho ha hy hd h
theorem Cut_few {x : SW} (H : VHeap) (p : Pb) (m : Nat) : F (psys x) 13 [.agg (pbB (fewP p m))] H fun v G => v = .agg (pbB (fewP p m)) ∧ G = H := by
  have := Cut_spec (x := x) H (fewP p m)
  rw [fewP_cut] at this; exact this
theorem row_N {x : SW} (H : VHeap) (l : List Nat) (h : l.length ≤ 30) : F (psys x) 17 [fzN l] H fun v G => v = fzN l ∧ G = H := by
  have := row_spec (x := x) H (zI l)
  rw [List.take_of_length_le (by rw [zI_len]; exact h), ← fzN_is] at this; exact this
theorem Holds_N {x : SW} (H : VHeap) (p : Pb) (l : List Nat) (hp : PbL p) (hl : l.length ≤ 1000000) (h : hds p (zI l) = true) : F (psys x) 16 [.agg (pbB p), fzN l] H fun v G => v = .bool true ∧ G = H := by
  have := Holds_spec (x := x) H p (zI l) hp (by rw [zI_len]; exact hl)
  rw [h, ← fzN_is] at this; exact this
theorem leT_eq (o : Option (List Nat)) : ∃ l ok, leT o = .tuple [fzN l, .bool ok] ∧ (ok = true → o = some l) ∧ (ok = false → l = [] ∧ o = none) := by
  cases o with
  | some l => exact ⟨l, true, rfl, fun _ => rfl, fun e => (by cases e)⟩
  | none => exact ⟨[], false, rfl, fun e => (by cases e), fun _ => ⟨rfl, rfl⟩⟩
theorem fxP_L {p : Pb} {s u : Int} (h : PbL p) : PbL (fxP p s u) := by
  by_cases e : fxE p s u = 0
  · rw [fxP_ok e]
    exact ⟨h.u, h.w, by show (p.fixed.set _ _).length ≤ _; rw [List.length_set]; exact h.f, h.r, h.s⟩
  · rw [fxP_no e]; exact ⟨by decide, by decide, by decide, by decide, fun r hr => by cases hr⟩
theorem hds_len' {p : Pb} {l : List Nat} (h : hds p (zI l) = true) : l.length = p.who.length ∧ l.length ≤ 12 := by
  obtain ⟨g, h1, _⟩ := hds_iff.1 h
  rw [zI_len] at h1
  exact ⟨h1, by rw [h1]; exact g.n12⟩
theorem lmay_spec {x : SW} (H : VHeap) (p : Pb) (g : Go.V.Good p) (i : Nat) (hi : i < p.who.length) (u : Int) : F (psys x) 34 [.agg (pbB p), iI (i : Nat), iI u] H fun v G => v = .bool (myB p i u) ∧ G = H := by
 have g5 := g.fx
 refine F_body Tryd.func34 rfl u39 rfl ?_
 refine B_seq (B_region ?_)
 refine Lo u39 (v_boxT rfl rfl rfl) ?_
 refine Lo u39 (v_const (VVal.bool false) (.inr rfl) rfl) ?_
 refine L_nil (K_seq (B_seq (B_seq (B_region ?_))))
 refine Lo u39 (rfl) ?_
 refine Lo u39 (W65 rfl rfl rfl rfl) ?_
 refine Lo u39 (v_move (.inl rfl) rfl) ?_
 refine Lo u39 (W66 rfl rfl rfl rfl rfl rfl rfl) ?_
 refine Lo u39 (W65 rfl rfl rfl rfl) ?_
 refine Lo u39 (rfl) ?_
 refine L_nil (K_seq ?_)
 refine B_cond _ rfl (fun hc1 => ?_) (fun hc1 => ?_)
 ·try simp only [qB, qN] at hc1
  refine B_seq (B_region ?_)
  refine Lo u39 (v_move (.inl rfl) rfl) ?_
  refine Lo u39 (rfl) ?_
  refine Lo u39 (W65 rfl rfl rfl rfl) ?_
  refine Lo u39 (v_move (.inl rfl) rfl) ?_
  refine Lo u39 (W66 rfl rfl rfl rfl rfl rfl rfl) ?_
  refine Lo u39 (W65 rfl rfl rfl rfl) ?_
  refine Lo u39 (rfl) ?_
  refine Lo u39 (v_move (.inr rfl) rfl) ?_
  refine L_nil (K_seq (B_ret (K_seqR ?_)))
  refine W67 (.inr rfl) (vres_tmp rfl rfl) ?_
  exact W68
 ·try simp only [qB, qN] at hc1
  refine B_skip (K_seq (B_seq (B_region ?_)))
  refine Lo u39 (v_move (.inl rfl) rfl) ?_
  refine Lo u39 (rfl) ?_
  refine Lo u39 (v_move (.inl rfl) rfl) ?_
  refine L_split 22 (env1 := u39) (env2 := u39) rfl rfl rfl (fun hg2 => ?_) (fun hg2 => ?_)
  ·try simp only [qB, qN] at hg2
   refine Lo u39 (v_move (.inl rfl) rfl) ?_
   refine Lo u39 (rfl) ?_
   refine Lo u39 (W65 rfl rfl rfl rfl) ?_
   refine Lo u39 (rfl) ?_
   refine Lo u39 (v_pickT rfl rfl rfl) ?_
   refine Lo u39 (v_move (.inl rfl) rfl) ?_
   refine L_split 28 (env1 := u39) (env2 := u39) rfl rfl rfl (fun hg3 => ?_) (fun hg3 => ?_)
   ·try simp only [qB, qN] at hg3
    refine Lo u39 (rfl) ?_
    refine Lo u39 (W65 rfl rfl rfl rfl) ?_
    refine Lo u39 (v_move (.inl rfl) rfl) ?_
    refine Lo u39 (W66 rfl rfl rfl rfl rfl rfl rfl) ?_
    refine Lo u39 (W65 rfl rfl rfl rfl) ?_
    refine Lo u39 (v_move (.inl rfl) rfl) ?_
    refine Lo u39 (v_shrW rfl rfl rfl (by first | assumption | omega | (simp [*]; done) | (simp at *; omega))) ?_
    refine Lo u39 (v_andW (b := 1#64) rfl rfl rfl) ?_
    refine Lo u39 (rfl) ?_
    refine Lo u39 (v_pickT rfl rfl rfl) ?_
    refine Lo u39 (v_move (.inr rfl) rfl) ?_
    refine L_nil (K_seq (B_ret ?_))
    refine W67 (.inr rfl) (vres_tmp rfl rfl) ?_
    exact W68
   ·try simp only [qB, qN] at hg3
    refine Lf u39 ?_
    refine Lf u39 ?_
    refine Lf u39 ?_
    refine Lf u39 ?_
    refine Lf u39 ?_
    refine Lf u39 ?_
    refine Lf u39 ?_
    refine Lf u39 ?_
    refine Lf u39 ?_
    refine Lo u39 (v_pickFC (VVal.bool false) rfl rfl rfl) ?_
    refine Lo u39 (v_move (.inr rfl) rfl) ?_
    refine L_nil (K_seq (B_ret ?_))
    refine W67 (.inr rfl) (vres_tmp rfl rfl) ?_
    exact W68
  ·try simp only [qB, qN] at hg2
   refine Lf u39 ?_
   refine Lf u39 ?_
   refine Lf u39 ?_
   refine Lf u39 ?_
   refine Lo u39 (v_pickFC (VVal.bool false) rfl rfl rfl) ?_
   refine Lo u39 (v_move (.inl rfl) rfl) ?_
   refine Lf u39 ?_
   refine Lf u39 ?_
   refine Lf u39 ?_
   refine Lf u39 ?_
   refine Lf u39 ?_
   refine Lf u39 ?_
   refine Lf u39 ?_
   refine Lf u39 ?_
   refine Lf u39 ?_
   refine Lo u39 (v_pickFC (VVal.bool false) rfl rfl rfl) ?_
   refine Lo u39 (v_move (.inr rfl) rfl) ?_
   refine L_nil (K_seq (B_ret ?_))
   refine W67 (.inr rfl) (vres_tmp rfl rfl) ?_
   exact W68
theorem SolveFix_walk {x : SW} (H : VHeap) (p : Pb) (s u : Int) (hu : -9223372036854775808 ≤ p.users ∧ p.users < 9223372036854775808) : F (psys x) 9 [.agg (pbB p), iI s, iI u] H fun v G => v = .bool true ∧ G = H := by
 have hL := fewP_L (m := 9) hu
 have hX := fxP_L (s := s) (u := u) hL
 refine F_body Tryd.func9 rfl u119 rfl ?_
 refine B_seq (B_region ?_)
 refine Lo u119 (v_boxT rfl rfl rfl) ?_
 refine Lo u119 (v_const (VVal.bool false) (.inr rfl) rfl) ?_
 refine L_nil (K_seq (B_seq ?_))
 refine B_gh (Gh.freezePtrL (cs := pbB p) 3 0 rfl rfl rfl) ?_
 refine B_region ?_
 refine Lo u119 (W69 rfl rfl rfl rfl rfl) ?_
 refine L_call rfl rfl rfl (by exact Few_spec _ p 9 hu) ?_
 rintro _ _ ⟨rfl, rfl⟩
 refine Le u119 ?_
 refine Lo u119 (v_alloc rfl rfl) ?_
 refine Lo u119 (W6a rfl rfl rfl rfl rfl rfl rfl) ?_
 refine L_nil (K_seq (B_seq ?_))
 refine B_gh (Gh.freezePtrL (cs := pbB (fewP p 9)) 7 1 rfl rfl rfl) ?_
 refine B_region ?_
 refine L_call rfl rfl rfl (by exact sNew_spec _) ?_
 rintro _ _ ⟨rfl, rfl⟩
 refine Le u119 ?_
 refine Lo u119 (v_move (.inr rfl) rfl) ?_
 refine L_nil (K_seq (B_seq (B_seq (B_region ?_))))
 refine Lo u119 (v_move (.inl rfl) rfl) ?_
 refine Lo u119 (v_is false rfl rfl) ?_
 refine Lo u119 (v_move (.inl rfl) rfl) ?_
 refine L_call rfl rfl rfl (by exact wakes_spec _) ?_
 rintro _ _ ⟨rfl, rfl⟩
 refine Le u119 ?_
 refine Lo u119 (rfl) ?_
 refine Lo u119 (v_pickF rfl rfl rfl) ?_
 refine L_nil (K_seq ?_)
 refine B_false rfl rfl ?_
 refine B_skip (K_seq (B_seq (B_region ?_)))
 refine Lo u119 (W69 rfl rfl rfl rfl rfl) ?_
 refine L_call rfl rfl rfl (by exact Cut_few _ p 9) ?_
 rintro _ _ ⟨rfl, rfl⟩
 refine Le u119 ?_
 refine Lo u119 (v_move (.inl rfl) rfl) ?_
 refine Lo u119 (v_move (.inl rfl) rfl) ?_
 refine L_call rfl rfl rfl (by exact Fix_spec _ (fewP p 9) s u hL) ?_
 rintro _ _ ⟨rfl, rfl⟩
 refine Le u119 ?_
 refine Lo u119 (v_move (.inl rfl) rfl) ?_
 refine Lo u119 (rfl) ?_
 refine Lo u119 (rfl) ?_
 refine Lo u119 (v_alloc rfl rfl) ?_
 refine Lo u119 (W6a rfl rfl rfl rfl rfl rfl rfl) ?_
 refine Lo u119 (v_move (.inr rfl) rfl) ?_
 refine L_nil (K_seq (B_seq ?_))
 refine B_gh (Gh.freezePtrL (cs := pbB (fxP (fewP p 9) s u)) 9 1 rfl rfl rfl) ?_
 refine B_region ?_
 refine Lo u119 (W69 rfl rfl rfl rfl rfl) ?_
 refine Lo u119 (v_move (.inl rfl) rfl) ?_
 refine Lo u119 (v_move (.inl rfl) rfl) ?_
 refine L_call rfl rfl rfl (by exact fFix_spec _ (fewP p 9) s u hL) ?_
 rintro _ _ ⟨rfl, rfl⟩
 refine Le u119 ?_
 refine Lo u119 (v_move (.inl rfl) rfl) ?_
 refine Lo u119 (rfl) ?_
 refine Lo u119 (rfl) ?_
 refine Lo u119 (v_alloc rfl rfl) ?_
 refine Lo u119 (W6a rfl rfl rfl rfl rfl rfl rfl) ?_
 refine Lo u119 (v_move (.inr rfl) rfl) ?_
 refine L_nil (K_seq (B_seq (B_seq ?_)))
 refine B_gh (Gh.freezePtrL (cs := pbB (fxP (fewP p 9) s u)) 11 2 rfl rfl rfl) ?_
 refine B_region ?_
 refine Lo u119 (v_move (.inl rfl) rfl) ?_
 refine Lo u119 (v_move (.inl rfl) rfl) ?_
 refine Lo u119 (v_is false rfl (by simp)) ?_
 refine Lo u119 (v_move (.inl rfl) rfl) ?_
 refine Lo u119 (rfl) ?_
 refine Lo u119 (W65 rfl rfl rfl rfl) ?_
 refine Lo u119 (rfl) ?_
 refine Lo u119 (W65 rfl rfl rfl rfl) ?_
 refine Lo u119 (v_is false rfl (by simp)) ?_
 refine Lo u119 (v_pickF rfl rfl rfl) ?_
 refine Lo u119 (v_move (.inl rfl) rfl) ?_
 refine Lo u119 (rfl) ?_
 refine Lo u119 (W65 rfl rfl rfl rfl) ?_
 refine Lo u119 (rfl) ?_
 refine Lo u119 (W65 rfl rfl rfl rfl) ?_
 refine L_call rfl rfl rfl (by exact kRows_spec _ (fxP (fewP p 9) s u).who (fxP (fewP p 9) s u).who hX.w) ?_
 rintro v _ ⟨hv, rfl⟩; obtain rfl : v = .bool true := hv.trans (by simp)
 refine Le u119 ?_
 refine Lo u119 (rfl) ?_
 refine Lo u119 (v_pickF rfl rfl rfl) ?_
 refine Lo u119 (v_move (.inl rfl) rfl) ?_
 refine Lo u119 (rfl) ?_
 refine Lo u119 (W65 rfl rfl rfl rfl) ?_
 refine Lo u119 (rfl) ?_
 refine Lo u119 (W65 rfl rfl rfl rfl) ?_
 refine L_call rfl rfl rfl (by exact kInts_spec _ (fxP (fewP p 9) s u).fixed (fxP (fewP p 9) s u).fixed hX.f) ?_
 rintro v _ ⟨hv, rfl⟩; obtain rfl : v = .bool true := hv.trans (by simp)
 refine Le u119 ?_
 refine Lo u119 (rfl) ?_
 refine Lo u119 (v_pickF rfl rfl rfl) ?_
 refine Lo u119 (v_move (.inl rfl) rfl) ?_
 refine Lo u119 (rfl) ?_
 refine Lo u119 (W65 rfl rfl rfl rfl) ?_
 refine Lo u119 (rfl) ?_
 refine Lo u119 (W65 rfl rfl rfl rfl) ?_
 refine L_call rfl rfl rfl (by exact kRules_spec _ (fxP (fewP p 9) s u).rules (fxP (fewP p 9) s u).rules hX.r hX.s) ?_
 rintro v _ ⟨hv, rfl⟩; obtain rfl : v = .bool true := hv.trans (by simp)
 refine Le u119 ?_
 refine Lo u119 (rfl) ?_
 refine Lo u119 (v_pickF rfl rfl rfl) ?_
 refine L_nil (K_seq ?_)
 refine B_false rfl rfl ?_
 refine B_skip (K_seq (B_seq (B_seq (B_region ?_))))
 refine Lo u119 (v_move (.inl rfl) rfl) ?_
 refine Lo u119 (rfl) ?_
 refine L_nil (K_seq ?_)
 refine B_cond _ rfl (fun hc1 => ?_) (fun hc1 => ?_)
 ·try simp only [qB, qN] at hc1
  refine B_seq (B_region ?_)
  refine Lo u119 (v_const (VVal.bool true) (.inr rfl) rfl) ?_
  refine L_nil (K_seq ?_)
  refine B_heap (List.append_assoc _ _ _) ?_
  refine B_ret (K_seqR ?_)
  refine W67 (.inr rfl) (vres_tmp rfl rfl) ?_
  exact ⟨rfl, rfl⟩
 ·try simp only [qB, qN] at hc1
  refine B_skip (K_seq (B_seq (B_seq ?_)))
  have hE : fxE (fewP p 9) s u = 0 := by assumption
  obtain ⟨g, hs9, hu9⟩ := fxE_ok.1 hE
  obtain ⟨n, rfl⟩ : ∃ n : Nat, s = n := ⟨s.toNat, by omega⟩
  refine B_region ?_
  refine Lo u119 (W69 rfl rfl rfl rfl rfl) ?_
  refine Lo u119 (v_move (.inl rfl) rfl) ?_
  refine Lo u119 (v_move (.inl rfl) rfl) ?_
  refine L_call rfl rfl rfl (by exact lmay_spec _ (fewP p 9) g n (by omega) u) ?_
  rintro _ _ ⟨rfl, rfl⟩
  refine Le u119 ?_
  refine Lo u119 (rfl) ?_
  refine L_nil (K_seq ?_)
  refine B_cond _ rfl (fun hc2 => ?_) (fun hc2 => ?_)
  ·try simp only [qB, qN] at hc2
   refine B_seq (B_region ?_)
   refine Lo u119 (v_const (VVal.bool true) (.inr rfl) rfl) ?_
   refine L_nil (K_seq ?_)
   refine B_heap (List.append_assoc _ _ _) ?_
   refine B_ret (K_seqR ?_)
   refine W67 (.inr rfl) (vres_tmp rfl rfl) ?_
   exact ⟨rfl, rfl⟩
  ·try simp only [qB, qN] at hc2
   refine B_skip (K_seq (B_seq ?_))
   have hmy : myB (fewP p 9) n u = true := by assumption
   refine B_region ?_
   refine Lo u119 (v_move (.inl rfl) rfl) ?_
   refine Lo u119 (W69 rfl rfl rfl rfl rfl) ?_
   refine L_call rfl rfl rfl (by exact sLeast_at _ _ 0 (fxP (fewP p 9) n u) hX) ?_
   rintro v _ ⟨hv, rfl⟩; obtain ⟨l, ok, he, h1, h2⟩ := leT_eq (leA (fxP (fewP p 9) n u)); rw [he] at hv; subst hv
   refine Le u119 ?_
   refine Lo u119 (v_move (.inl rfl) rfl) ?_
   refine Lo u119 (rfl) ?_
   refine Lo u119 (rfl) ?_
   refine Lo u119 (v_move (.inr rfl) rfl) ?_
   refine Lo u119 (v_move (.inr rfl) rfl) ?_
   refine L_nil (K_seq (B_seq (B_seq (B_region ?_))))
   refine Lo u119 (v_move (.inl rfl) rfl) ?_
   refine Lo u119 (v_move (.inl rfl) rfl) ?_
   refine L_split 87 (env1 := u119) (env2 := u119) rfl rfl rfl (fun hg3 => ?_) (fun hg3 => ?_)
   ·try simp only [qB, qN] at hg3
    have hok : ok = true := hg3
    subst hok
    have hd := fx_hds (s := (n : Int)) hE (by rw [Int.toNat_natCast]; exact hmy) (leA_some (h1 rfl))
    have hl9 := hds_len' hd.1
    have hll := hl9.1
    have hln : (l.getD n 0 : Int) = u := by have := hd.2; rw [Int.toNat_natCast, zI_get (by omega)] at this; exact this
    refine Lo u119 (v_move (.inl rfl) rfl) ?_
    refine Lo u119 (rfl) ?_
    refine Lo u119 (rfl) ?_
    refine Lo u119 (W65 rfl rfl rfl rfl) ?_
    refine Lo u119 (rfl) ?_
    refine Lo u119 (v_is false rfl (by simp [hll])) ?_
    refine Lo u119 (v_move (.inl rfl) rfl) ?_
    refine Lo u119 (v_move (.inl rfl) rfl) ?_
    refine Lo u119 (v_move (.inl rfl) rfl) ?_
    refine Lo u119 (W6b rfl rfl rfl rfl rfl rfl rfl) ?_
    refine Lo u119 (W6c rfl rfl rfl rfl) ?_
    refine Lo u119 (v_move (.inl rfl) rfl) ?_
    refine Lo u119 (v_is false rfl (by rw [hln]; simp)) ?_
    refine Lo u119 (v_pickF rfl rfl rfl) ?_
    refine Lo u119 (v_move (.inl rfl) rfl) ?_
    refine Lo u119 (W69 rfl rfl rfl rfl rfl) ?_
    refine L_call rfl rfl rfl (by exact Cut_few _ p 9) ?_
    rintro _ _ ⟨rfl, rfl⟩
    refine Le u119 ?_
    refine Lo u119 (v_move (.inl rfl) rfl) ?_
    refine L_call rfl rfl rfl (by exact row_N _ l (by omega)) ?_
    rintro _ _ ⟨rfl, rfl⟩
    refine Le u119 ?_
    refine L_call rfl rfl rfl (by exact Holds_N _ (fewP p 9) l hL (by omega) hd.1) ?_
    rintro _ _ ⟨rfl, rfl⟩
    refine Le u119 ?_
    refine Lo u119 (rfl) ?_
    refine Lo u119 (v_pickF rfl rfl rfl) ?_
    refine Lo u119 (v_pickT rfl rfl rfl) ?_
    refine L_nil (K_seq ?_)
    refine B_false rfl rfl ?_
    refine B_skip (K_seq (B_seq (B_region ?_)))
    refine Lo u119 (v_move (.inl rfl) rfl) ?_
    refine Lo u119 (rfl) ?_
    refine Lo u119 (v_move (.inl rfl) rfl) ?_
    refine Lo u119 (v_move (.inl rfl) rfl) ?_
    refine Lo u119 (W69 rfl rfl rfl rfl rfl) ?_
    refine L_call rfl rfl rfl (by exact Cut_few _ p 9) ?_
    rintro _ _ ⟨rfl, rfl⟩
    refine Le u119 ?_
    refine L_call rfl rfl rfl (by exact Can_at _ _ _ (fewP p 9) hL) ?_
    rintro v _ ⟨hv, rfl⟩; obtain rfl : v = .bool true := hv.trans (congrArg VVal.bool (leA_can hd.1))
    refine Le u119 ?_
    refine Lo u119 (v_pickF rfl rfl rfl) ?_
    refine Lo u119 (v_move (.inr rfl) rfl) ?_
    refine L_nil (K_seq ?_)
    refine B_heap (List.append_assoc _ _ _) ?_
    refine B_ret ?_
    refine W67 (.inr rfl) (vres_tmp rfl rfl) ?_
    exact ⟨rfl, rfl⟩
   ·try simp only [qB, qN] at hg3
    have hok : ok = false := hg3
    subst hok
    refine Lf u119 ?_
    refine Lf u119 ?_
    refine Lf u119 ?_
    refine Lf u119 ?_
    refine Lf u119 ?_
    refine Lf u119 ?_
    refine Lf u119 ?_
    refine Lf u119 ?_
    refine Lf u119 ?_
    refine Lf u119 ?_
    refine Lf u119 ?_
    refine Lf u119 ?_
    refine Lf u119 ?_
    refine Lf u119 ?_
    refine Lf u119 ?_
    refine Lf u119 ?_
    refine Lf u119 ?_
    refine Lf u119 ?_
    refine Lf u119 ?_
    refine Lf u119 ?_
    refine Lf u119 ?_
    refine Lf u119 ?_
    refine Lo u119 (v_pickFC (VVal.bool false) rfl rfl rfl) ?_
    refine L_nil (K_seq ?_)
    refine B_false rfl rfl ?_
    refine B_skip (K_seq (B_seq (B_region ?_)))
    refine Lo u119 (v_move (.inl rfl) rfl) ?_
    refine Lo u119 (rfl) ?_
    refine Lo u119 (v_move (.inl rfl) rfl) ?_
    refine Lf u119 ?_
    refine Lf u119 ?_
    refine Lf u119 ?_
    refine Lf u119 ?_
    refine Lo u119 (v_pickTC (VVal.bool true) rfl rfl rfl) ?_
    refine Lo u119 (v_move (.inr rfl) rfl) ?_
    refine L_nil (K_seq ?_)
    refine B_heap (List.append_assoc _ _ _) ?_
    refine B_ret ?_
    refine W67 (.inr rfl) (vres_tmp rfl rfl) ?_
    exact ⟨rfl, rfl⟩
theorem SolveFix_law {x : SW} (p : Pb) (s u : Int) (hu : -9223372036854775808 ≤ p.users ∧ p.users < 9223372036854775808) : F (psys x) 9 [.agg (pbB p), iI s, iI u] [] fun v G => v = .bool true := (SolveFix_walk [] p s u hu).mono fun v G h => h.1
end Go.Proofs.YtnbihdflnjpinaaDoor.VT
