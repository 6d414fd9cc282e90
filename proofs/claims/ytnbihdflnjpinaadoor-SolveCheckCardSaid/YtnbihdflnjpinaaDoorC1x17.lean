/- Proved: Rows.SolveCheckCardSaid, the statement SolveCheck with its card, of the given program at the commit; no conditions beyond those in the statement. -/
import Derived.Test.YtnbihdflnjpinaaDoorC1x16
import Derived.Test.YtnbihdflnjpinaaDoorRows
import Derived.LaidMore
import Derived.Stop.Joined
set_option autoImplicit false
set_option linter.unusedVariables false
set_option maxRecDepth 100000
namespace Go.Proofs.YtnbihdflnjpinaaDoor.VT
open Go Go.V Go.RowKit Go.Shelf Go.ChangeShapes Go.WideShapes Go.ChangeAt Go.WideMaps Go.WideElems
theorem own : ownKnob Tryd.prog.godebug = none := by kernel_rfl
theorem laidOut : laidOutB Tryd.prog = true := by kernel_rfl
theorem gTab : Tryd.prog.globalNamed "math/bits.deBruijn64tab" = some 0 := by kernel_rfl
theorem tTab : (Tryd.prog.globals[0]?).map (·.type) = some 149 := by kernel_rfl
abbrev laidL : List (String × DataW Unit) := [("math/bits.deBruijn64tab", Rows.laid_math_bits_deBruijn64tab)]
theorem door_met (os : Os) (args : Array Value) : laidMetH Tryd.prog laidL ((World.doorLaid Tryd.prog 400 os).forCall (fun _ _ => 0) ⟨#[], args, []⟩).memory :=
  laidMetH_of_parts3 (fuel := 8) (laidMet_of_run' 8 (by kernel_rfl) (by kernel_rfl)) (by kernel_rfl) (by kernel_rfl)
theorem laid_tab : (Rows.laid_math_bits_deBruijn64tab : DataW Unit) = .agg (Lib.deBruijn64tab.map fun n : Nat => .lit (.int .u8 (n : Int))) := by kernel_rfl
theorem of_laid {W : World} (h : laidMetH Tryd.prog laidL W) : 0 < W.heap.size ∧ TabAt 0 Lib.deBruijn64tab W := by
  rw [MakeChecks.laidMetH_plain _ _ _ (by kernel_rfl)] at h
  obtain ⟨ps, ⟨g0, t0, cs0, f0, p0, q0, hg0, ht0, hv0, hd0, _, _⟩, _, _⟩ := h
  obtain rfl := Option.some.inj (gTab.symm.trans hg0)
  obtain rfl := Option.some.inj (tTab.symm.trans ht0)
  obtain ⟨xs, m, rfl, hx, hlen, hn, hel⟩ := DataW.trod_array Tryd.underlying149 hd0
  have c5 : Tryd.prog.cellsOf 5 = 1 := by kernel_rfl
  rw [c5] at hel
  simp only [Prod.mk.injEq] at hx
  have hx1 := hx.1
  rw [laid_tab] at hx1
  simp only [DataW.agg.injEq] at hx1
  have key : TabAt 0 Lib.deBruijn64tab W := by
    intro j hj
    have hj' : j < 64 := hj
    have h1 := hel j hj'
    have hxl : j < xs.length := by rw [hn]; exact hj'
    have hxj : xs[j]? = some xs[j] := by simp [hxl]
    rw [hxj] at h1
    obtain ⟨n, e1, e2, _⟩ := DataW.trod_int Tryd.underlying5 h1
    have h2 : (xs.map (·.1))[j]? = (Lib.deBruijn64tab.map fun n : Nat => (DataW.lit (.int .u8 (n : Int)) : DataW Unit))[j]? := by rw [← hx1]
    rw [List.getElem?_map, List.getElem?_map, hxj] at h2
    have hjl : j < Lib.deBruijn64tab.length := hj
    rw [List.getElem?_eq_getElem hjl] at h2
    simp only [Option.map_some, Option.some.injEq] at h2
    rw [e2] at h2
    simp only [DataW.lit.injEq, Lit.int.injEq, true_and] at h2
    have h3 := World.var?_cell hg0 hv0 j
    have h4 : cs0[j]? = some (.int .u8 n) := by
      have : cs0.toList[j]? = some (.int .u8 n) := by
        rw [← List.head?_drop]
        rw [Nat.mul_one] at e1
        cases hd : cs0.toList.drop j with
        | nil => rw [hd] at e1; simp at e1
        | cons c r => rw [hd] at e1; simp at e1; rw [e1]; rfl
      simpa using this
    rw [h4] at h3
    rw [h3, h2]
    simp [List.getD_eq_getElem?_getD, hjl]
  refine ⟨?_, key⟩
  have h0 := key 0 (by decide)
  simp only [World.cell?] at h0
  split at h0
  · rename_i hh; exact (Array.getElem?_eq_some_iff.1 hh).1
  · cases h0
def sw {W : World} (h : laidMetH Tryd.prog laidL W) : SW := ⟨W, (of_laid h).1, (of_laid h).2⟩
end Go.Proofs.YtnbihdflnjpinaaDoor.VT

set_option autoImplicit false
set_option linter.unusedVariables false
set_option maxRecDepth 100000
namespace Go.Proofs.YtnbihdflnjpinaaDoor.VT
open Go Go.V Go.RowKit Go.ChangeShapes
abbrev T3 : Type := Int
abbrev e3 : T3 → List VVal := fun x => [iI x]
abbrev k3 : T3 → Prop := fun n => -9223372036854775808 ≤ n ∧ n < 9223372036854775808
theorem op3 : Opens Tryd.prog 3 T3 e3 k3 := Opens.int Tryd.underlying3 (by kernel_rfl)
abbrev T41 : Type := BitVec 64
abbrev e41 : T41 → List VVal := fun x => [iW x]
abbrev k41 : T41 → Prop := fun _ => True
theorem op41 : Opens Tryd.prog 41 T41 e41 k41 := Opens.word Tryd.underlying41 (by kernel_rfl)
abbrev T22 : Type := List T41
abbrev e22 : T22 → List VVal := fun x => [(fun l : List T41 => VVal.fsl (l.map iW) l.length 1 false) x]
abbrev k22 : T22 → Prop := fun l => l.length * 8 ≤ 140737488351232 ∧ ∀ x, x ∈ l → k41 x
theorem op22 : Opens Tryd.prog 22 T22 e22 k22 := Opens.slice1 (g := iW) 8 op41 Tryd.underlying22 (by kernel_rfl) (by kernel_rfl) (by kernel_rfl)
abbrev T23 : Type := List T3
abbrev e23 : T23 → List VVal := fun x => [(fun l : List T3 => VVal.fsl (l.map iI) l.length 1 false) x]
abbrev k23 : T23 → Prop := fun l => l.length * 8 ≤ 140737488351232 ∧ ∀ x, x ∈ l → k3 x
theorem op23 : Opens Tryd.prog 23 T23 e23 k23 := Opens.slice1 (g := iI) 8 op3 Tryd.underlying23 (by kernel_rfl) (by kernel_rfl) (by kernel_rfl)
abbrev T73 : Type := T3 × T3 × T23 × Unit
abbrev e73 : T73 → List VVal := fun x => e3 (x.1) ++ (e3 (x.2.1) ++ (e23 (x.2.2.1) ++ ([])))
abbrev k73 : T73 → Prop := fun x => k3 (x.1) ∧ (k3 (x.2.1) ∧ (k23 (x.2.2.1) ∧ (True)))
theorem op73 : Opens Tryd.prog 73 T73 e73 k73 := Opens.struct Tryd.underlying73 (.cons op3 (by kernel_rfl) (.cons op3 (by kernel_rfl) (.cons op23 (by kernel_rfl) (.nil _)))) (fun a => by kernel_rfl)
abbrev T24 : Type := List T73
abbrev e24 : T24 → List VVal := fun x => [(fun l : List T73 => VVal.fsl (l.flatMap e73) l.length 3 false) x]
abbrev k24 : T24 → Prop := fun l => l.length * 40 ≤ 140737488351232 ∧ ∀ x, x ∈ l → k73 x
theorem op24 : Opens Tryd.prog 24 T24 e24 k24 := Opens.slice 3 40 op73 Tryd.underlying24 (by kernel_rfl) (by kernel_rfl) (by kernel_rfl) (by decide)
abbrev T26 : Type := T3 × T22 × T23 × T24 × Unit
abbrev e26 : T26 → List VVal := fun x => e3 (x.1) ++ (e22 (x.2.1) ++ (e23 (x.2.2.1) ++ (e24 (x.2.2.2.1) ++ ([]))))
abbrev k26 : T26 → Prop := fun x => k3 (x.1) ∧ (k22 (x.2.1) ∧ (k23 (x.2.2.1) ∧ (k24 (x.2.2.2.1) ∧ (True))))
theorem op26 : Opens Tryd.prog 26 T26 e26 k26 := Opens.struct Tryd.underlying26 (.cons op3 (by kernel_rfl) (.cons op22 (by kernel_rfl) (.cons op23 (by kernel_rfl) (.cons op24 (by kernel_rfl) (.nil _))))) (fun a => by kernel_rfl)
end Go.Proofs.YtnbihdflnjpinaaDoor.VT

set_option autoImplicit false
set_option linter.unusedVariables false
set_option linter.unusedSimpArgs false
set_option maxHeartbeats 4000000
set_option maxRecDepth 100000
namespace Go.Proofs.YtnbihdflnjpinaaDoor.VT
open Go Go.V Go.RowKit
theorem W5u {T : TypeId → Option VTy} {H : VHeap} {op : Op} {ρ : Operand → VVal} {t : TypeId} {a : Operand} {y : VTy} {p : VVal} {n : Nat} {vs : List VVal} (ho : op = .load t a) (ha : ρ a = p) (hy : T t = some y) (hd : isAggDesc y.desc = true) (hn : y.size = n) (h : LdOkA H p n vs := by first | exact .inl ⟨_, _, rfl, by first | rfl | assumption | exact fget (α := BitVec 64) 0 (by omega) | exact fget (α := Int) 0 (by omega) | exact fget0 (α := BitVec 64) 0 (by omega) | exact fget0 (α := Int) 0 (by omega) | exact fget (α := Bool) false (by omega) | exact fget0 (α := Bool) false (by omega) | (simp [*]; done)⟩ | exact .inr ⟨_, _, _, _, rfl, by first | exact get_app rfl rfl | exact get_out (by assumption) | exact getE0 rfl rfl | exact get_out (get_app rfl rfl) | exact get_app rfl (by assumption) | assumption | (simp only [List.append_assoc, List.singleton_append, List.cons_append, List.nil_append]; refine getE (i := 0) rfl ?_ rfl; simp; done) | (simp only [List.append_assoc, List.singleton_append, List.cons_append, List.nil_append]; refine getE (i := 1) rfl ?_ rfl; simp; done) | (simp only [List.append_assoc, List.singleton_append, List.cons_append, List.nil_append]; refine getE (i := 2) rfl ?_ rfl; simp; done) | (simp only [List.append_assoc, List.singleton_append, List.cons_append, List.nil_append]; refine getE (i := 3) rfl ?_ rfl; simp; done) | (simp [*]; done), by first | rfl | assumption | exact fget (α := BitVec 64) 0 (by omega) | exact fget (α := Int) 0 (by omega) | exact fget0 (α := BitVec 64) 0 (by omega) | exact fget0 (α := Int) 0 (by omega) | exact fget (α := Bool) false (by omega) | exact fget0 (α := Bool) false (by omega) | (simp [*]; done)⟩) : vop T ρ H op = some (.agg vs, H) := v_ldA ho ha hy hd hn h
theorem W5v {T : TypeId → Option VTy} {H : VHeap} {op : Op} {ρ : VEnv} {H' : VHeap} {t : TypeId} {a : Operand} {i : Nat} {v : VVal} {y : VTy} {b off : Nat} {cs new : List VVal} (ho : op = .store t a (.tmp i)) (hv : ρ[i]? = some v) (ha : ρ.eval a = .ptr (some (b, off))) (hy : T t = some y) (hx : v.cells = some new) (hn : new.length = y.size) (h1 : new.all VVal.one = true) (hb : H[b]? = some (.cells cs true) := by first | exact get_app rfl rfl | exact get_out (by assumption) | exact getE0 rfl rfl | exact get_out (get_app rfl rfl) | exact get_app rfl (by assumption) | assumption | (simp only [List.append_assoc, List.singleton_append, List.cons_append, List.nil_append]; refine getE (i := 0) rfl ?_ rfl; simp; done) | (simp only [List.append_assoc, List.singleton_append, List.cons_append, List.nil_append]; refine getE (i := 1) rfl ?_ rfl; simp; done) | (simp only [List.append_assoc, List.singleton_append, List.cons_append, List.nil_append]; refine getE (i := 2) rfl ?_ rfl; simp; done) | (simp only [List.append_assoc, List.singleton_append, List.cons_append, List.nil_append]; refine getE (i := 3) rfl ?_ rfl; simp; done) | (simp [*]; done)) (hl : off + new.length ≤ cs.length := by first | exact Nat.le_of_ble_eq_true rfl | (simp only [List.length_map, List.length_cons, List.length_nil]; omega) | omega | (simp; done) | (simp; omega)) (hH : H.set b (.cells (splice cs off new) true) = H' := by first | exact setE0 rfl rfl | (simp only [List.append_assoc, List.singleton_append, List.cons_append, List.nil_append]; refine setE (i := 0) rfl ?_; simp; done) | (simp only [List.append_assoc, List.singleton_append, List.cons_append, List.nil_append]; refine setE (i := 1) rfl ?_; simp; done) | (simp only [List.append_assoc, List.singleton_append, List.cons_append, List.nil_append]; refine setE (i := 2) rfl ?_; simp; done) | (simp only [List.append_assoc, List.singleton_append, List.cons_append, List.nil_append]; refine setE (i := 3) rfl ?_; simp; done) | (refine setB rfl ?_; simp; done) | exact set_app rfl | exact set_out (lt_of_get (by assumption)) | rfl) : vop T ρ.eval H op = some (.skip, H') := v_storeT ho hv ha hy hx hn h1 hb hl hH
theorem W5w {S : V.Sys} {H : VHeap} {fn : Func} {ex : Exit} {env : VEnv} {B L : VHeap} {v : VVal} {R : VVal → VHeap → Prop} (hx : ex = .normal ∨ ex = .ret) (hv : vresults S.C.T env (B ++ L) fn.results = some v) (h : R v B) (hB : BaseOk H B := by first | exact BaseOk.refl _ | exact BaseOk.set (BaseOk.refl _) _ rfl) (hu : v.under H.length = true := by first | rfl | simp [VVal.under, VVal.underL, *]) : fnK S fn H R ex env (B ++ L) := E_app hx hv hB hu h
theorem Cut2_spec {x : SW} (H : VHeap) (p : Pb) : F (psys x) 13 [.agg (pbB (cutP p))] H fun v G => v = .agg (pbB (cutP p)) ∧ G = H := by
  have := Cut_spec (x := x) H (cutP p)
  rw [cutP_2] at this; exact this
theorem SolveCheck_walk {x : SW} (H : VHeap) (p : Pb) (us : List Int) (hu : -9223372036854775808 ≤ p.users ∧ p.users < 9223372036854775808) : F (psys x) 3 [.agg (pbB p), fzI us] H fun v G => v = .bool true ∧ G = H := by
 have h30 : (us.take 30).length ≤ 30 := by rw [List.length_take]; omega
 have hL := cutP_L hu
 refine F_body Tryd.func3 rfl u29 rfl ?_
 refine B_seq (B_region ?_)
 refine Lo u29 (v_boxT rfl rfl rfl) ?_
 refine Lo u29 (v_const (VVal.bool false) (.inr rfl) rfl) ?_
 refine L_nil (K_seq (B_seq (B_region ?_)))
 refine Lo u29 (W5u rfl rfl rfl rfl rfl) ?_
 refine L_call rfl rfl rfl (by exact Cut_spec _ p) ?_
 rintro _ _ ⟨rfl, rfl⟩
 refine Le u29 ?_
 refine Lo u29 (v_alloc rfl rfl) ?_
 refine Lo u29 (W5v rfl rfl rfl rfl rfl rfl rfl) ?_
 refine L_nil (K_seq (B_seq ?_))
 refine B_draw [0, 3, 1, 2, 4, 5, 6, 7, 9, 12, 13, 8, 10, 11, 14, 15, 16, 17, 18, 19, 20, 21] #[0, 1, 3, 0, 15, 31, 63, 127, 255, 127, 1023, 2047, 127, 127, 12287, 32767, 65535, 131071, 262143, 524287, 1048575, 2097151] (by kernel_rfl) (by kernel_rfl) (by kernel_rfl) ?_
 refine Oo u29 .look rfl (W5u rfl rfl rfl rfl rfl) ?_
 refine O_opI (env' := u29) (x := .look _ _) rfl rfl rfl (W5u rfl rfl rfl rfl rfl) rfl rfl rfl ?_
 refine O_call (env' := u29) rfl rfl rfl rfl rfl (by exact Cut2_spec _ p) (by first | exact Nat.le_refl _ | simp) rfl rfl ?_
 refine O_call (env' := u29) rfl rfl rfl rfl rfl (by exact sCheck_spec _ (cutP p) hL) (by first | exact Nat.le_refl _ | simp) rfl rfl ?_
 refine O_call (env' := u29) rfl rfl rfl rfl rfl (by exact fpCheck_spec _ (cutP p) hL) (by first | exact Nat.le_refl _ | simp) rfl rfl ?_
 refine Oo u29 .calm rfl (v_is true rfl (by simp)) ?_
 refine Oo u29 .calm rfl (v_move (.inl rfl) rfl) ?_
 refine Oo u29 .look rfl (W5u rfl rfl rfl rfl rfl) ?_
 refine Oo u29 .calm rfl (v_move (.inl rfl) rfl) ?_
 refine O_opI (env' := u29) (x := .look _ _) rfl rfl rfl (W5u rfl rfl rfl rfl rfl) rfl rfl rfl ?_
 refine Oo u29 .calm rfl (v_move (.inl rfl) rfl) ?_
 refine O_call (env' := u29) rfl rfl rfl rfl rfl (by exact Cut2_spec _ p) (by first | exact Nat.le_refl _ | simp) rfl rfl ?_
 refine O_call (env' := u29) rfl rfl rfl rfl rfl (by exact row_spec _ us) (by first | exact Nat.le_refl _ | simp) rfl rfl ?_
 refine O_call (env' := u29) rfl rfl rfl rfl rfl (by exact Holds_spec _ (cutP p) (us.take 30) hL (by omega)) (by first | exact Nat.le_refl _ | simp) rfl rfl ?_
 refine O_call (env' := u29) rfl rfl rfl rfl rfl (by exact row_spec _ us) (by first | exact Nat.le_refl _ | simp) rfl rfl ?_
 refine O_call (env' := u29) rfl rfl rfl rfl rfl (by exact fHolds12_spec _ (cutP p) (us.take 30) hL (by omega)) (by first | exact Nat.le_refl _ | simp) rfl rfl ?_
 refine Oo u29 .calm rfl (v_is true rfl (by simp)) ?_
 refine Oo u29 .calm rfl (v_pickT rfl rfl rfl) ?_
 refine Oo u29 .calm rfl (v_move (.inl rfl) rfl) ?_
 refine O_call (env' := u29) rfl rfl rfl rfl rfl (by exact wakes_spec _) (by first | exact Nat.le_refl _ | simp) rfl rfl ?_
 refine Oo u29 .calm rfl (v_pickT rfl rfl rfl) ?_
 refine Oo u29 .calm rfl (v_move (.inr rfl) rfl) ?_
 refine O_nilP [(1, 2), (1, 3), (9, 11), (9, 12), (9, 13), (9, 14)] (by kernel_rfl) (And.intro ⟨_, _, _, _, ⟨(gA (gA (gA (gA (gA (gA (gA (gA (gA (gA (gA (gA (gA (gA (gA (gA (gA (gA (gA (gA (gL (by kernel_rfl)))))))))))))))))))))), (gA (gA (gA (gA (gA (gA (gA (gA (gA (gA (gA (gA (gA (gA (gA (gA (gA (gA (gA (gL (by kernel_rfl))))))))))))))))))))), And.intro (W5u rfl rfl rfl rfl rfl) (W5u rfl rfl rfl rfl rfl)⟩⟩ (And.intro ⟨_, _, _, _, ⟨(gA (gA (gA (gA (gA (gA (gA (gA (gA (gA (gA (gA (gA (gA (gA (gA (gA (gA (gA (gA (gL (by kernel_rfl)))))))))))))))))))))), (gA (gA (gA (gA (gA (gA (gA (gA (gA (gA (gA (gA (gA (gA (gA (gA (gA (gA (gL (by kernel_rfl)))))))))))))))))))), And.intro (W5u rfl rfl rfl rfl rfl) (W5u rfl rfl rfl rfl rfl)⟩⟩ (And.intro ⟨_, _, _, _, ⟨(gA (gA (gA (gA (gA (gA (gA (gA (gA (gA (gA (gA (gL (by kernel_rfl)))))))))))))), (gA (gA (gA (gA (gA (gA (gA (gA (gA (gA (gL (by kernel_rfl)))))))))))), And.intro (W5u rfl rfl rfl rfl rfl) (W5u rfl rfl rfl rfl rfl)⟩⟩ (And.intro ⟨_, _, _, _, ⟨(gA (gA (gA (gA (gA (gA (gA (gA (gA (gA (gA (gA (gL (by kernel_rfl)))))))))))))), (gA (gA (gA (gA (gA (gA (gA (gA (gA (gL (by kernel_rfl))))))))))), And.intro (W5u rfl rfl rfl rfl rfl) (W5u rfl rfl rfl rfl rfl)⟩⟩ (And.intro ⟨_, _, _, _, ⟨(gA (gA (gA (gA (gA (gA (gA (gA (gA (gA (gA (gA (gL (by kernel_rfl)))))))))))))), (gA (gA (gA (gA (gA (gA (gA (gA (gL (by kernel_rfl)))))))))), And.intro (W5u rfl rfl rfl rfl rfl) (W5u rfl rfl rfl rfl rfl)⟩⟩ (And.intro ⟨_, _, _, _, ⟨(gA (gA (gA (gA (gA (gA (gA (gA (gA (gA (gA (gA (gL (by kernel_rfl)))))))))))))), (gA (gA (gA (gA (gA (gA (gA (gL (by kernel_rfl))))))))), And.intro (W5u rfl rfl rfl rfl rfl) (W5u rfl rfl rfl rfl rfl)⟩⟩ (trivial))))))) ?_
 refine K_seq (B_ret ?_)
 refine W5w (.inr rfl) (vres_tmp rfl rfl) ?_
 exact ⟨rfl, rfl⟩
theorem SolveCheck_law {x : SW} (p : Pb) (us : List Int) (hu : -9223372036854775808 ≤ p.users ∧ p.users < 9223372036854775808) : F (psys x) 3 [.agg (pbB p), fzI us] [] fun v G => v = .bool true := (SolveCheck_walk [] p us hu).mono fun v G h => h.1
end Go.Proofs.YtnbihdflnjpinaaDoor.VT
