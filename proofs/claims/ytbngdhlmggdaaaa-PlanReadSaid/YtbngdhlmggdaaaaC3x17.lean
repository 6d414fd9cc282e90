/- Proved: Rows.PlanReadSaid, the statement PlanRead, of the given program at the commit; no conditions beyond those in the statement. -/
import Derived.Test.YtbngdhlmggdaaaaC3x16
import Derived.Test.YtbngdhlmggdaaaaRows
import Derived.LaidMore
import Derived.SizedLaws
import Derived.Stop.Joined
set_option autoImplicit false
set_option linter.unusedVariables false
set_option maxRecDepth 100000
namespace Go.Proofs.Ytbngdhlmggdaaaa.VT
open Go Go.V Go.RowKit Go.ChangeShapes Go.WideShapes Go.ChangeAt Go.WideMaps Go.WideElems

theorem own : ownKnob Try.prog.godebug = none := by kernel_rfl
theorem laidOut : laidOutB Try.prog = true := by kernel_rfl
end Go.Proofs.Ytbngdhlmggdaaaa.VT

set_option autoImplicit false
set_option linter.unusedVariables false
set_option maxRecDepth 100000
namespace Go.Proofs.Ytbngdhlmggdaaaa.VT
open Go Go.V Go.RowKit Go.ChangeShapes

abbrev T3 : Type := Int
abbrev e3 : T3 → List VVal := fun x => [iI x]
abbrev k3 : T3 → Prop := fun n => -9223372036854775808 ≤ n ∧ n < 9223372036854775808
theorem op3 : Opens Try.prog 3 T3 e3 k3 := Opens.int Try.underlying3 (by kernel_rfl)
abbrev T68 : Type := BitVec 64
abbrev e68 : T68 → List VVal := fun x => [iW x]
abbrev k68 : T68 → Prop := fun _ => True
theorem op68 : Opens Try.prog 68 T68 e68 k68 := Opens.word Try.underlying68 (by kernel_rfl)
abbrev T22 : Type := List T68
abbrev e22 : T22 → List VVal := fun x => [(fun l : List T68 => VVal.fsl (l.map iW) l.length 1 false) x]
abbrev k22 : T22 → Prop := fun l => l.length * 8 ≤ 140737488351232 ∧ ∀ x, x ∈ l → k68 x
theorem op22 : Opens Try.prog 22 T22 e22 k22 := Opens.slice1 (g := iW) 8 op68 Try.underlying22 (by kernel_rfl) (by kernel_rfl) (by kernel_rfl)
abbrev T23 : Type := List T3
abbrev e23 : T23 → List VVal := fun x => [(fun l : List T3 => VVal.fsl (l.map iI) l.length 1 false) x]
abbrev k23 : T23 → Prop := fun l => l.length * 8 ≤ 140737488351232 ∧ ∀ x, x ∈ l → k3 x
theorem op23 : Opens Try.prog 23 T23 e23 k23 := Opens.slice1 (g := iI) 8 op3 Try.underlying23 (by kernel_rfl) (by kernel_rfl) (by kernel_rfl)
abbrev T63 : Type := T3 × T3 × T23 × Unit
abbrev e63 : T63 → List VVal := fun x => e3 (x.1) ++ (e3 (x.2.1) ++ (e23 (x.2.2.1) ++ ([])))
abbrev k63 : T63 → Prop := fun x => k3 (x.1) ∧ (k3 (x.2.1) ∧ (k23 (x.2.2.1) ∧ (True)))
theorem op63 : Opens Try.prog 63 T63 e63 k63 := Opens.struct Try.underlying63 (.cons op3 (by kernel_rfl) (.cons op3 (by kernel_rfl) (.cons op23 (by kernel_rfl) (.nil _)))) (fun a => by kernel_rfl)
abbrev T24 : Type := List T63
abbrev e24 : T24 → List VVal := fun x => [(fun l : List T63 => VVal.fsl (l.flatMap e63) l.length 3 false) x]
abbrev k24 : T24 → Prop := fun l => l.length * 40 ≤ 140737488351232 ∧ ∀ x, x ∈ l → k63 x
theorem op24 : Opens Try.prog 24 T24 e24 k24 := Opens.slice 3 40 op63 Try.underlying24 (by kernel_rfl) (by kernel_rfl) (by kernel_rfl) (by decide)
abbrev T26 : Type := T3 × T22 × T23 × T24 × Unit
abbrev e26 : T26 → List VVal := fun x => e3 (x.1) ++ (e22 (x.2.1) ++ (e23 (x.2.2.1) ++ (e24 (x.2.2.2.1) ++ ([]))))
abbrev k26 : T26 → Prop := fun x => k3 (x.1) ∧ (k22 (x.2.1) ∧ (k23 (x.2.2.1) ∧ (k24 (x.2.2.2.1) ∧ (True))))
theorem op26 : Opens Try.prog 26 T26 e26 k26 := Opens.struct Try.underlying26 (.cons op3 (by kernel_rfl) (.cons op22 (by kernel_rfl) (.cons op23 (by kernel_rfl) (.cons op24 (by kernel_rfl) (.nil _))))) (fun a => by kernel_rfl)
abbrev T5 : Type := UInt8
abbrev e5 : T5 → List VVal := fun x => [(fun w : UInt8 => VVal.int .u8 w.toNat) x]
abbrev k5 : T5 → Prop := fun _ => True
theorem op5 : Opens Try.prog 5 T5 e5 k5 := Opens.byte Try.underlying5 (by kernel_rfl)
abbrev T38 : Type := List T5
abbrev e38 : T38 → List VVal := fun x => [(fun l : List T5 => VVal.fsl (l.map (fun w : UInt8 => VVal.int .u8 w.toNat)) l.length 1 false) x]
abbrev k38 : T38 → Prop := fun l => l.length * 1 ≤ 140737488351232 ∧ ∀ x, x ∈ l → k5 x
theorem op38 : Opens Try.prog 38 T38 e38 k38 := Opens.slice1 (g := (fun w : UInt8 => VVal.int .u8 w.toNat)) 1 op5 Try.underlying38 (by kernel_rfl) (by kernel_rfl) (by kernel_rfl)
end Go.Proofs.Ytbngdhlmggdaaaa.VT

set_option autoImplicit false
set_option linter.unusedVariables false
set_option linter.unusedSimpArgs false
set_option maxHeartbeats 4000000
set_option maxRecDepth 100000
namespace Go.Proofs.Ytbngdhlmggdaaaa.VT
open Go Go.V Go.RowKit

abbrev uL3n39 {a0 a1 a2 a3 a4 a5 a6 a7 a8 a9 a10 a11 a12 a13 a14 a15 a16 a17 a18 a19 a20 a21 a22 a23 a24 a25 a26 a27 a28 a29 a30 a31 a32 a33 a34 a35 a36 a37 a38 : VVal} : VEnv := a0 :: a1 :: a2 :: a3 :: a4 :: a5 :: a6 :: a7 :: a8 :: a9 :: a10 :: a11 :: a12 :: a13 :: a14 :: a15 :: a16 :: a17 :: a18 :: a19 :: a20 :: a21 :: a22 :: a23 :: a24 :: a25 :: a26 :: a27 :: a28 :: a29 :: a30 :: a31 :: a32 :: a33 :: a34 :: a35 :: a36 :: a37 :: a38 :: []

theorem wL3n0 {T : TypeId → Option VTy} {H : VHeap} {op : Op} {ρ : VEnv} {H' : VHeap} {t : TypeId} {a : Operand} {i : Nat} {v : VVal} {y : VTy} {b off : Nat} {cs new : List VVal} (ho : op = .store t a (.tmp i)) (hv : ρ[i]? = some v) (ha : ρ.eval a = .ptr (some (b, off))) (hy : T t = some y) (hx : v.cells = some new) (hn : new.length = y.size) (h1 : new.all VVal.one = true) (hb : H[b]? = some (.cells cs true) := by first | exact get_app rfl rfl | exact get_out (by assumption) | exact getE0 rfl rfl | exact get_out (get_app rfl rfl) | exact get_app rfl (by assumption) | assumption | (simp only [List.append_assoc, List.singleton_append, List.cons_append, List.nil_append]; refine getE (i := 0) rfl ?_ rfl; simp; done) | (simp only [List.append_assoc, List.singleton_append, List.cons_append, List.nil_append]; refine getE (i := 1) rfl ?_ rfl; simp; done) | (simp only [List.append_assoc, List.singleton_append, List.cons_append, List.nil_append]; refine getE (i := 2) rfl ?_ rfl; simp; done) | (simp only [List.append_assoc, List.singleton_append, List.cons_append, List.nil_append]; refine getE (i := 3) rfl ?_ rfl; simp; done) | (simp [*]; done)) (hl : off + new.length ≤ cs.length := by first | exact Nat.le_of_ble_eq_true rfl | (simp only [List.length_map, List.length_cons, List.length_nil]; omega) | omega | (simp; done) | (simp; omega)) (hH : H.set b (.cells (splice cs off new) true) = H' := by first | exact setE0 rfl rfl | (simp only [List.append_assoc, List.singleton_append, List.cons_append, List.nil_append]; refine setE (i := 0) rfl ?_; simp; done) | (simp only [List.append_assoc, List.singleton_append, List.cons_append, List.nil_append]; refine setE (i := 1) rfl ?_; simp; done) | (simp only [List.append_assoc, List.singleton_append, List.cons_append, List.nil_append]; refine setE (i := 2) rfl ?_; simp; done) | (simp only [List.append_assoc, List.singleton_append, List.cons_append, List.nil_append]; refine setE (i := 3) rfl ?_; simp; done) | (refine setB rfl ?_; simp; done) | exact set_app rfl | exact set_out (lt_of_get (by assumption)) | rfl) : vop T ρ.eval H op = some (.skip, H') := v_storeT ho hv ha hy hx hn h1 hb hl hH
theorem wL3n1 {T : TypeId → Option VTy} {H : VHeap} {op : Op} {ρ : Operand → VVal} {t : TypeId} {a : Operand} {y : VTy} {p : VVal} {n : Nat} {vs : List VVal} (ho : op = .load t a) (ha : ρ a = p) (hy : T t = some y) (hd : isAggDesc y.desc = true) (hn : y.size = n) (h : LdOkA H p n vs := by first | exact .inl ⟨_, _, rfl, by first | rfl | assumption | exact fget (α := BitVec 64) 0 (by omega) | exact fget (α := Int) 0 (by omega) | exact fget0 (α := BitVec 64) 0 (by omega) | exact fget0 (α := Int) 0 (by omega) | exact fget (α := Bool) false (by omega) | exact fget0 (α := Bool) false (by omega) | (simp [*]; done)⟩ | exact .inr ⟨_, _, _, _, rfl, by first | exact get_app rfl rfl | exact get_out (by assumption) | exact getE0 rfl rfl | exact get_out (get_app rfl rfl) | exact get_app rfl (by assumption) | assumption | (simp only [List.append_assoc, List.singleton_append, List.cons_append, List.nil_append]; refine getE (i := 0) rfl ?_ rfl; simp; done) | (simp only [List.append_assoc, List.singleton_append, List.cons_append, List.nil_append]; refine getE (i := 1) rfl ?_ rfl; simp; done) | (simp only [List.append_assoc, List.singleton_append, List.cons_append, List.nil_append]; refine getE (i := 2) rfl ?_ rfl; simp; done) | (simp only [List.append_assoc, List.singleton_append, List.cons_append, List.nil_append]; refine getE (i := 3) rfl ?_ rfl; simp; done) | (simp [*]; done), by first | rfl | assumption | exact fget (α := BitVec 64) 0 (by omega) | exact fget (α := Int) 0 (by omega) | exact fget0 (α := BitVec 64) 0 (by omega) | exact fget0 (α := Int) 0 (by omega) | exact fget (α := Bool) false (by omega) | exact fget0 (α := Bool) false (by omega) | (simp [*]; done)⟩) : vop T ρ H op = some (.agg vs, H) := v_ldA ho ha hy hd hn h
theorem wL3n2 {S : V.Sys} {H : VHeap} {fn : Func} {ex : Exit} {env : VEnv} {B L : VHeap} {v : VVal} {R : VVal → VHeap → Prop} (hx : ex = .normal ∨ ex = .ret) (hv : vresults S.C.T env (B ++ L) fn.results = some v) (h : R v B) (hB : BaseOk H B := by first | exact BaseOk.refl _ | exact BaseOk.set (BaseOk.refl _) _ rfl) (hu : v.under H.length = true := by first | rfl | simp [VVal.under, VVal.underL, *]) : fnK S fn H R ex env (B ++ L) := E_app hx hv hB hu h

theorem PlanRead_walk {x : SW} (H : VHeap) (raw : List UInt8) : F (psys x) 5 [fzB raw] H fun v G => v = .bool true ∧ G = H := by
 have h20 : (raw.take 2000).length ≤ 2000 := by rw [List.length_take]; omega
 refine F_body Try.func5 rfl uL3n39 rfl ?_
 refine B_seq (B_region ?_)
 refine Lo uL3n39 (v_const (VVal.bool false) (.inr rfl) rfl) ?_
 refine L_nil (K_seq (B_seq (B_region ?_)))
 refine Lo uL3n39 (v_move (.inl rfl) rfl) ?_
 refine L_call rfl rfl rfl (by exact few_spec _ _) ?_
 rintro _ _ ⟨rfl, rfl⟩
 refine Le uL3n39 ?_
 refine L_call rfl rfl rfl (by exact Read_spec _ (raw.take 2000) (by omega)) ?_
 rintro _ _ ⟨rfl, rfl⟩
 refine Le uL3n39 ?_
 refine Lo uL3n39 (v_move (.inl rfl) rfl) ?_
 refine Lo uL3n39 (rfl) ?_
 refine Lo uL3n39 (rfl) ?_
 refine Lo uL3n39 (rfl) ?_
 refine Lo uL3n39 (v_alloc rfl rfl) ?_
 refine Lo uL3n39 (wL3n0 rfl rfl rfl rfl rfl rfl rfl) ?_
 refine Lo uL3n39 (v_move (.inr rfl) rfl) ?_
 refine Lo uL3n39 (v_move (.inr rfl) rfl) ?_
 refine L_nil (K_seq (B_seq (B_region ?_)))
 refine Lo uL3n39 (v_move (.inl rfl) rfl) ?_
 refine L_call rfl rfl rfl (by exact few_spec _ _) ?_
 rintro _ _ ⟨rfl, rfl⟩
 refine Le uL3n39 ?_
 refine L_call rfl rfl rfl (by exact fRead_spec _ (raw.take 2000) (by omega)) ?_
 rintro _ _ ⟨rfl, rfl⟩
 refine Le uL3n39 ?_
 refine Lo uL3n39 (v_move (.inl rfl) rfl) ?_
 refine Lo uL3n39 (rfl) ?_
 refine Lo uL3n39 (rfl) ?_
 refine Lo uL3n39 (rfl) ?_
 refine Lo uL3n39 (v_alloc rfl rfl) ?_
 refine Lo uL3n39 (wL3n0 rfl rfl rfl rfl rfl rfl rfl) ?_
 refine Lo uL3n39 (v_move (.inr rfl) rfl) ?_
 refine Lo uL3n39 (v_move (.inr rfl) rfl) ?_
 refine L_nil (K_seq (B_seq (B_region ?_)))
 refine Lo uL3n39 (v_move (.inl rfl) rfl) ?_
 refine Lo uL3n39 (v_move (.inl rfl) rfl) ?_
 refine Lo uL3n39 (v_is true rfl (by simp)) ?_
 refine Lo uL3n39 (v_move (.inl rfl) rfl) ?_
 refine Lo uL3n39 (wL3n1 rfl rfl rfl rfl rfl) ?_
 refine Lo uL3n39 (wL3n1 rfl rfl rfl rfl rfl) ?_
 refine L_call rfl rfl rfl (by exact same_spec _ (rdPb (raw.take 2000)) (rdPb (raw.take 2000)) (rdPb_L _)) ?_
 rintro v _ ⟨hv, rfl⟩; obtain rfl : v = .bool true := hv.trans (by simp)
 refine Le uL3n39 ?_
 refine Lo uL3n39 (v_pickT rfl rfl rfl) ?_
 refine Lo uL3n39 (v_move (.inl rfl) rfl) ?_
 refine Lo uL3n39 (v_move (.inl rfl) rfl) ?_
 refine Lo uL3n39 (v_move (.inl rfl) rfl) ?_
 refine L_call rfl rfl rfl (by exact kInts_spec _ (rdU (raw.take 2000)) (rdU (raw.take 2000)) (rdU_l _)) ?_
 rintro v _ ⟨hv, rfl⟩; obtain rfl : v = .bool true := hv.trans (by simp)
 refine Le uL3n39 ?_
 refine Lo uL3n39 (v_pickT rfl rfl rfl) ?_
 refine Lo uL3n39 (v_move (.inl rfl) rfl) ?_
 refine L_call rfl rfl rfl (by exact pwakes_spec _) ?_
 rintro _ _ ⟨rfl, rfl⟩
 refine Le uL3n39 ?_
 refine Lo uL3n39 (v_pickT rfl rfl rfl) ?_
 refine Lo uL3n39 (v_move (.inr rfl) rfl) ?_
 refine L_nil (K_seq (B_ret ?_))
 refine wL3n2 (.inr rfl) (vres_tmp rfl rfl) ?_
 exact ⟨rfl, rfl⟩

theorem PlanRead_law {x : SW} (raw : List UInt8) : F (psys x) 5 [fzB raw] [] fun v G => v = .bool true := (PlanRead_walk [] raw).mono fun v G h => h.1
end Go.Proofs.Ytbngdhlmggdaaaa.VT

set_option autoImplicit false
set_option linter.unusedVariables false
set_option maxRecDepth 100000
namespace Go.Proofs.Ytbngdhlmggdaaaa
open Go Go.V Go.RowKit Go.ChangeShapes Go.WideShapes Go.ChangeAt VT

theorem PlanRead_lifted (os : Os) (started : os.Started) (H : Type) (enc : TypeId × Value → H) :
    ReturnsInHanded {} Try.checked os 5 .any (Rows.planReadSpec.pre6 enc Try.prog Try.f5 [] false) (Rows.planReadSpec.post enc Try.prog Try.f5 false true false false) := by
  refine returnsInHanded_of_change_sized (C := Try.checked) own started (by kernel_rfl) Try.func5
    (ChangeSpec.witness6 (enc := enc) (C := Try.checked) false ⟨#[], #[.slice none 0 0], []⟩ 8 (by kernel_rfl) (by kernel_rfl) (by kernel_rfl) (by kernel_rfl)) ?_
  intro W base args ds gs before hval0 hW _ hwt0 _
  have hval : ∀ (j : Nat) t v, Try.f5.params[j]? = some t → args[j]? = some v → Value.okWide Try.prog W .any base t v := hval0
  have hW' := hW
  obtain ⟨p, q, hA0, hV, rfl, hfz, hnd⟩ := hW
  have hA : DataW.TrodAll enc Try.prog W 0 (fun _ => true) true Try.f5.params.toList args.toList ds p := hA0
  rw [Try.params5] at hA hval
  obtain ⟨v0, d0, rfl, rfl, fuel0, h0⟩ := trodAll_one hA
  have hgs : gs = [] := by
    cases gs with
    | nil => rfl
    | cons g gs => exact hV.elim
  subst hgs
  have hwt : ∀ n, n ∈ DataW.weightsEach Try.prog [38] [d0] → n ≤ 140737488351232 := fun n hn => by
    have hwt1 : (DataW.weightsEach Try.prog ([38] ++ []) ([d0] ++ [])).all (fun n => decide (n ≤ reachBytes)) = true := by
      have h := hwt0
      rw [show Try.f5.params = _ from Try.params5] at h
      exact h
    exact of_decide_eq_true (List.all_eq_true.1 hwt1 n (by rw [List.append_nil, List.append_nil]; exact hn))
  obtain ⟨a0, k0, r0⟩ := op38.opn h0 (fun n hn => hwt n (mem_weightsEach (i := 0) rfl rfl hn))
  have q0 := arg_one Try.underlying38 rfl (hval 0 38 v0 rfl rfl) r0
  exact law_close (S := psys ⟨W⟩) laidOut (by kernel_rfl) rfl rfl Try.underlying4 rfl hW' (.cons q0 .nil) (PlanRead_law a0)

theorem PlanRead_holds : Rows.PlanReadSaid :=
  OpenClaim.holds_of_wide 5 Try.f5 rfl rfl rfl rfl rfl rfl rfl ⟨rfl, rfl, rfl, rfl, rfl⟩ rfl rfl rfl rfl rfl (by kernel_rfl) Try.func5 (by kernel_rfl)
    (of_decide_eq_true (by kernel_rfl)) (by unfold Func.isWrapper; first | (rw [if_pos (by decide +kernel)]; kernel_rfl) | (rw [if_neg (by decide +kernel)]; exact ⟨rfl, rfl⟩))
    (fun os started H enc _ => PlanRead_lifted os started H enc)
#print axioms PlanRead_holds
end Go.Proofs.Ytbngdhlmggdaaaa
