/- Proved: Rows.PlanBackSaid, the statement PlanBack, of the given program at the commit; no conditions beyond those in the statement. -/
import Derived.Test.YtbngdhlmggdaaaaC4x15
import Derived.Test.YtbngdhlmggdaaaaRows
import Derived.LaidMore
import Derived.SizedLaws
import Derived.Stop.Joined
set_option autoImplicit false
set_option linter.unusedVariables false
set_option maxRecDepth 100000
namespace Go.Proofs.Ytbngdhlmggdaaaa.VT
open Go Go.V Go.RowKit Go.ChangeShapes Go.WideShapes Go.ChangeAt Go.WideMaps Go.WideElems

theorem own : ownKnob Try.prog.godebug = none := by kernel_rfl
theorem laidOut : laidOutB Try.prog = true := by kernel_rfl
end Go.Proofs.Ytbngdhlmggdaaaa.VT

set_option autoImplicit false
set_option linter.unusedVariables false
set_option maxRecDepth 100000
namespace Go.Proofs.Ytbngdhlmggdaaaa.VT
open Go Go.V Go.RowKit Go.ChangeShapes

abbrev T3 : Type := Int
abbrev e3 : T3 → List VVal := fun x => [iI x]
abbrev k3 : T3 → Prop := fun n => -9223372036854775808 ≤ n ∧ n < 9223372036854775808
theorem op3 : Opens Try.prog 3 T3 e3 k3 := Opens.int Try.underlying3 (by kernel_rfl)
abbrev T68 : Type := BitVec 64
abbrev e68 : T68 → List VVal := fun x => [iW x]
abbrev k68 : T68 → Prop := fun _ => True
theorem op68 : Opens Try.prog 68 T68 e68 k68 := Opens.word Try.underlying68 (by kernel_rfl)
abbrev T22 : Type := List T68
abbrev e22 : T22 → List VVal := fun x => [(fun l : List T68 => VVal.fsl (l.map iW) l.length 1 false) x]
abbrev k22 : T22 → Prop := fun l => l.length * 8 ≤ 140737488351232 ∧ ∀ x, x ∈ l → k68 x
theorem op22 : Opens Try.prog 22 T22 e22 k22 := Opens.slice1 (g := iW) 8 op68 Try.underlying22 (by kernel_rfl) (by kernel_rfl) (by kernel_rfl)
abbrev T23 : Type := List T3
abbrev e23 : T23 → List VVal := fun x => [(fun l : List T3 => VVal.fsl (l.map iI) l.length 1 false) x]
abbrev k23 : T23 → Prop := fun l => l.length * 8 ≤ 140737488351232 ∧ ∀ x, x ∈ l → k3 x
theorem op23 : Opens Try.prog 23 T23 e23 k23 := Opens.slice1 (g := iI) 8 op3 Try.underlying23 (by kernel_rfl) (by kernel_rfl) (by kernel_rfl)
abbrev T63 : Type := T3 × T3 × T23 × Unit
abbrev e63 : T63 → List VVal := fun x => e3 (x.1) ++ (e3 (x.2.1) ++ (e23 (x.2.2.1) ++ ([])))
abbrev k63 : T63 → Prop := fun x => k3 (x.1) ∧ (k3 (x.2.1) ∧ (k23 (x.2.2.1) ∧ (True)))
theorem op63 : Opens Try.prog 63 T63 e63 k63 := Opens.struct Try.underlying63 (.cons op3 (by kernel_rfl) (.cons op3 (by kernel_rfl) (.cons op23 (by kernel_rfl) (.nil _)))) (fun a => by kernel_rfl)
abbrev T24 : Type := List T63
abbrev e24 : T24 → List VVal := fun x => [(fun l : List T63 => VVal.fsl (l.flatMap e63) l.length 3 false) x]
abbrev k24 : T24 → Prop := fun l => l.length * 40 ≤ 140737488351232 ∧ ∀ x, x ∈ l → k63 x
theorem op24 : Opens Try.prog 24 T24 e24 k24 := Opens.slice 3 40 op63 Try.underlying24 (by kernel_rfl) (by kernel_rfl) (by kernel_rfl) (by decide)
abbrev T26 : Type := T3 × T22 × T23 × T24 × Unit
abbrev e26 : T26 → List VVal := fun x => e3 (x.1) ++ (e22 (x.2.1) ++ (e23 (x.2.2.1) ++ (e24 (x.2.2.2.1) ++ ([]))))
abbrev k26 : T26 → Prop := fun x => k3 (x.1) ∧ (k22 (x.2.1) ∧ (k23 (x.2.2.1) ∧ (k24 (x.2.2.2.1) ∧ (True))))
theorem op26 : Opens Try.prog 26 T26 e26 k26 := Opens.struct Try.underlying26 (.cons op3 (by kernel_rfl) (.cons op22 (by kernel_rfl) (.cons op23 (by kernel_rfl) (.cons op24 (by kernel_rfl) (.nil _))))) (fun a => by kernel_rfl)
abbrev T5 : Type := UInt8
abbrev e5 : T5 → List VVal := fun x => [(fun w : UInt8 => VVal.int .u8 w.toNat) x]
abbrev k5 : T5 → Prop := fun _ => True
theorem op5 : Opens Try.prog 5 T5 e5 k5 := Opens.byte Try.underlying5 (by kernel_rfl)
abbrev T38 : Type := List T5
abbrev e38 : T38 → List VVal := fun x => [(fun l : List T5 => VVal.fsl (l.map (fun w : UInt8 => VVal.int .u8 w.toNat)) l.length 1 false) x]
abbrev k38 : T38 → Prop := fun l => l.length * 1 ≤ 140737488351232 ∧ ∀ x, x ∈ l → k5 x
theorem op38 : Opens Try.prog 38 T38 e38 k38 := Opens.slice1 (g := (fun w : UInt8 => VVal.int .u8 w.toNat)) 1 op5 Try.underlying38 (by kernel_rfl) (by kernel_rfl) (by kernel_rfl)
end Go.Proofs.Ytbngdhlmggdaaaa.VT

set_option autoImplicit false
set_option linter.unusedVariables false
set_option linter.unusedSimpArgs false
set_option maxHeartbeats 4000000
set_option maxRecDepth 100000
namespace Go.Proofs.Ytbngdhlmggdaaaa.VT
open Go Go.V Go.RowKit

abbrev uL4n100 {a0 a1 a2 a3 a4 a5 a6 a7 a8 a9 a10 a11 a12 a13 a14 a15 a16 a17 a18 a19 a20 a21 a22 a23 a24 a25 a26 a27 a28 a29 a30 a31 a32 a33 a34 a35 a36 a37 a38 a39 a40 a41 a42 a43 a44 a45 a46 a47 a48 a49 a50 a51 a52 a53 a54 a55 a56 a57 a58 a59 a60 a61 a62 a63 a64 a65 a66 a67 a68 a69 a70 a71 a72 a73 a74 a75 a76 a77 a78 a79 a80 a81 a82 a83 a84 a85 a86 a87 a88 a89 a90 a91 a92 a93 a94 a95 a96 a97 a98 a99 : VVal} : VEnv := a0 :: a1 :: a2 :: a3 :: a4 :: a5 :: a6 :: a7 :: a8 :: a9 :: a10 :: a11 :: a12 :: a13 :: a14 :: a15 :: a16 :: a17 :: a18 :: a19 :: a20 :: a21 :: a22 :: a23 :: a24 :: a25 :: a26 :: a27 :: a28 :: a29 :: a30 :: a31 :: a32 :: a33 :: a34 :: a35 :: a36 :: a37 :: a38 :: a39 :: a40 :: a41 :: a42 :: a43 :: a44 :: a45 :: a46 :: a47 :: a48 :: a49 :: a50 :: a51 :: a52 :: a53 :: a54 :: a55 :: a56 :: a57 :: a58 :: a59 :: a60 :: a61 :: a62 :: a63 :: a64 :: a65 :: a66 :: a67 :: a68 :: a69 :: a70 :: a71 :: a72 :: a73 :: a74 :: a75 :: a76 :: a77 :: a78 :: a79 :: a80 :: a81 :: a82 :: a83 :: a84 :: a85 :: a86 :: a87 :: a88 :: a89 :: a90 :: a91 :: a92 :: a93 :: a94 :: a95 :: a96 :: a97 :: a98 :: a99 :: []

theorem wL4n0 {T : TypeId → Option VTy} {H : VHeap} {op : Op} {ρ : Operand → VVal} {t : TypeId} {a : Operand} {y : VTy} {p : VVal} {n : Nat} {vs : List VVal} (ho : op = .load t a) (ha : ρ a = p) (hy : T t = some y) (hd : isAggDesc y.desc = true) (hn : y.size = n) (h : LdOkA H p n vs := by first | exact .inl ⟨_, _, rfl, by first | rfl | assumption | exact fget (α := BitVec 64) 0 (by omega) | exact fget (α := Int) 0 (by omega) | exact fget0 (α := BitVec 64) 0 (by omega) | exact fget0 (α := Int) 0 (by omega) | exact fget (α := Bool) false (by omega) | exact fget0 (α := Bool) false (by omega) | (simp [*]; done)⟩ | exact .inr ⟨_, _, _, _, rfl, by first | exact get_app rfl rfl | exact get_out (by assumption) | exact getE0 rfl rfl | exact get_out (get_app rfl rfl) | exact get_app rfl (by assumption) | assumption | (simp only [List.append_assoc, List.singleton_append, List.cons_append, List.nil_append]; refine getE (i := 0) rfl ?_ rfl; simp; done) | (simp only [List.append_assoc, List.singleton_append, List.cons_append, List.nil_append]; refine getE (i := 1) rfl ?_ rfl; simp; done) | (simp only [List.append_assoc, List.singleton_append, List.cons_append, List.nil_append]; refine getE (i := 2) rfl ?_ rfl; simp; done) | (simp only [List.append_assoc, List.singleton_append, List.cons_append, List.nil_append]; refine getE (i := 3) rfl ?_ rfl; simp; done) | (simp [*]; done), by first | rfl | assumption | exact fget (α := BitVec 64) 0 (by omega) | exact fget (α := Int) 0 (by omega) | exact fget0 (α := BitVec 64) 0 (by omega) | exact fget0 (α := Int) 0 (by omega) | exact fget (α := Bool) false (by omega) | exact fget0 (α := Bool) false (by omega) | (simp [*]; done)⟩) : vop T ρ H op = some (.agg vs, H) := v_ldA ho ha hy hd hn h
theorem wL4n1 {T : TypeId → Option VTy} {H : VHeap} {op : Op} {ρ : VEnv} {H' : VHeap} {t : TypeId} {a : Operand} {i : Nat} {v : VVal} {y : VTy} {b off : Nat} {cs new : List VVal} (ho : op = .store t a (.tmp i)) (hv : ρ[i]? = some v) (ha : ρ.eval a = .ptr (some (b, off))) (hy : T t = some y) (hx : v.cells = some new) (hn : new.length = y.size) (h1 : new.all VVal.one = true) (hb : H[b]? = some (.cells cs true) := by first | exact get_app rfl rfl | exact get_out (by assumption) | exact getE0 rfl rfl | exact get_out (get_app rfl rfl) | exact get_app rfl (by assumption) | assumption | (simp only [List.append_assoc, List.singleton_append, List.cons_append, List.nil_append]; refine getE (i := 0) rfl ?_ rfl; simp; done) | (simp only [List.append_assoc, List.singleton_append, List.cons_append, List.nil_append]; refine getE (i := 1) rfl ?_ rfl; simp; done) | (simp only [List.append_assoc, List.singleton_append, List.cons_append, List.nil_append]; refine getE (i := 2) rfl ?_ rfl; simp; done) | (simp only [List.append_assoc, List.singleton_append, List.cons_append, List.nil_append]; refine getE (i := 3) rfl ?_ rfl; simp; done) | (simp [*]; done)) (hl : off + new.length ≤ cs.length := by first | exact Nat.le_of_ble_eq_true rfl | (simp only [List.length_map, List.length_cons, List.length_nil]; omega) | omega | (simp; done) | (simp; omega)) (hH : H.set b (.cells (splice cs off new) true) = H' := by first | exact setE0 rfl rfl | (simp only [List.append_assoc, List.singleton_append, List.cons_append, List.nil_append]; refine setE (i := 0) rfl ?_; simp; done) | (simp only [List.append_assoc, List.singleton_append, List.cons_append, List.nil_append]; refine setE (i := 1) rfl ?_; simp; done) | (simp only [List.append_assoc, List.singleton_append, List.cons_append, List.nil_append]; refine setE (i := 2) rfl ?_; simp; done) | (simp only [List.append_assoc, List.singleton_append, List.cons_append, List.nil_append]; refine setE (i := 3) rfl ?_; simp; done) | (refine setB rfl ?_; simp; done) | exact set_app rfl | exact set_out (lt_of_get (by assumption)) | rfl) : vop T ρ.eval H op = some (.skip, H') := v_storeT ho hv ha hy hx hn h1 hb hl hH
theorem wL4n2 {S : V.Sys} {H : VHeap} {fn : Func} {ex : Exit} {env : VEnv} {B L : VHeap} {v : VVal} {R : VVal → VHeap → Prop} (hx : ex = .normal ∨ ex = .ret) (hv : vresults S.C.T env (B ++ L) fn.results = some v) (h : R v B) (hB : BaseOk H B := by first | exact BaseOk.refl _ | exact BaseOk.set (BaseOk.refl _) _ rfl) (hu : v.under H.length = true := by first | rfl | simp [VVal.under, VVal.underL, *]) : fnK S fn H R ex env (B ++ L) := E_app hx hv hB hu h

theorem PlanBack_walk {x : SW} (H : VHeap) (p : Pb) (us : List Int) (raw : List UInt8) (hu : -9223372036854775808 ≤ p.users ∧ p.users < 9223372036854775808) : F (psys x) 7 [.agg (pbB p), fzI us, fzB raw] H fun v G => v = .bool true ∧ G = H := by
 have h30 : (us.take 30).length ≤ 30 := by rw [List.length_take]; omega
 have hL := cutP_L hu
 have h20 : (raw.take 2000).length ≤ 2000 := by rw [List.length_take]; omega
 refine F_body Try.func7 rfl uL4n100 rfl ?_
 refine B_seq (B_region ?_)
 refine Lo uL4n100 (v_boxT rfl rfl rfl) ?_
 refine Lo uL4n100 (v_const (VVal.bool false) (.inr rfl) rfl) ?_
 refine L_nil (K_seq (B_seq (B_region ?_)))
 refine Lo uL4n100 (wL4n0 rfl rfl rfl rfl rfl) ?_
 refine L_call rfl rfl rfl (by exact Cut_spec _ p) ?_
 rintro _ _ ⟨rfl, rfl⟩
 refine Le uL4n100 ?_
 refine Lo uL4n100 (v_alloc rfl rfl) ?_
 refine Lo uL4n100 (wL4n1 rfl rfl rfl rfl rfl rfl rfl) ?_
 refine L_nil (K_seq (B_seq (B_region ?_)))
 refine Lo uL4n100 (wL4n0 rfl rfl rfl rfl rfl) ?_
 refine L_call rfl rfl rfl (by exact Cut_spec _ (cutP p)) ?_
 rintro v _ ⟨hv, rfl⟩; obtain rfl : v = .agg (pbB (cutP p)) := hv.trans (by rw [cutP_2])
 refine Le uL4n100 ?_
 refine Lo uL4n100 (v_move (.inl rfl) rfl) ?_
 refine L_call rfl rfl rfl (by exact row_spec _ us) ?_
 rintro _ _ ⟨rfl, rfl⟩
 refine Le uL4n100 ?_
 refine L_call rfl rfl rfl (by exact Write_spec _ (cutP p) (us.take 30) hL (by omega)) ?_
 rintro _ _ ⟨rfl, rfl⟩
 refine Le uL4n100 ?_
 refine Lo uL4n100 (v_move (.inl rfl) rfl) ?_
 refine Lo uL4n100 (rfl) ?_
 refine Lo uL4n100 (rfl) ?_
 refine Lo uL4n100 (v_move (.inr rfl) rfl) ?_
 refine Lo uL4n100 (v_move (.inr rfl) rfl) ?_
 refine L_nil (K_seq (B_seq (B_seq (B_region ?_))))
 refine Lo uL4n100 (v_move (.inl rfl) rfl) ?_
 refine Lo uL4n100 (rfl) ?_
 refine L_nil (K_seq ?_)
 refine B_cond _ rfl (fun hc1 => ?_) (fun hc1 => ?_)
 ·try simp only [qB] at hc1
  refine B_seq ?_
  have hE : eW (cutP p) (us.take 30) = 0 := by assumption
  have hG := eW_inv hE
  refine B_region ?_
  refine Lo uL4n100 (v_move (.inl rfl) rfl) ?_
  refine L_call rfl rfl rfl (by exact few2_spec _ _ (by rw [cW_is hE]; exact cB_len hG.1)) ?_
  rintro _ _ ⟨rfl, rfl⟩
  refine Le uL4n100 ?_
  refine L_call rfl rfl rfl (by exact Read_spec _ (cW (cutP p) (us.take 30)) (by rw [cW_is hE]; exact cB_len hG.1)) ?_
  rintro v _ ⟨hv, rfl⟩; rw [back_eq hE] at hv; subst hv
  refine Le uL4n100 ?_
  refine Lo uL4n100 (v_move (.inl rfl) rfl) ?_
  refine Lo uL4n100 (rfl) ?_
  refine Lo uL4n100 (rfl) ?_
  refine Lo uL4n100 (rfl) ?_
  refine Lo uL4n100 (v_alloc rfl rfl) ?_
  refine Lo uL4n100 (wL4n1 rfl rfl rfl rfl rfl rfl rfl) ?_
  refine Lo uL4n100 (v_move (.inr rfl) rfl) ?_
  refine Lo uL4n100 (v_move (.inr rfl) rfl) ?_
  refine L_nil (K_seq (B_seq (B_region ?_)))
  refine Lo uL4n100 (v_move (.inl rfl) rfl) ?_
  refine Lo uL4n100 (v_is false rfl rfl) ?_
  refine Lo uL4n100 (v_move (.inl rfl) rfl) ?_
  refine Lo uL4n100 (wL4n0 rfl rfl rfl rfl rfl) ?_
  refine Lo uL4n100 (wL4n0 rfl rfl rfl rfl rfl) ?_
  refine L_call rfl rfl rfl (by exact same_spec _ (cutP p) (cutP p) hL) ?_
  rintro v _ ⟨hv, rfl⟩; obtain rfl : v = .bool true := hv.trans (by simp)
  refine Le uL4n100 ?_
  refine Lo uL4n100 (rfl) ?_
  refine Lo uL4n100 (v_pickF rfl rfl rfl) ?_
  refine Lo uL4n100 (v_move (.inl rfl) rfl) ?_
  refine Lo uL4n100 (v_move (.inl rfl) rfl) ?_
  refine Lo uL4n100 (v_move (.inl rfl) rfl) ?_
  refine L_call rfl rfl rfl (by exact row_spec _ us) ?_
  rintro _ _ ⟨rfl, rfl⟩
  refine Le uL4n100 ?_
  refine L_call rfl rfl rfl (by exact kInts_spec _ (us.take 30) (us.take 30) (by omega)) ?_
  rintro v _ ⟨hv, rfl⟩; obtain rfl : v = .bool true := hv.trans (by simp)
  refine Le uL4n100 ?_
  refine Lo uL4n100 (rfl) ?_
  refine Lo uL4n100 (v_pickF rfl rfl rfl) ?_
  refine L_nil (K_seq ?_)
  refine B_false rfl rfl ?_
  refine B_skip (K_seq (B_seq (B_region ?_)))
  refine Lo uL4n100 (v_move (.inl rfl) rfl) ?_
  refine L_call rfl rfl rfl (by exact few_spec _ raw) ?_
  rintro _ _ ⟨rfl, rfl⟩
  refine Le uL4n100 ?_
  refine L_call rfl rfl rfl (by exact Read_spec _ (raw.take 2000) (by omega)) ?_
  rintro _ _ ⟨rfl, rfl⟩
  refine Le uL4n100 ?_
  refine Lo uL4n100 (v_move (.inl rfl) rfl) ?_
  refine Lo uL4n100 (rfl) ?_
  refine Lo uL4n100 (rfl) ?_
  refine Lo uL4n100 (rfl) ?_
  refine Lo uL4n100 (v_alloc rfl rfl) ?_
  refine Lo uL4n100 (wL4n1 rfl rfl rfl rfl rfl rfl rfl) ?_
  refine Lo uL4n100 (v_move (.inr rfl) rfl) ?_
  refine Lo uL4n100 (v_move (.inr rfl) rfl) ?_
  refine L_nil (K_seq (B_seq (B_seq (B_region ?_))))
  refine Lo uL4n100 (v_move (.inl rfl) rfl) ?_
  refine Lo uL4n100 (rfl) ?_
  refine L_nil (K_seq ?_)
  refine B_cond _ rfl (fun hc2 => ?_) (fun hc2 => ?_)
  ·try simp only [qB] at hc2
   refine B_seq ?_
   have h9 : ¬ rdE (raw.take 2000) = 0 := by assumption
   have e1 : rdU (raw.take 2000) = [] := if_neg h9
   have e2 : rdPb (raw.take 2000) = zPb := if_neg h9
   rw [e1, e2]
   refine B_region ?_
   refine Lo uL4n100 (v_move (.inl rfl) rfl) ?_
   refine Lo uL4n100 (rfl) ?_
   refine Lo uL4n100 (v_is true rfl rfl) ?_
   refine Lo uL4n100 (v_move (.inl rfl) rfl) ?_
   refine Lo uL4n100 (wL4n0 rfl rfl rfl rfl rfl) ?_
   refine Lo uL4n100 (rfl) ?_
   refine L_gh (Gh.weaker 66 rfl zPb_rel rfl) ?_
   refine L_call rfl rfl rfl (by exact same_spec _ zPb zPb ⟨by decide, by decide, by decide, by decide, fun r hr => by cases hr⟩) ?_
   rintro v _ ⟨hv, rfl⟩; obtain rfl : v = .bool true := hv.trans (by simp)
   refine Le uL4n100 ?_
   refine Lo uL4n100 (v_pickT rfl rfl rfl) ?_
   refine Lo uL4n100 (v_move (.inl rfl) rfl) ?_
   refine L_call rfl rfl rfl (by exact pwakes_spec _) ?_
   rintro _ _ ⟨rfl, rfl⟩
   refine Le uL4n100 ?_
   refine Lo uL4n100 (v_pickT rfl rfl rfl) ?_
   refine Lo uL4n100 (v_move (.inr rfl) rfl) ?_
   refine L_nil (K_seq (B_ret (K_seqR ?_)))
   refine wL4n2 (.inr rfl) (vres_tmp rfl rfl) ?_
   exact ⟨rfl, rfl⟩
  ·try simp only [qB] at hc2
   refine B_skip (K_seq (B_seq ?_))
   have h9 : rdE (raw.take 2000) = 0 := by assumption
   have e1 : rdU (raw.take 2000) = uA (raw.take 2000) := if_pos h9
   have e2 : rdPb (raw.take 2000) = pA (raw.take 2000) := if_pos h9
   rw [e1, e2]
   have hI := rdE_inv h9
   have hc := cutP_good hI.1
   have hul := flw_0len hI.2
   have g1 := hI.1.n12
   have ew : eW (pA (raw.take 2000)) (uA (raw.take 2000)) = 0 := eW_0 (pck_good.2 hI.1) hI.2
   have hcb : cW (pA (raw.take 2000)) (uA (raw.take 2000)) = (raw.take 2000) := (cW_is ew).trans (cB_back h9)
   have hPL := pA_L (raw.take 2000)
   refine B_region ?_
   refine Lo uL4n100 (wL4n0 rfl rfl rfl rfl rfl) ?_
   refine L_call rfl rfl rfl (by exact Cut_id _ (pA (raw.take 2000)) hc) ?_
   rintro _ _ ⟨rfl, rfl⟩
   refine Le uL4n100 ?_
   refine Lo uL4n100 (v_move (.inl rfl) rfl) ?_
   refine L_call rfl rfl rfl (by exact row_id _ (uA (raw.take 2000)) (by omega)) ?_
   rintro _ _ ⟨rfl, rfl⟩
   refine Le uL4n100 ?_
   refine L_call rfl rfl rfl (by exact Write_spec _ (pA (raw.take 2000)) (uA (raw.take 2000)) hPL (by omega)) ?_
   rintro v _ ⟨hv, rfl⟩; rw [ew, hcb] at hv; subst hv
   refine Le uL4n100 ?_
   refine Lo uL4n100 (v_move (.inl rfl) rfl) ?_
   refine Lo uL4n100 (rfl) ?_
   refine Lo uL4n100 (rfl) ?_
   refine Lo uL4n100 (v_move (.inr rfl) rfl) ?_
   refine Lo uL4n100 (v_move (.inr rfl) rfl) ?_
   refine L_nil (K_seq (B_seq ?_))
   refine B_draw [0, 1, 2, 3, 4, 5, 6, 7, 8, 9, 10, 11, 13, 12, 14, 15, 16, 17, 18, 19, 20] #[0, 1, 3, 7, 15, 7, 39, 103, 255, 511, 1023, 2047, 4095, 2047, 16383, 32767, 65535, 131071, 262143, 524287, 1048575] (by kernel_rfl) (by kernel_rfl) (by kernel_rfl) ?_
   refine Oo uL4n100 .calm rfl (v_move (.inl rfl) rfl) ?_
   refine Oo uL4n100 .calm rfl (v_is true rfl rfl) ?_
   refine Oo uL4n100 .calm rfl (v_move (.inl rfl) rfl) ?_
   refine Oo uL4n100 .calm rfl (v_move (.inl rfl) rfl) ?_
   refine O_opI (env' := uL4n100) (x := .look _ _) rfl rfl rfl (v_cvS rfl rfl rfl rfl rfl rfl rfl rfl) rfl rfl rfl ?_
   refine Oo uL4n100 .calm rfl (v_move (.inl rfl) rfl) ?_
   refine O_call (env' := uL4n100) rfl rfl rfl rfl rfl (by exact few_spec _ raw) (by first | exact Nat.le_refl _ | simp) rfl rfl ?_
   refine Oo uL4n100 .look rfl (v_cvS rfl rfl rfl rfl rfl rfl rfl rfl) ?_
   refine Oo uL4n100 .calm rfl (v_eqS rfl rfl rfl) ?_
   refine Oo uL4n100 .calm rfl (v_pickT rfl rfl rfl) ?_
   refine Oo uL4n100 .calm rfl (v_move (.inl rfl) rfl) ?_
   refine Oo uL4n100 .look rfl (wL4n0 rfl rfl rfl rfl rfl) ?_
   refine Oo uL4n100 .calm rfl (v_move (.inl rfl) rfl) ?_
   refine O_call (env' := uL4n100) rfl rfl rfl rfl rfl (by exact Cut_id _ (pA (raw.take 2000)) hc) (by first | exact Nat.le_refl _ | simp) rfl rfl ?_
   refine O_call (env' := uL4n100) rfl rfl rfl rfl rfl (by exact row_id _ (uA (raw.take 2000)) (by omega)) (by first | exact Nat.le_refl _ | simp) rfl rfl ?_
   refine O_call (env' := uL4n100) rfl rfl rfl rfl rfl (by exact Holds_t _ (pA (raw.take 2000)) (uA (raw.take 2000)) hPL (by omega) hI) (by first | exact Nat.le_refl _ | simp) rfl rfl ?_
   refine Oo uL4n100 .calm rfl (v_pickT rfl rfl rfl) ?_
   refine Oo uL4n100 .calm rfl (v_move (.inl rfl) rfl) ?_
   refine O_call (env' := uL4n100) rfl rfl rfl rfl rfl (by exact pwakes_spec _) (by first | exact Nat.le_refl _ | simp) rfl rfl ?_
   refine Oo uL4n100 .calm rfl (v_pickT rfl rfl rfl) ?_
   refine Oo uL4n100 .calm rfl (v_move (.inr rfl) rfl) ?_
   refine O_nil [_] (by rfl) (And.intro (And.intro (v_cvS rfl rfl rfl rfl rfl rfl rfl rfl) (v_cvS rfl rfl rfl rfl rfl rfl rfl rfl)) trivial) ?_
   refine K_seq (B_ret ?_)
   refine wL4n2 (.inr rfl) (vres_tmp rfl rfl) ?_
   exact ⟨rfl, rfl⟩
 ·try simp only [qB] at hc1
  refine B_skip (K_seq (B_seq (B_region ?_)))
  refine Lo uL4n100 (v_move (.inl rfl) rfl) ?_
  refine L_call rfl rfl rfl (by exact few_spec _ raw) ?_
  rintro _ _ ⟨rfl, rfl⟩
  refine Le uL4n100 ?_
  refine L_call rfl rfl rfl (by exact Read_spec _ (raw.take 2000) (by omega)) ?_
  rintro _ _ ⟨rfl, rfl⟩
  refine Le uL4n100 ?_
  refine Lo uL4n100 (v_move (.inl rfl) rfl) ?_
  refine Lo uL4n100 (rfl) ?_
  refine Lo uL4n100 (rfl) ?_
  refine Lo uL4n100 (rfl) ?_
  refine Lo uL4n100 (v_alloc rfl rfl) ?_
  refine Lo uL4n100 (wL4n1 rfl rfl rfl rfl rfl rfl rfl) ?_
  refine Lo uL4n100 (v_move (.inr rfl) rfl) ?_
  refine Lo uL4n100 (v_move (.inr rfl) rfl) ?_
  refine L_nil (K_seq (B_seq (B_seq (B_region ?_))))
  refine Lo uL4n100 (v_move (.inl rfl) rfl) ?_
  refine Lo uL4n100 (rfl) ?_
  refine L_nil (K_seq ?_)
  refine B_cond _ rfl (fun hc3 => ?_) (fun hc3 => ?_)
  ·try simp only [qB] at hc3
   refine B_seq ?_
   have h9 : ¬ rdE (raw.take 2000) = 0 := by assumption
   have e1 : rdU (raw.take 2000) = [] := if_neg h9
   have e2 : rdPb (raw.take 2000) = zPb := if_neg h9
   rw [e1, e2]
   refine B_region ?_
   refine Lo uL4n100 (v_move (.inl rfl) rfl) ?_
   refine Lo uL4n100 (rfl) ?_
   refine Lo uL4n100 (v_is true rfl rfl) ?_
   refine Lo uL4n100 (v_move (.inl rfl) rfl) ?_
   refine Lo uL4n100 (wL4n0 rfl rfl rfl rfl rfl) ?_
   refine Lo uL4n100 (rfl) ?_
   refine L_gh (Gh.weaker 66 rfl zPb_rel rfl) ?_
   refine L_call rfl rfl rfl (by exact same_spec _ zPb zPb ⟨by decide, by decide, by decide, by decide, fun r hr => by cases hr⟩) ?_
   rintro v _ ⟨hv, rfl⟩; obtain rfl : v = .bool true := hv.trans (by simp)
   refine Le uL4n100 ?_
   refine Lo uL4n100 (v_pickT rfl rfl rfl) ?_
   refine Lo uL4n100 (v_move (.inl rfl) rfl) ?_
   refine L_call rfl rfl rfl (by exact pwakes_spec _) ?_
   rintro _ _ ⟨rfl, rfl⟩
   refine Le uL4n100 ?_
   refine Lo uL4n100 (v_pickT rfl rfl rfl) ?_
   refine Lo uL4n100 (v_move (.inr rfl) rfl) ?_
   refine L_nil (K_seq (B_ret (K_seqR ?_)))
   refine wL4n2 (.inr rfl) (vres_tmp rfl rfl) ?_
   exact ⟨rfl, rfl⟩
  ·try simp only [qB] at hc3
   refine B_skip (K_seq (B_seq ?_))
   have h9 : rdE (raw.take 2000) = 0 := by assumption
   have e1 : rdU (raw.take 2000) = uA (raw.take 2000) := if_pos h9
   have e2 : rdPb (raw.take 2000) = pA (raw.take 2000) := if_pos h9
   rw [e1, e2]
   have hI := rdE_inv h9
   have hc := cutP_good hI.1
   have hul := flw_0len hI.2
   have g1 := hI.1.n12
   have ew : eW (pA (raw.take 2000)) (uA (raw.take 2000)) = 0 := eW_0 (pck_good.2 hI.1) hI.2
   have hcb : cW (pA (raw.take 2000)) (uA (raw.take 2000)) = (raw.take 2000) := (cW_is ew).trans (cB_back h9)
   have hPL := pA_L (raw.take 2000)
   refine B_region ?_
   refine Lo uL4n100 (wL4n0 rfl rfl rfl rfl rfl) ?_
   refine L_call rfl rfl rfl (by exact Cut_id _ (pA (raw.take 2000)) hc) ?_
   rintro _ _ ⟨rfl, rfl⟩
   refine Le uL4n100 ?_
   refine Lo uL4n100 (v_move (.inl rfl) rfl) ?_
   refine L_call rfl rfl rfl (by exact row_id _ (uA (raw.take 2000)) (by omega)) ?_
   rintro _ _ ⟨rfl, rfl⟩
   refine Le uL4n100 ?_
   refine L_call rfl rfl rfl (by exact Write_spec _ (pA (raw.take 2000)) (uA (raw.take 2000)) hPL (by omega)) ?_
   rintro v _ ⟨hv, rfl⟩; rw [ew, hcb] at hv; subst hv
   refine Le uL4n100 ?_
   refine Lo uL4n100 (v_move (.inl rfl) rfl) ?_
   refine Lo uL4n100 (rfl) ?_
   refine Lo uL4n100 (rfl) ?_
   refine Lo uL4n100 (v_move (.inr rfl) rfl) ?_
   refine Lo uL4n100 (v_move (.inr rfl) rfl) ?_
   refine L_nil (K_seq (B_seq ?_))
   refine B_draw [0, 1, 2, 3, 4, 5, 6, 7, 8, 9, 10, 11, 13, 12, 14, 15, 16, 17, 18, 19, 20] #[0, 1, 3, 7, 15, 7, 39, 103, 255, 511, 1023, 2047, 4095, 2047, 16383, 32767, 65535, 131071, 262143, 524287, 1048575] (by kernel_rfl) (by kernel_rfl) (by kernel_rfl) ?_
   refine Oo uL4n100 .calm rfl (v_move (.inl rfl) rfl) ?_
   refine Oo uL4n100 .calm rfl (v_is true rfl rfl) ?_
   refine Oo uL4n100 .calm rfl (v_move (.inl rfl) rfl) ?_
   refine Oo uL4n100 .calm rfl (v_move (.inl rfl) rfl) ?_
   refine O_opI (env' := uL4n100) (x := .look _ _) rfl rfl rfl (v_cvS rfl rfl rfl rfl rfl rfl rfl rfl) rfl rfl rfl ?_
   refine Oo uL4n100 .calm rfl (v_move (.inl rfl) rfl) ?_
   refine O_call (env' := uL4n100) rfl rfl rfl rfl rfl (by exact few_spec _ raw) (by first | exact Nat.le_refl _ | simp) rfl rfl ?_
   refine Oo uL4n100 .look rfl (v_cvS rfl rfl rfl rfl rfl rfl rfl rfl) ?_
   refine Oo uL4n100 .calm rfl (v_eqS rfl rfl rfl) ?_
   refine Oo uL4n100 .calm rfl (v_pickT rfl rfl rfl) ?_
   refine Oo uL4n100 .calm rfl (v_move (.inl rfl) rfl) ?_
   refine Oo uL4n100 .look rfl (wL4n0 rfl rfl rfl rfl rfl) ?_
   refine Oo uL4n100 .calm rfl (v_move (.inl rfl) rfl) ?_
   refine O_call (env' := uL4n100) rfl rfl rfl rfl rfl (by exact Cut_id _ (pA (raw.take 2000)) hc) (by first | exact Nat.le_refl _ | simp) rfl rfl ?_
   refine O_call (env' := uL4n100) rfl rfl rfl rfl rfl (by exact row_id _ (uA (raw.take 2000)) (by omega)) (by first | exact Nat.le_refl _ | simp) rfl rfl ?_
   refine O_call (env' := uL4n100) rfl rfl rfl rfl rfl (by exact Holds_t _ (pA (raw.take 2000)) (uA (raw.take 2000)) hPL (by omega) hI) (by first | exact Nat.le_refl _ | simp) rfl rfl ?_
   refine Oo uL4n100 .calm rfl (v_pickT rfl rfl rfl) ?_
   refine Oo uL4n100 .calm rfl (v_move (.inl rfl) rfl) ?_
   refine O_call (env' := uL4n100) rfl rfl rfl rfl rfl (by exact pwakes_spec _) (by first | exact Nat.le_refl _ | simp) rfl rfl ?_
   refine Oo uL4n100 .calm rfl (v_pickT rfl rfl rfl) ?_
   refine Oo uL4n100 .calm rfl (v_move (.inr rfl) rfl) ?_
   refine O_nil [_] (by rfl) (And.intro (And.intro (v_cvS rfl rfl rfl rfl rfl rfl rfl rfl) (v_cvS rfl rfl rfl rfl rfl rfl rfl rfl)) trivial) ?_
   refine K_seq (B_ret ?_)
   refine wL4n2 (.inr rfl) (vres_tmp rfl rfl) ?_
   exact ⟨rfl, rfl⟩

theorem PlanBack_law {x : SW} (p : Pb) (us : List Int) (raw : List UInt8) (hu : -9223372036854775808 ≤ p.users ∧ p.users < 9223372036854775808) : F (psys x) 7 [.agg (pbB p), fzI us, fzB raw] [] fun v G => v = .bool true := (PlanBack_walk [] p us raw hu).mono fun v G h => h.1
end Go.Proofs.Ytbngdhlmggdaaaa.VT

set_option autoImplicit false
set_option linter.unusedVariables false
set_option maxRecDepth 100000
namespace Go.Proofs.Ytbngdhlmggdaaaa
open Go Go.V Go.RowKit Go.ChangeShapes Go.WideShapes Go.ChangeAt VT

theorem PlanBack_lifted (os : Os) (started : os.Started) (H : Type) (enc : TypeId × Value → H) :
    ReturnsInHanded {} Try.checked os 7 .any (Rows.planBackSpec.pre6 enc Try.prog Try.f7 [] false) (Rows.planBackSpec.post enc Try.prog Try.f7 false true false false) := by
  refine returnsInHanded_of_change_sized (C := Try.checked) own started (by kernel_rfl) Try.func7
    (ChangeSpec.witness6 (enc := enc) (C := Try.checked) false ⟨#[], #[.agg #[.int .i64 0, .slice none 0 0, .slice none 0 0, .slice none 0 0], .slice none 0 0, .slice none 0 0], []⟩ 8 (by kernel_rfl) (by kernel_rfl) (by kernel_rfl) (by kernel_rfl)) ?_
  intro W base args ds gs before hval0 hW _ hwt0 _
  have hval : ∀ (j : Nat) t v, Try.f7.params[j]? = some t → args[j]? = some v → Value.okWide Try.prog W .any base t v := hval0
  have hW' := hW
  obtain ⟨p, q, hA0, hV, rfl, hfz, hnd⟩ := hW
  have hA : DataW.TrodAll enc Try.prog W 0 (fun _ => true) true Try.f7.params.toList args.toList ds p := hA0
  rw [Try.params7] at hA hval
  obtain ⟨v0, v1, v2, d0, d1, d2, p0, p1, p2, rfl, rfl, rfl, ⟨fuel0, h0⟩, ⟨fuel1, h1⟩, ⟨fuel2, h2⟩⟩ := trodAll_three hA
  have hgs : gs = [] := by
    cases gs with
    | nil => rfl
    | cons g gs => exact hV.elim
  subst hgs
  have hwt : ∀ n, n ∈ DataW.weightsEach Try.prog [26, 23, 38] [d0, d1, d2] → n ≤ 140737488351232 := fun n hn => by
    have hwt1 : (DataW.weightsEach Try.prog ([26, 23, 38] ++ []) ([d0, d1, d2] ++ [])).all (fun n => decide (n ≤ reachBytes)) = true := by
      have h := hwt0
      rw [show Try.f7.params = _ from Try.params7] at h
      exact h
    exact of_decide_eq_true (List.all_eq_true.1 hwt1 n (by rw [List.append_nil, List.append_nil]; exact hn))
  obtain ⟨a0, k0, r0⟩ := op26.opn h0 (fun n hn => hwt n (mem_weightsEach (i := 0) rfl rfl hn))
  have q0 := arg_agg Try.underlying26 (hval 0 26 v0 rfl rfl) r0
  obtain ⟨a1, k1, r1⟩ := op23.opn h1 (fun n hn => hwt n (mem_weightsEach (i := 1) rfl rfl hn))
  have q1 := arg_one Try.underlying23 rfl (hval 1 23 v1 rfl rfl) r1
  obtain ⟨a2, k2, r2⟩ := op38.opn h2 (fun n hn => hwt n (mem_weightsEach (i := 2) rfl rfl hn))
  have q2 := arg_one Try.underlying38 rfl (hval 2 38 v2 rfl rfl) r2
  exact law_close (S := psys ⟨W⟩) laidOut (by kernel_rfl) rfl rfl Try.underlying4 rfl hW' (.cons q0 (.cons q1 (.cons q2 .nil))) (PlanBack_law a0 a1 a2 k0.1)

theorem PlanBack_holds : Rows.PlanBackSaid :=
  OpenClaim.holds_of_wide 7 Try.f7 rfl rfl rfl rfl rfl rfl rfl ⟨rfl, rfl, rfl, rfl, rfl⟩ rfl rfl rfl rfl rfl (by kernel_rfl) Try.func7 (by kernel_rfl)
    (of_decide_eq_true (by kernel_rfl)) (by unfold Func.isWrapper; first | (rw [if_pos (by decide +kernel)]; kernel_rfl) | (rw [if_neg (by decide +kernel)]; exact ⟨rfl, rfl⟩))
    (fun os started H enc _ => PlanBack_lifted os started H enc)
#print axioms PlanBack_holds
end Go.Proofs.Ytbngdhlmggdaaaa
