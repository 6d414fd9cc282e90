/- PlanFlaws: the law -/
import Derived.Test.YtbngdhlmggdaaaaS12
import Derived.Test.YtbngdhlmggdaaaaR1
set_option autoImplicit false
set_option linter.unusedVariables false
set_option linter.unusedSimpArgs false
set_option maxHeartbeats 4000000
set_option maxRecDepth 100000
namespace Go.Proofs.Ytbngdhlmggdaaaa.VT
open Go Go.V Go.RowKit

abbrev uL1n46 {a0 a1 a2 a3 a4 a5 a6 a7 a8 a9 a10 a11 a12 a13 a14 a15 a16 a17 a18 a19 a20 a21 a22 a23 a24 a25 a26 a27 a28 a29 a30 a31 a32 a33 a34 a35 a36 a37 a38 a39 a40 a41 a42 a43 a44 a45 : VVal} : VEnv := a0 :: a1 :: a2 :: a3 :: a4 :: a5 :: a6 :: a7 :: a8 :: a9 :: a10 :: a11 :: a12 :: a13 :: a14 :: a15 :: a16 :: a17 :: a18 :: a19 :: a20 :: a21 :: a22 :: a23 :: a24 :: a25 :: a26 :: a27 :: a28 :: a29 :: a30 :: a31 :: a32 :: a33 :: a34 :: a35 :: a36 :: a37 :: a38 :: a39 :: a40 :: a41 :: a42 :: a43 :: a44 :: a45 :: []

theorem wL1n0 {T : TypeId → Option VTy} {H : VHeap} {op : Op} {ρ : Operand → VVal} {t : TypeId} {a : Operand} {y : VTy} {p : VVal} {n : Nat} {vs : List VVal} (ho : op = .load t a) (ha : ρ a = p) (hy : T t = some y) (hd : isAggDesc y.desc = true) (hn : y.size = n) (h : LdOkA H p n vs := by first | exact .inl ⟨_, _, rfl, by first | rfl | assumption | exact fget (α := BitVec 64) 0 (by omega) | exact fget (α := Int) 0 (by omega) | exact fget0 (α := BitVec 64) 0 (by omega) | exact fget0 (α := Int) 0 (by omega) | exact fget (α := Bool) false (by omega) | exact fget0 (α := Bool) false (by omega) | (simp [*]; done)⟩ | exact .inr ⟨_, _, _, _, rfl, by first | exact get_app rfl rfl | exact get_out (by assumption) | exact getE0 rfl rfl | exact get_out (get_app rfl rfl) | exact get_app rfl (by assumption) | assumption | (simp only [List.append_assoc, List.singleton_append, List.cons_append, List.nil_append]; refine getE (i := 0) rfl ?_ rfl; simp; done) | (simp only [List.append_assoc, List.singleton_append, List.cons_append, List.nil_append]; refine getE (i := 1) rfl ?_ rfl; simp; done) | (simp only [List.append_assoc, List.singleton_append, List.cons_append, List.nil_append]; refine getE (i := 2) rfl ?_ rfl; simp; done) | (simp only [List.append_assoc, List.singleton_append, List.cons_append, List.nil_append]; refine getE (i := 3) rfl ?_ rfl; simp; done) | (simp [*]; done), by first | rfl | assumption | exact fget (α := BitVec 64) 0 (by omega) | exact fget (α := Int) 0 (by omega) | exact fget0 (α := BitVec 64) 0 (by omega) | exact fget0 (α := Int) 0 (by omega) | exact fget (α := Bool) false (by omega) | exact fget0 (α := Bool) false (by omega) | (simp [*]; done)⟩) : vop T ρ H op = some (.agg vs, H) := v_ldA ho ha hy hd hn h
theorem wL1n1 {T : TypeId → Option VTy} {H : VHeap} {op : Op} {ρ : VEnv} {H' : VHeap} {t : TypeId} {a : Operand} {i : Nat} {v : VVal} {y : VTy} {b off : Nat} {cs new : List VVal} (ho : op = .store t a (.tmp i)) (hv : ρ[i]? = some v) (ha : ρ.eval a = .ptr (some (b, off))) (hy : T t = some y) (hx : v.cells = some new) (hn : new.length = y.size) (h1 : new.all VVal.one = true) (hb : H[b]? = some (.cells cs true) := by first | exact get_app rfl rfl | exact get_out (by assumption) | exact getE0 rfl rfl | exact get_out (get_app rfl rfl) | exact get_app rfl (by assumption) | assumption | (simp only [List.append_assoc, List.singleton_append, List.cons_append, List.nil_append]; refine getE (i := 0) rfl ?_ rfl; simp; done) | (simp only [List.append_assoc, List.singleton_append, List.cons_append, List.nil_append]; refine getE (i := 1) rfl ?_ rfl; simp; done) | (simp only [List.append_assoc, List.singleton_append, List.cons_append, List.nil_append]; refine getE (i := 2) rfl ?_ rfl; simp; done) | (simp only [List.append_assoc, List.singleton_append, List.cons_append, List.nil_append]; refine getE (i := 3) rfl ?_ rfl; simp; done) | (simp [*]; done)) (hl : off + new.length ≤ cs.length := by first | exact Nat.le_of_ble_eq_true rfl | (simp only [List.length_map, List.length_cons, List.length_nil]; omega) | omega | (simp; done) | (simp; omega)) (hH : H.set b (.cells (splice cs off new) true) = H' := by first | exact setE0 rfl rfl | (simp only [List.append_assoc, List.singleton_append, List.cons_append, List.nil_append]; refine setE (i := 0) rfl ?_; simp; done) | (simp only [List.append_assoc, List.singleton_append, List.cons_append, List.nil_append]; refine setE (i := 1) rfl ?_; simp; done) | (simp only [List.append_assoc, List.singleton_append, List.cons_append, List.nil_append]; refine setE (i := 2) rfl ?_; simp; done) | (simp only [List.append_assoc, List.singleton_append, List.cons_append, List.nil_append]; refine setE (i := 3) rfl ?_; simp; done) | (refine setB rfl ?_; simp; done) | exact set_app rfl | exact set_out (lt_of_get (by assumption)) | rfl) : vop T ρ.eval H op = some (.skip, H') := v_storeT ho hv ha hy hx hn h1 hb hl hH

theorem PlanFlaws_walk {x : SW} (H : VHeap) (p : Pb) (us : List Int) (hu : -9223372036854775808 ≤ p.users ∧ p.users < 9223372036854775808) : F (psys x) 3 [.agg (pbB p), fzI us] H fun v G => v = .bool true ∧ G = H := by
 have h30 : (us.take 30).length ≤ 30 := by rw [List.length_take]; omega
 have hL := cutP_L hu
 refine F_body Try.func3 rfl uL1n46 rfl ?_
 refine B_seq (B_region ?_)
 refine L_op (env' := uL1n46) rfl rfl (v_boxT rfl rfl rfl) rfl ?_
 refine L_op (env' := uL1n46) rfl rfl (v_const (VVal.bool false) (.inr rfl) rfl) rfl ?_
 refine L_nil (K_seq (B_seq (B_region ?_)))
 refine L_op (env' := uL1n46) rfl rfl (wL1n0 rfl rfl rfl rfl rfl) rfl ?_
 refine L_call rfl rfl rfl (by exact Cut_spec _ p) ?_
 rintro _ _ ⟨rfl, rfl⟩
 refine L_env (env' := uL1n46) rfl ?_
 refine L_op (env' := uL1n46) rfl rfl (v_alloc rfl rfl) rfl ?_
 refine L_op (env' := uL1n46) rfl rfl (wL1n1 rfl rfl rfl rfl rfl rfl rfl) rfl ?_
 refine L_nil (K_seq (B_seq (B_region ?_)))
 refine L_op (env' := uL1n46) rfl rfl (wL1n0 rfl rfl rfl rfl rfl) rfl ?_
 refine L_call rfl rfl rfl (by exact Cut_spec _ (cutP p)) ?_
 rintro v _ ⟨hv, rfl⟩; obtain rfl : v = .agg (pbB (cutP p)) := hv.trans (by rw [cutP_2])
 refine L_env (env' := uL1n46) rfl ?_
 refine L_op (env' := uL1n46) rfl rfl (v_move (.inl rfl) rfl) rfl ?_
 refine L_call rfl rfl rfl (by exact row_spec _ us) ?_
 rintro _ _ ⟨rfl, rfl⟩
 refine L_env (env' := uL1n46) rfl ?_
 refine L_call rfl rfl rfl (by exact Flaws_spec _ (cutP p) (us.take 30) hL (by omega)) ?_
 rintro _ _ ⟨rfl, rfl⟩
 refine L_env (env' := uL1n46) rfl ?_
 refine L_op (env' := uL1n46) rfl rfl (v_move (.inl rfl) rfl) rfl ?_
 refine L_op (env' := uL1n46) rfl rfl (rfl) rfl ?_
 refine L_op (env' := uL1n46) rfl rfl (rfl) rfl ?_
 refine L_op (env' := uL1n46) rfl rfl (v_move (.inr rfl) rfl) rfl ?_
 refine L_op (env' := uL1n46) rfl rfl (v_move (.inr rfl) rfl) rfl ?_
 refine L_nil (K_seq (B_seq (B_seq (B_region ?_))))
 refine L_op (env' := uL1n46) rfl rfl (wL1n0 rfl rfl rfl rfl rfl) rfl ?_
 refine L_call rfl rfl rfl (by exact fpCheck_spec _ (cutP p) hL) ?_
 rintro _ _ ⟨rfl, rfl⟩
 refine L_env (env' := uL1n46) rfl ?_
 refine L_op (env' := uL1n46) rfl rfl (rfl) rfl ?_
 refine L_nil (K_seq ?_)
 refine B_cond _ rfl (fun hc1 => ?_) (fun hc1 => ?_)
 ·try simp only [qB] at hc1
  refine B_seq (B_region ?_)
  refine L_op (env' := uL1n46) rfl rfl (v_move (.inl rfl) rfl) rfl ?_
  refine L_op (env' := uL1n46) rfl rfl (wL1n0 rfl rfl rfl rfl rfl) rfl ?_
  refine L_call rfl rfl rfl (by exact fpCheck_spec _ (cutP p) hL) ?_
  rintro _ _ ⟨rfl, rfl⟩
  refine L_env (env' := uL1n46) rfl ?_
  refine L_op (env' := uL1n46) rfl rfl (v_is true rfl (by simp)) rfl ?_
  refine L_op (env' := uL1n46) rfl rfl (v_move (.inl rfl) rfl) rfl ?_
  refine L_op (env' := uL1n46) rfl rfl (v_move (.inl rfl) rfl) rfl ?_
  refine L_op (env' := uL1n46) rfl rfl (rfl) rfl ?_
  refine L_op (env' := uL1n46) rfl rfl (v_is true rfl (by rw [flA_1 (by assumption)]; rfl)) rfl ?_
  refine L_op (env' := uL1n46) rfl rfl (v_pickT rfl rfl rfl) rfl ?_
  refine L_op (env' := uL1n46) rfl rfl (v_move (.inl rfl) rfl) rfl ?_
  refine L_call rfl rfl rfl (by exact pwakes_spec _) ?_
  rintro _ _ ⟨rfl, rfl⟩
  refine L_env (env' := uL1n46) rfl ?_
  refine L_op (env' := uL1n46) rfl rfl (v_pickT rfl rfl rfl) rfl ?_
  refine L_op (env' := uL1n46) rfl rfl (v_move (.inr rfl) rfl) rfl ?_
  refine L_nil (K_seq (B_ret (K_seqR ?_)))
  refine E_app (.inr rfl) (vres_tmp rfl rfl) (by first | exact BaseOk.refl _ | exact BaseOk.set (BaseOk.refl _) _ rfl) (by first | rfl | simp [VVal.under, VVal.underL, *]) ?_
  exact ⟨rfl, rfl⟩
 ·try simp only [qB] at hc1
  refine B_skip (K_seq (B_seq ?_))
  have hpk : pck (cutP p) = 0 := by assumption
  have g : Go.V.Good (cutP p) := pck_good.1 hpk
  rw [flA_0 hpk, hpk]
  have hfl := flw_le (cutP p) (us.take 30)
  have g3 := g.r32
  refine B_draw [0, 1, 2, 3, 4, 5, 6, 7, 8, 9, 10, 11, 12, 13] #[0, 1, 3, 7, 7, 7, 39, 119, 255, 511, 1023, 2047, 4095, 8191] (by kernel_rfl) (by kernel_rfl) (by kernel_rfl) ?_
  refine O_op (env' := uL1n46) (c := .calm) rfl rfl rfl (v_move (.inl rfl) rfl) rfl rfl rfl ?_
  refine O_op (env' := uL1n46) (c := .calm) rfl rfl rfl (v_is true rfl rfl) rfl rfl rfl ?_
  refine O_op (env' := uL1n46) (c := .calm) rfl rfl rfl (v_move (.inl rfl) rfl) rfl rfl rfl ?_
  refine O_op (env' := uL1n46) (c := .calm) rfl rfl rfl (v_move (.inl rfl) rfl) rfl rfl rfl ?_
  refine O_opI (env' := uL1n46) (x := .look _ _) rfl rfl rfl (wL1n0 rfl rfl rfl rfl rfl) rfl rfl rfl ?_
  refine O_op (env' := uL1n46) (c := .calm) rfl rfl rfl (v_move (.inl rfl) rfl) rfl rfl rfl ?_
  refine O_call (env' := uL1n46) rfl rfl rfl rfl rfl (by exact row_spec _ us) (by first | exact Nat.le_refl _ | simp) rfl rfl ?_
  refine O_call (env' := uL1n46) rfl rfl rfl rfl rfl (by exact fFlaws_spec _ (cutP p) (us.take 30) g hL.s (by omega)) (by first | exact Nat.le_refl _ | simp) rfl rfl ?_
  refine O_call (env' := uL1n46) rfl rfl rfl rfl rfl (by exact flEq_spec _ (flw (cutP p) (us.take 30)) (by omega)) (by first | exact Nat.le_refl _ | simp) rfl rfl ?_
  refine O_op (env' := uL1n46) (c := .calm) rfl rfl rfl (v_pickT rfl rfl rfl) rfl rfl rfl ?_
  refine O_op (env' := uL1n46) (c := .calm) rfl rfl rfl (v_move (.inl rfl) rfl) rfl rfl rfl ?_
  refine O_call (env' := uL1n46) rfl rfl rfl rfl rfl (by exact pwakes_spec _) (by first | exact Nat.le_refl _ | simp) rfl rfl ?_
  refine O_op (env' := uL1n46) (c := .calm) rfl rfl rfl (v_pickT rfl rfl rfl) rfl rfl rfl ?_
  refine O_op (env' := uL1n46) (c := .calm) rfl rfl rfl (v_move (.inr rfl) rfl) rfl rfl rfl ?_
  refine O_nil [_] (by rfl) (And.intro (And.intro (wL1n0 rfl rfl rfl rfl rfl) (wL1n0 rfl rfl rfl rfl rfl)) trivial) ?_
  refine K_seq (B_ret ?_)
  refine E_app (.inr rfl) (vres_tmp rfl rfl) (by first | exact BaseOk.refl _ | exact BaseOk.set (BaseOk.refl _) _ rfl) (by first | rfl | simp [VVal.under, VVal.underL, *]) ?_
  exact ⟨rfl, rfl⟩

theorem PlanFlaws_law {x : SW} (p : Pb) (us : List Int) (hu : -9223372036854775808 ≤ p.users ∧ p.users < 9223372036854775808) : F (psys x) 3 [.agg (pbB p), fzI us] [] fun v G => v = .bool true := (PlanFlaws_walk [] p us hu).mono fun v G h => h.1
end Go.Proofs.Ytbngdhlmggdaaaa.VT
