/- what the laws share: walk -/
import Derived.Test.YtbngdhlmggdaaaaS10
set_option autoImplicit false
set_option linter.unusedVariables false
set_option linter.unusedSimpArgs false
set_option maxHeartbeats 4000000
set_option maxRecDepth 100000
namespace Go.Proofs.Ytbngdhlmggdaaaa.VT
open Go Go.V Go.RowKit

abbrev uS12n44 {a0 a1 a2 a3 a4 a5 a6 a7 a8 a9 a10 a11 a12 a13 a14 a15 a16 a17 a18 a19 a20 a21 a22 a23 a24 a25 a26 a27 a28 a29 a30 a31 a32 a33 a34 a35 a36 a37 a38 a39 a40 a41 a42 a43 : VVal} : VEnv := a0 :: a1 :: a2 :: a3 :: a4 :: a5 :: a6 :: a7 :: a8 :: a9 :: a10 :: a11 :: a12 :: a13 :: a14 :: a15 :: a16 :: a17 :: a18 :: a19 :: a20 :: a21 :: a22 :: a23 :: a24 :: a25 :: a26 :: a27 :: a28 :: a29 :: a30 :: a31 :: a32 :: a33 :: a34 :: a35 :: a36 :: a37 :: a38 :: a39 :: a40 :: a41 :: a42 :: a43 :: []

theorem wS12n0 {T : TypeId → Option VTy} {H : VHeap} {op : Op} {ρ : VEnv} {H' : VHeap} {t : TypeId} {a : Operand} {i : Nat} {v : VVal} {y : VTy} {b off : Nat} {cs new : List VVal} (ho : op = .store t a (.tmp i)) (hv : ρ[i]? = some v) (ha : ρ.eval a = .ptr (some (b, off))) (hy : T t = some y) (hx : v.cells = some new) (hn : new.length = y.size) (h1 : new.all VVal.one = true) (hb : H[b]? = some (.cells cs true) := by first | exact get_app rfl rfl | exact get_out (by assumption) | exact getE0 rfl rfl | exact get_out (get_app rfl rfl) | exact get_app rfl (by assumption) | assumption | (simp only [List.append_assoc, List.singleton_append, List.cons_append, List.nil_append]; refine getE (i := 0) rfl ?_ rfl; simp; done) | (simp only [List.append_assoc, List.singleton_append, List.cons_append, List.nil_append]; refine getE (i := 1) rfl ?_ rfl; simp; done) | (simp only [List.append_assoc, List.singleton_append, List.cons_append, List.nil_append]; refine getE (i := 2) rfl ?_ rfl; simp; done) | (simp only [List.append_assoc, List.singleton_append, List.cons_append, List.nil_append]; refine getE (i := 3) rfl ?_ rfl; simp; done) | (simp [*]; done)) (hl : off + new.length ≤ cs.length := by first | exact Nat.le_of_ble_eq_true rfl | (simp only [List.length_map, List.length_cons, List.length_nil]; omega) | omega | (simp; done) | (simp; omega)) (hH : H.set b (.cells (splice cs off new) true) = H' := by first | exact setE0 rfl rfl | (simp only [List.append_assoc, List.singleton_append, List.cons_append, List.nil_append]; refine setE (i := 0) rfl ?_; simp; done) | (simp only [List.append_assoc, List.singleton_append, List.cons_append, List.nil_append]; refine setE (i := 1) rfl ?_; simp; done) | (simp only [List.append_assoc, List.singleton_append, List.cons_append, List.nil_append]; refine setE (i := 2) rfl ?_; simp; done) | (simp only [List.append_assoc, List.singleton_append, List.cons_append, List.nil_append]; refine setE (i := 3) rfl ?_; simp; done) | (refine setB rfl ?_; simp; done) | exact set_app rfl | exact set_out (lt_of_get (by assumption)) | rfl) : vop T ρ.eval H op = some (.skip, H') := v_storeT ho hv ha hy hx hn h1 hb hl hH
theorem wS12n1 {T : TypeId → Option VTy} {H : VHeap} {op : Op} {ρ : Operand → VVal} {t : TypeId} {a : Operand} {y : VTy} {p : VVal} {n : Nat} {vs : List VVal} (ho : op = .load t a) (ha : ρ a = p) (hy : T t = some y) (hd : isAggDesc y.desc = true) (hn : y.size = n) (h : LdOkA H p n vs := by first | exact .inl ⟨_, _, rfl, by first | rfl | assumption | exact fget (α := BitVec 64) 0 (by omega) | exact fget (α := Int) 0 (by omega) | exact fget0 (α := BitVec 64) 0 (by omega) | exact fget0 (α := Int) 0 (by omega) | exact fget (α := Bool) false (by omega) | exact fget0 (α := Bool) false (by omega) | (simp [*]; done)⟩ | exact .inr ⟨_, _, _, _, rfl, by first | exact get_app rfl rfl | exact get_out (by assumption) | exact getE0 rfl rfl | exact get_out (get_app rfl rfl) | exact get_app rfl (by assumption) | assumption | (simp only [List.append_assoc, List.singleton_append, List.cons_append, List.nil_append]; refine getE (i := 0) rfl ?_ rfl; simp; done) | (simp only [List.append_assoc, List.singleton_append, List.cons_append, List.nil_append]; refine getE (i := 1) rfl ?_ rfl; simp; done) | (simp only [List.append_assoc, List.singleton_append, List.cons_append, List.nil_append]; refine getE (i := 2) rfl ?_ rfl; simp; done) | (simp only [List.append_assoc, List.singleton_append, List.cons_append, List.nil_append]; refine getE (i := 3) rfl ?_ rfl; simp; done) | (simp [*]; done), by first | rfl | assumption | exact fget (α := BitVec 64) 0 (by omega) | exact fget (α := Int) 0 (by omega) | exact fget0 (α := BitVec 64) 0 (by omega) | exact fget0 (α := Int) 0 (by omega) | exact fget (α := Bool) false (by omega) | exact fget0 (α := Bool) false (by omega) | (simp [*]; done)⟩) : vop T ρ H op = some (.agg vs, H) := v_ldA ho ha hy hd hn h
theorem wS12n2 {T : TypeId → Option VTy} {H : VHeap} {op : Op} {ρ : Operand → VVal} {t e : TypeId} {x i : Operand} {y z : VTy} {k : IntKind} {n : Int} {p v : VVal} {es : Nat} (ho : op = .indexAddr t x i) (hx : ρ x = p) (hi : ρ i = .int k n) (hy : T t = some y) (hd : y.desc = .slice e) (hz : T e = some z) (hs : z.size = es) (h : IxOk p es n v := by first | exact .inl ⟨_, _, _, rfl, by first | assumption | omega | (simp [*]; done) | (simp at *; omega), rfl⟩ | exact .inr ⟨_, _, _, _, _, rfl, by first | assumption | omega | (simp [*]; done) | (simp at *; omega), rfl⟩) : vop T ρ H op = some (v, H) := v_ix ho hx hi hy hd hz hs h
theorem wS12n3 {T : TypeId → Option VTy} {H : VHeap} {op : Op} {ρ : Operand → VVal} {t : TypeId} {a : Operand} {y : VTy} {p v : VVal} (ho : op = .load t a) (ha : ρ a = p) (hy : T t = some y) (hd : isAggDesc y.desc = false) (h : LdOk H p v := by first | exact .inl ⟨_, _, rfl, by first | rfl | assumption | exact fget (α := BitVec 64) 0 (by omega) | exact fget (α := Int) 0 (by omega) | exact fget0 (α := BitVec 64) 0 (by omega) | exact fget0 (α := Int) 0 (by omega) | exact fget (α := Bool) false (by omega) | exact fget0 (α := Bool) false (by omega) | (simp [*]; done)⟩ | exact .inr ⟨_, _, _, _, rfl, by first | exact get_app rfl rfl | exact get_out (by assumption) | exact getE0 rfl rfl | exact get_out (get_app rfl rfl) | exact get_app rfl (by assumption) | assumption | (simp only [List.append_assoc, List.singleton_append, List.cons_append, List.nil_append]; refine getE (i := 0) rfl ?_ rfl; simp; done) | (simp only [List.append_assoc, List.singleton_append, List.cons_append, List.nil_append]; refine getE (i := 1) rfl ?_ rfl; simp; done) | (simp only [List.append_assoc, List.singleton_append, List.cons_append, List.nil_append]; refine getE (i := 2) rfl ?_ rfl; simp; done) | (simp only [List.append_assoc, List.singleton_append, List.cons_append, List.nil_append]; refine getE (i := 3) rfl ?_ rfl; simp; done) | (simp [*]; done), by first | rfl | assumption | exact fget (α := BitVec 64) 0 (by omega) | exact fget (α := Int) 0 (by omega) | exact fget0 (α := BitVec 64) 0 (by omega) | exact fget0 (α := Int) 0 (by omega) | exact fget (α := Bool) false (by omega) | exact fget0 (α := Bool) false (by omega) | (simp [*]; done)⟩) : vop T ρ H op = some (v, H) := v_ld ho ha hy hd h

section
variable {T : TypeId → Option VTy} {ρ : Operand → VVal} {H : VHeap} {op : Op}
theorem v_eqS {t ty : TypeId} {x y : Operand} {a : ByteArray} (ho : op = .binOp .eql t x y ty) (hx : ρ x = .str a) (hy : ρ y = .str a) : vop T ρ H op = some (.bool true, H) := by
  rw [ho]; simp [vop, vbin, hx, hy, vstr]
end
theorem flw_le (p : Pb) (us : List Int) : (flw p us).length ≤ us.length + p.rules.length + 1 := by
  unfold flw
  split
  · simp
  · rw [List.length_append, flR_len]
    have := flU_len p us us.length; have := brk_len p.rules us; omega
def p0 : Pb := (1, [1#64], [-1], [], ())
theorem p0_L : PbL p0 := ⟨by decide, by decide, by decide, by decide, fun r hr => by cases hr⟩
theorem wk_w : VVal.tuple [fzB (cW p0 [0]), iI (eW p0 [0])] = .tuple [fzB [80, 67, 1, 1, 0, 0, 0, 0, 0, 0, 0, 1, 0, 0, 0], iI 0] := by kernel_rfl
theorem wk_f : VVal.tuple [fzF (flA p0 [1]), iI (pck p0)] = .tuple [fzF [(2, 0, 0)], iI 0] := by kernel_rfl

theorem pwakes_spec {x : SW} (H : VHeap) : F (psys x) 12 [] H fun v G => v = .bool true ∧ G = H := by
 refine F_body Try.func12 rfl uS12n44 rfl ?_
 refine B_seq (B_region ?_)
 refine L_op (env' := uS12n44) rfl rfl (v_const (VVal.bool false) (.inr rfl) rfl) rfl ?_
 refine L_nil (K_seq (B_seq (B_region ?_)))
 refine L_op (env' := uS12n44) rfl rfl (v_buildSlice rfl rfl (by decide) rfl) rfl ?_
 refine L_op (env' := uS12n44) rfl rfl (v_buildSlice rfl rfl (by decide) rfl) rfl ?_
 refine L_op (env' := uS12n44) rfl rfl (rfl) rfl ?_
 refine L_op (env' := uS12n44) rfl rfl (v_alloc rfl rfl) rfl ?_
 refine L_op (env' := uS12n44) rfl rfl (wS12n0 rfl rfl rfl rfl rfl rfl rfl) rfl ?_
 refine L_nil (K_seq (B_seq (B_region ?_)))
 refine L_gh (Gh.cellL (l := [iW 1#64]) 2 1 0 rfl rfl (by decide) rfl rfl (Nat.le_refl _)) ?_
 refine L_gh (Gh.cellL (l := [iI (-1)]) 2 2 1 rfl rfl (by decide) rfl rfl (Nat.le_refl _)) ?_
 refine L_gh (Gh.cellNilL 2 3 (es' := 3) rfl rfl) ?_
 refine L_op (env' := uS12n44) rfl rfl (wS12n1 rfl rfl rfl rfl rfl) rfl ?_
 refine L_op (env' := uS12n44) rfl rfl (v_buildSlice rfl rfl (by decide) rfl) rfl ?_
 refine L_gh (Gh.freezeL (l := [iI 0]) 11 3 rfl rfl rfl (Nat.le_refl _) rfl) ?_
 refine L_call rfl rfl rfl (by exact Write_spec _ p0 [0] p0_L (by decide)) ?_
 rintro v _ ⟨hv, rfl⟩; rw [wk_w] at hv; subst hv
 refine L_env (env' := uS12n44) rfl ?_
 refine L_op (env' := uS12n44) rfl rfl (v_move (.inl rfl) rfl) rfl ?_
 refine L_op (env' := uS12n44) rfl rfl (rfl) rfl ?_
 refine L_op (env' := uS12n44) rfl rfl (rfl) rfl ?_
 refine L_op (env' := uS12n44) rfl rfl (v_move (.inr rfl) rfl) rfl ?_
 refine L_op (env' := uS12n44) rfl rfl (v_move (.inr rfl) rfl) rfl ?_
 refine L_nil (K_seq (B_seq (B_region ?_)))
 refine L_op (env' := uS12n44) rfl rfl (wS12n1 rfl rfl rfl rfl rfl) rfl ?_
 refine L_op (env' := uS12n44) rfl rfl (v_buildSlice rfl rfl (by decide) rfl) rfl ?_
 refine L_gh (Gh.freezeL (l := [iI 1]) 17 4 rfl rfl rfl (Nat.le_refl _) rfl) ?_
 refine L_call rfl rfl rfl (by exact Flaws_spec _ p0 [1] p0_L (by decide)) ?_
 rintro v _ ⟨hv, rfl⟩; rw [wk_f] at hv; subst hv
 refine L_env (env' := uS12n44) rfl ?_
 refine L_op (env' := uS12n44) rfl rfl (v_move (.inl rfl) rfl) rfl ?_
 refine L_op (env' := uS12n44) rfl rfl (rfl) rfl ?_
 refine L_op (env' := uS12n44) rfl rfl (rfl) rfl ?_
 refine L_op (env' := uS12n44) rfl rfl (v_move (.inr rfl) rfl) rfl ?_
 refine L_op (env' := uS12n44) rfl rfl (v_move (.inr rfl) rfl) rfl ?_
 refine L_nil (K_seq (B_seq (B_region ?_)))
 refine L_op (env' := uS12n44) rfl rfl (v_move (.inl rfl) rfl) rfl ?_
 refine L_op (env' := uS12n44) rfl rfl (v_is true rfl rfl) rfl ?_
 refine L_op (env' := uS12n44) rfl rfl (v_move (.inl rfl) rfl) rfl ?_
 refine L_op (env' := uS12n44) rfl rfl (v_move (.inl rfl) rfl) rfl ?_
 refine L_op (env' := uS12n44) rfl rfl (v_is true rfl rfl) rfl ?_
 refine L_op (env' := uS12n44) rfl rfl (v_pickT rfl rfl rfl) rfl ?_
 refine L_op (env' := uS12n44) rfl rfl (v_move (.inl rfl) rfl) rfl ?_
 refine L_op (env' := uS12n44) rfl rfl (v_move (.inl rfl) rfl) rfl ?_
 refine L_op (env' := uS12n44) rfl rfl (v_cvS rfl rfl rfl rfl rfl rfl rfl rfl) rfl ?_
 refine L_op (env' := uS12n44) rfl rfl (v_eqS rfl rfl rfl) rfl ?_
 refine L_op (env' := uS12n44) rfl rfl (v_pickT rfl rfl rfl) rfl ?_
 refine L_op (env' := uS12n44) rfl rfl (v_move (.inl rfl) rfl) rfl ?_
 refine L_op (env' := uS12n44) rfl rfl (v_move (.inl rfl) rfl) rfl ?_
 refine L_op (env' := uS12n44) rfl rfl (rfl) rfl ?_
 refine L_op (env' := uS12n44) rfl rfl (v_is true rfl rfl) rfl ?_
 refine L_op (env' := uS12n44) rfl rfl (v_pickT rfl rfl rfl) rfl ?_
 refine L_op (env' := uS12n44) rfl rfl (v_move (.inl rfl) rfl) rfl ?_
 refine L_op (env' := uS12n44) rfl rfl (v_move (.inl rfl) rfl) rfl ?_
 refine L_op (env' := uS12n44) rfl rfl (wS12n2 rfl rfl rfl rfl rfl rfl rfl) rfl ?_
 refine L_op (env' := uS12n44) rfl rfl (rfl) rfl ?_
 refine L_op (env' := uS12n44) rfl rfl (wS12n3 rfl rfl rfl rfl) rfl ?_
 refine L_op (env' := uS12n44) rfl rfl (v_is true rfl rfl) rfl ?_
 refine L_op (env' := uS12n44) rfl rfl (v_pickT rfl rfl rfl) rfl ?_
 refine L_op (env' := uS12n44) rfl rfl (v_move (.inr rfl) rfl) rfl ?_
 refine L_nil (K_seq (B_ret ?_))
 refine E_app (.inr rfl) (vres_tmp rfl rfl) (by first | exact BaseOk.refl _ | exact BaseOk.set (BaseOk.refl _) _ rfl) (by first | rfl | simp [VVal.under, VVal.underL, *]) ?_
 exact ⟨rfl, rfl⟩
end Go.Proofs.Ytbngdhlmggdaaaa.VT
