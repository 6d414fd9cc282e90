/- Proved: Rows.PlanReadSaid, the statement PlanRead, of the given program at the commit; no conditions beyond those in the statement. -/
import Derived.Test.YtbngdhlmggdaaaaC3x13
set_option autoImplicit false
set_option linter.unusedVariables false
set_option linter.unusedSimpArgs false
set_option maxHeartbeats 4000000
set_option maxRecDepth 100000
namespace Go.Proofs.Ytbngdhlmggdaaaa.VT
open Go Go.V Go.RowKit

abbrev uS16n107 {a0 a1 a2 a3 a4 a5 a6 a7 a8 a9 a10 a11 a12 a13 a14 a15 a16 a17 a18 a19 a20 a21 a22 a23 a24 a25 a26 a27 a28 a29 a30 a31 a32 a33 a34 a35 a36 a37 a38 a39 a40 a41 a42 a43 a44 a45 a46 a47 a48 a49 a50 a51 a52 a53 a54 a55 a56 a57 a58 a59 a60 a61 a62 a63 a64 a65 a66 a67 a68 a69 a70 a71 a72 a73 a74 a75 a76 a77 a78 a79 a80 a81 a82 a83 a84 a85 a86 a87 a88 a89 a90 a91 a92 a93 a94 a95 a96 a97 a98 a99 a100 a101 a102 a103 a104 a105 a106 : VVal} : VEnv := a0 :: a1 :: a2 :: a3 :: a4 :: a5 :: a6 :: a7 :: a8 :: a9 :: a10 :: a11 :: a12 :: a13 :: a14 :: a15 :: a16 :: a17 :: a18 :: a19 :: a20 :: a21 :: a22 :: a23 :: a24 :: a25 :: a26 :: a27 :: a28 :: a29 :: a30 :: a31 :: a32 :: a33 :: a34 :: a35 :: a36 :: a37 :: a38 :: a39 :: a40 :: a41 :: a42 :: a43 :: a44 :: a45 :: a46 :: a47 :: a48 :: a49 :: a50 :: a51 :: a52 :: a53 :: a54 :: a55 :: a56 :: a57 :: a58 :: a59 :: a60 :: a61 :: a62 :: a63 :: a64 :: a65 :: a66 :: a67 :: a68 :: a69 :: a70 :: a71 :: a72 :: a73 :: a74 :: a75 :: a76 :: a77 :: a78 :: a79 :: a80 :: a81 :: a82 :: a83 :: a84 :: a85 :: a86 :: a87 :: a88 :: a89 :: a90 :: a91 :: a92 :: a93 :: a94 :: a95 :: a96 :: a97 :: a98 :: a99 :: a100 :: a101 :: a102 :: a103 :: a104 :: a105 :: a106 :: []

theorem wS16n0 {T : TypeId → Option VTy} {H : VHeap} {op : Op} {ρ : Operand → VVal} {t : TypeId} {a : Operand} {y : VTy} {p : VVal} {n : Nat} {vs : List VVal} (ho : op = .load t a) (ha : ρ a = p) (hy : T t = some y) (hd : isAggDesc y.desc = true) (hn : y.size = n) (h : LdOkA H p n vs := by first | exact .inl ⟨_, _, rfl, by first | rfl | assumption | exact fget (α := BitVec 64) 0 (by omega) | exact fget (α := Int) 0 (by omega) | exact fget0 (α := BitVec 64) 0 (by omega) | exact fget0 (α := Int) 0 (by omega) | exact fget (α := Bool) false (by omega) | exact fget0 (α := Bool) false (by omega) | (simp [*]; done)⟩ | exact .inr ⟨_, _, _, _, rfl, by first | exact get_app rfl rfl | exact get_out (by assumption) | exact getE0 rfl rfl | exact get_out (get_app rfl rfl) | exact get_app rfl (by assumption) | assumption | (simp only [List.append_assoc, List.singleton_append, List.cons_append, List.nil_append]; refine getE (i := 0) rfl ?_ rfl; simp; done) | (simp only [List.append_assoc, List.singleton_append, List.cons_append, List.nil_append]; refine getE (i := 1) rfl ?_ rfl; simp; done) | (simp only [List.append_assoc, List.singleton_append, List.cons_append, List.nil_append]; refine getE (i := 2) rfl ?_ rfl; simp; done) | (simp only [List.append_assoc, List.singleton_append, List.cons_append, List.nil_append]; refine getE (i := 3) rfl ?_ rfl; simp; done) | (simp [*]; done), by first | rfl | assumption | exact fget (α := BitVec 64) 0 (by omega) | exact fget (α := Int) 0 (by omega) | exact fget0 (α := BitVec 64) 0 (by omega) | exact fget0 (α := Int) 0 (by omega) | exact fget (α := Bool) false (by omega) | exact fget0 (α := Bool) false (by omega) | (simp [*]; done)⟩) : vop T ρ H op = some (.agg vs, H) := v_ldA ho ha hy hd hn h
theorem wS16n1 {T : TypeId → Option VTy} {H : VHeap} {op : Op} {ρ : VEnv} {H' : VHeap} {t : TypeId} {a : Operand} {i : Nat} {v : VVal} {y : VTy} {b off : Nat} {cs new : List VVal} (ho : op = .store t a (.tmp i)) (hv : ρ[i]? = some v) (ha : ρ.eval a = .ptr (some (b, off))) (hy : T t = some y) (hx : v.cells = some new) (hn : new.length = y.size) (h1 : new.all VVal.one = true) (hb : H[b]? = some (.cells cs true) := by first | exact get_app rfl rfl | exact get_out (by assumption) | exact getE0 rfl rfl | exact get_out (get_app rfl rfl) | exact get_app rfl (by assumption) | assumption | (simp only [List.append_assoc, List.singleton_append, List.cons_append, List.nil_append]; refine getE (i := 0) rfl ?_ rfl; simp; done) | (simp only [List.append_assoc, List.singleton_append, List.cons_append, List.nil_append]; refine getE (i := 1) rfl ?_ rfl; simp; done) | (simp only [List.append_assoc, List.singleton_append, List.cons_append, List.nil_append]; refine getE (i := 2) rfl ?_ rfl; simp; done) | (simp only [List.append_assoc, List.singleton_append, List.cons_append, List.nil_append]; refine getE (i := 3) rfl ?_ rfl; simp; done) | (simp [*]; done)) (hl : off + new.length ≤ cs.length := by first | exact Nat.le_of_ble_eq_true rfl | (simp only [List.length_map, List.length_cons, List.length_nil]; omega) | omega | (simp; done) | (simp; omega)) (hH : H.set b (.cells (splice cs off new) true) = H' := by first | exact setE0 rfl rfl | (simp only [List.append_assoc, List.singleton_append, List.cons_append, List.nil_append]; refine setE (i := 0) rfl ?_; simp; done) | (simp only [List.append_assoc, List.singleton_append, List.cons_append, List.nil_append]; refine setE (i := 1) rfl ?_; simp; done) | (simp only [List.append_assoc, List.singleton_append, List.cons_append, List.nil_append]; refine setE (i := 2) rfl ?_; simp; done) | (simp only [List.append_assoc, List.singleton_append, List.cons_append, List.nil_append]; refine setE (i := 3) rfl ?_; simp; done) | (refine setB rfl ?_; simp; done) | exact set_app rfl | exact set_out (lt_of_get (by assumption)) | rfl) : vop T ρ.eval H op = some (.skip, H') := v_storeT ho hv ha hy hx hn h1 hb hl hH
theorem wS16n2 {S : V.Sys} {H : VHeap} {fn : Func} {ex : Exit} {env : VEnv} {B L : VHeap} {v : VVal} {R : VVal → VHeap → Prop} (hx : ex = .normal ∨ ex = .ret) (hv : vresults S.C.T env (B ++ L) fn.results = some v) (h : R v B) (hB : BaseOk H B := by first | exact BaseOk.refl _ | exact BaseOk.set (BaseOk.refl _) _ rfl) (hu : v.under H.length = true := by first | rfl | exact (show VVal.under _ (.tuple [.agg (pbB (pA raw)), fzI (uA raw), iI 0]) = true by simp [VVal.under, VVal.underL, fzI_under, fzW_under, fzR, flR_under])) : fnK S fn H R ex env (B ++ L) := E_app hx hv hB hu h
theorem wS16n3 {P : Prop} (h : P := by first | exact ⟨(rd_e (rdE_3 (.inl hbad)) (by decide)).symm, rfl⟩ | exact ⟨(rd_e (rdE_3 (.inr (by assumption))) (by decide)).symm, rfl⟩ | exact ⟨(rd_e (rdE_52 hb hpk hne) (by decide)).symm, rfl⟩ | exact ⟨(rd_0 (rdE_0 hb hpk hfl)).symm, rfl⟩) : P := h
theorem wS16n4 {T : TypeId → Option VTy} {H : VHeap} {op : Op} {ρ : Operand → VVal} {t e : TypeId} {x i : Operand} {y z : VTy} {k : IntKind} {n : Int} {p v : VVal} {es : Nat} (ho : op = .indexAddr t x i) (hx : ρ x = p) (hi : ρ i = .int k n) (hy : T t = some y) (hd : y.desc = .slice e) (hz : T e = some z) (hs : z.size = es) (h : IxOk p es n v := by first | exact .inl ⟨_, _, _, rfl, by first | assumption | omega | (simp [*]; done) | (simp at *; omega), rfl⟩ | exact .inr ⟨_, _, _, _, _, rfl, by first | assumption | omega | (simp [*]; done) | (simp at *; omega), rfl⟩) : vop T ρ H op = some (v, H) := v_ix ho hx hi hy hd hz hs h
theorem wS16n5 {T : TypeId → Option VTy} {H : VHeap} {op : Op} {ρ : Operand → VVal} {t : TypeId} {a : Operand} {y : VTy} {p v : VVal} (ho : op = .load t a) (ha : ρ a = p) (hy : T t = some y) (hd : isAggDesc y.desc = false) (h : LdOk H p v := by first | exact .inl ⟨_, _, rfl, by exact fgetC (α := UInt8) 0 0 (by omega)⟩ | exact .inr ⟨_, _, _, _, rfl, by first | exact get_app rfl rfl | exact get_out (by assumption) | exact getE0 rfl rfl | exact get_out (get_app rfl rfl) | exact get_app rfl (by assumption) | assumption | (simp only [List.append_assoc, List.singleton_append, List.cons_append, List.nil_append]; refine getE (i := 0) rfl ?_ rfl; simp; done) | (simp only [List.append_assoc, List.singleton_append, List.cons_append, List.nil_append]; refine getE (i := 1) rfl ?_ rfl; simp; done) | (simp only [List.append_assoc, List.singleton_append, List.cons_append, List.nil_append]; refine getE (i := 2) rfl ?_ rfl; simp; done) | (simp only [List.append_assoc, List.singleton_append, List.cons_append, List.nil_append]; refine getE (i := 3) rfl ?_ rfl; simp; done) | (simp [*]; done), by exact fgetC (α := UInt8) 0 0 (by omega)⟩) : vop T ρ H op = some (v, H) := v_ld ho ha hy hd h
theorem wS16n6 {T : TypeId → Option VTy} {H : VHeap} {op : Op} {ρ : Operand → VVal} {t : TypeId} {a : Operand} {y : VTy} {p v : VVal} (ho : op = .load t a) (ha : ρ a = p) (hy : T t = some y) (hd : isAggDesc y.desc = false) (h : LdOk H p v := by first | exact .inl ⟨_, _, rfl, by exact fgetC (α := UInt8) 1 0 (by omega)⟩ | exact .inr ⟨_, _, _, _, rfl, by first | exact get_app rfl rfl | exact get_out (by assumption) | exact getE0 rfl rfl | exact get_out (get_app rfl rfl) | exact get_app rfl (by assumption) | assumption | (simp only [List.append_assoc, List.singleton_append, List.cons_append, List.nil_append]; refine getE (i := 0) rfl ?_ rfl; simp; done) | (simp only [List.append_assoc, List.singleton_append, List.cons_append, List.nil_append]; refine getE (i := 1) rfl ?_ rfl; simp; done) | (simp only [List.append_assoc, List.singleton_append, List.cons_append, List.nil_append]; refine getE (i := 2) rfl ?_ rfl; simp; done) | (simp only [List.append_assoc, List.singleton_append, List.cons_append, List.nil_append]; refine getE (i := 3) rfl ?_ rfl; simp; done) | (simp [*]; done), by exact fgetC (α := UInt8) 1 0 (by omega)⟩) : vop T ρ H op = some (v, H) := v_ld ho ha hy hd h
theorem wS16n7 {T : TypeId → Option VTy} {H : VHeap} {op : Op} {ρ : Operand → VVal} {t : TypeId} {a : Operand} {y : VTy} {p v : VVal} (ho : op = .load t a) (ha : ρ a = p) (hy : T t = some y) (hd : isAggDesc y.desc = false) (h : LdOk H p v := by first | exact .inl ⟨_, _, rfl, by exact fgetC (α := UInt8) 2 0 (by omega)⟩ | exact .inr ⟨_, _, _, _, rfl, by first | exact get_app rfl rfl | exact get_out (by assumption) | exact getE0 rfl rfl | exact get_out (get_app rfl rfl) | exact get_app rfl (by assumption) | assumption | (simp only [List.append_assoc, List.singleton_append, List.cons_append, List.nil_append]; refine getE (i := 0) rfl ?_ rfl; simp; done) | (simp only [List.append_assoc, List.singleton_append, List.cons_append, List.nil_append]; refine getE (i := 1) rfl ?_ rfl; simp; done) | (simp only [List.append_assoc, List.singleton_append, List.cons_append, List.nil_append]; refine getE (i := 2) rfl ?_ rfl; simp; done) | (simp only [List.append_assoc, List.singleton_append, List.cons_append, List.nil_append]; refine getE (i := 3) rfl ?_ rfl; simp; done) | (simp [*]; done), by exact fgetC (α := UInt8) 2 0 (by omega)⟩) : vop T ρ H op = some (v, H) := v_ld ho ha hy hd h
theorem wS16n8 {T : TypeId → Option VTy} {H : VHeap} {op : Op} {ρ : Operand → VVal} {t : TypeId} {a : Operand} {y : VTy} {p v : VVal} (ho : op = .load t a) (ha : ρ a = p) (hy : T t = some y) (hd : isAggDesc y.desc = false) (h : LdOk H p v := by first | exact .inl ⟨_, _, rfl, by exact fgetC (α := UInt8) 3 0 (by omega)⟩ | exact .inr ⟨_, _, _, _, rfl, by first | exact get_app rfl rfl | exact get_out (by assumption) | exact getE0 rfl rfl | exact get_out (get_app rfl rfl) | exact get_app rfl (by assumption) | assumption | (simp only [List.append_assoc, List.singleton_append, List.cons_append, List.nil_append]; refine getE (i := 0) rfl ?_ rfl; simp; done) | (simp only [List.append_assoc, List.singleton_append, List.cons_append, List.nil_append]; refine getE (i := 1) rfl ?_ rfl; simp; done) | (simp only [List.append_assoc, List.singleton_append, List.cons_append, List.nil_append]; refine getE (i := 2) rfl ?_ rfl; simp; done) | (simp only [List.append_assoc, List.singleton_append, List.cons_append, List.nil_append]; refine getE (i := 3) rfl ?_ rfl; simp; done) | (simp [*]; done), by exact fgetC (α := UInt8) 3 0 (by omega)⟩) : vop T ρ H op = some (v, H) := v_ld ho ha hy hd h
theorem wS16n9 {T : TypeId → Option VTy} {H : VHeap} {op : Op} {ρ : Operand → VVal} {t : TypeId} {a : Operand} {y : VTy} {p v : VVal} (ho : op = .load t a) (ha : ρ a = p) (hy : T t = some y) (hd : isAggDesc y.desc = false) (h : LdOk H p v := by first | exact .inl ⟨_, _, rfl, by first | rfl | assumption | exact fget (α := BitVec 64) 0 (by omega) | exact fget (α := Int) 0 (by omega) | exact fget0 (α := BitVec 64) 0 (by omega) | exact fget0 (α := Int) 0 (by omega) | exact fget (α := Bool) false (by omega) | exact fget0 (α := Bool) false (by omega) | (simp [*]; done)⟩ | exact .inr ⟨_, _, _, _, rfl, by first | exact get_app rfl rfl | exact get_out (by assumption) | exact getE0 rfl rfl | exact get_out (get_app rfl rfl) | exact get_app rfl (by assumption) | assumption | (simp only [List.append_assoc, List.singleton_append, List.cons_append, List.nil_append]; refine getE (i := 0) rfl ?_ rfl; simp; done) | (simp only [List.append_assoc, List.singleton_append, List.cons_append, List.nil_append]; refine getE (i := 1) rfl ?_ rfl; simp; done) | (simp only [List.append_assoc, List.singleton_append, List.cons_append, List.nil_append]; refine getE (i := 2) rfl ?_ rfl; simp; done) | (simp only [List.append_assoc, List.singleton_append, List.cons_append, List.nil_append]; refine getE (i := 3) rfl ?_ rfl; simp; done) | (simp [*]; done), by first | rfl | assumption | exact fget (α := BitVec 64) 0 (by omega) | exact fget (α := Int) 0 (by omega) | exact fget0 (α := BitVec 64) 0 (by omega) | exact fget0 (α := Int) 0 (by omega) | exact fget (α := Bool) false (by omega) | exact fget0 (α := Bool) false (by omega) | (simp [*]; done)⟩) : vop T ρ H op = some (v, H) := v_ld ho ha hy hd h
theorem wS16n10 {T : TypeId → Option VTy} {H : VHeap} {op : Op} {ρ : Operand → VVal} {t : TypeId} {a : Operand} {y : VTy} {p v : VVal} (ho : op = .load t a) (ha : ρ a = p) (hy : T t = some y) (hd : isAggDesc y.desc = false) (h : LdOk H p v := by first | exact .inl ⟨_, _, rfl, by exact fgetC (α := UInt8) 8 0 (by omega)⟩ | exact .inr ⟨_, _, _, _, rfl, by first | exact get_app rfl rfl | exact get_out (by assumption) | exact getE0 rfl rfl | exact get_out (get_app rfl rfl) | exact get_app rfl (by assumption) | assumption | (simp only [List.append_assoc, List.singleton_append, List.cons_append, List.nil_append]; refine getE (i := 0) rfl ?_ rfl; simp; done) | (simp only [List.append_assoc, List.singleton_append, List.cons_append, List.nil_append]; refine getE (i := 1) rfl ?_ rfl; simp; done) | (simp only [List.append_assoc, List.singleton_append, List.cons_append, List.nil_append]; refine getE (i := 2) rfl ?_ rfl; simp; done) | (simp only [List.append_assoc, List.singleton_append, List.cons_append, List.nil_append]; refine getE (i := 3) rfl ?_ rfl; simp; done) | (simp [*]; done), by exact fgetC (α := UInt8) 8 0 (by omega)⟩) : vop T ρ H op = some (v, H) := v_ld ho ha hy hd h
theorem wS16n11 {T : TypeId → Option VTy} {H : VHeap} {op : Op} {ρ : Operand → VVal} {t ty : TypeId} {x y : Operand} {n m : Int} (ho : op = .binOp .sub t x y ty) (hx : ρ x = .int .i64 n) (hy : ρ y = .int .i64 m) (h : -9223372036854775808 ≤ n - m ∧ n - m < 9223372036854775808 := by have h9 := byte_lt (c.getD 8 0); omega) : vop T ρ H op = some (.int .i64 (n - m), H) := v_subI ho hx hy h
theorem wS16n12 {T : TypeId → Option VTy} {H : VHeap} {op : Op} {ρ : Operand → VVal} {t : TypeId} {a : Operand} {y : VTy} {p v : VVal} (ho : op = .load t a) (ha : ρ a = p) (hy : T t = some y) (hd : isAggDesc y.desc = false) (h : LdOk H p v := by first | exact .inl ⟨_, _, rfl, by exact fgetC (α := UInt8) 9 0 (by omega)⟩ | exact .inr ⟨_, _, _, _, rfl, by first | exact get_app rfl rfl | exact get_out (by assumption) | exact getE0 rfl rfl | exact get_out (get_app rfl rfl) | exact get_app rfl (by assumption) | assumption | (simp only [List.append_assoc, List.singleton_append, List.cons_append, List.nil_append]; refine getE (i := 0) rfl ?_ rfl; simp; done) | (simp only [List.append_assoc, List.singleton_append, List.cons_append, List.nil_append]; refine getE (i := 1) rfl ?_ rfl; simp; done) | (simp only [List.append_assoc, List.singleton_append, List.cons_append, List.nil_append]; refine getE (i := 2) rfl ?_ rfl; simp; done) | (simp only [List.append_assoc, List.singleton_append, List.cons_append, List.nil_append]; refine getE (i := 3) rfl ?_ rfl; simp; done) | (simp [*]; done), by exact fgetC (α := UInt8) 9 0 (by omega)⟩) : vop T ρ H op = some (v, H) := v_ld ho ha hy hd h
theorem wS16n13 {T : TypeId → Option VTy} {H : VHeap} {op : Op} {ρ : Operand → VVal} {t ty : TypeId} {x y : Operand} {n m : Int} (ho : op = .binOp .add t x y ty) (hx : ρ x = .int .i64 n) (hy : ρ y = .int .i64 m) (h : -9223372036854775808 ≤ n + m ∧ n + m < 9223372036854775808 := by first | assumption | omega | (simp [*]; done) | (simp at *; omega)) : vop T ρ H op = some (.int .i64 (n + m), H) := v_addI ho hx hy h

theorem b80 {x y : UInt8} : ((x.toNat : Int) = 80 ∧ (y.toNat : Int) = 67) → x = 80 ∧ y = 67 := by
  rintro ⟨h1, h2⟩
  exact ⟨UInt8.toNat_inj.1 (by show x.toNat = 80; omega), UInt8.toNat_inj.1 (by show y.toNat = 67; omega)⟩
theorem nb80 {x y : UInt8} (h : ¬ (x.toNat : Int) = 80 ∨ ¬ (y.toNat : Int) = 67) : ¬ (x = 80 ∧ y = 67) := by
  rintro ⟨rfl, rfl⟩
  rcases h with h | h
  · exact h rfl
  · exact h rfl
theorem stA_is {raw : List UInt8} {L : List Stp} {c : List UInt8} (h4 : 4 ≤ raw.length) (h : stP (raw.getD 3 0).toNat (raw.drop 4, false) = (L, (c, false))) : stA raw = (L, (c, false)) := by rw [stA_eq, hdP_4 h4]; exact h
theorem pA_who2 {raw : List UInt8} {L : List Stp} {t : RSt} (h : stA raw = (L, t)) : (pA raw).who = L.map (fun x : Stp => x.1) := by rw [pA_who, ← stA_eq, h]
theorem pA_fix2 {raw : List UInt8} {L : List Stp} {t : RSt} (h : stA raw = (L, t)) : (pA raw).fixed = L.map (fun x : Stp => x.2.1) := by rw [pA_fixed, ← stA_eq, h]
theorem uA_2 {raw : List UInt8} {L : List Stp} {t : RSt} (h : stA raw = (L, t)) : uA raw = L.map (fun x : Stp => x.2.2) := by rw [uA_eq, ← stA_eq, h]
theorem bad_in {raw : List UInt8} {i : Nat} {L : List Stp} {c : List UInt8} (h4 : 4 ≤ raw.length) (h : stP i (raw.drop 4, false) = (L, (c, false))) (hi : i < (raw.getD 3 0).toNat) (hc : c.length < 10) : badA raw = true := by
  refine bad_st (i := i + 1) (by rw [hdP_4 h4]; exact hi) ?_
  rw [hdP_4 h4]; exact stP_no h hc
/-- the whole problem, where all is there -/
theorem pA_is {raw c : List UInt8} {L : List Stp} (h4 : 4 ≤ raw.length) (h : stA raw = (L, (c, false))) (h80 : raw.getD 0 0 = 80 ∧ raw.getD 1 0 = 67) (hc : 1 ≤ c.length) (hok : rok (c.getD 0 0).toNat (c.drop 1) = true) : pA raw = (nB (raw.getD 2 0), (pA raw).who, (pA raw).fixed, rfL (c.getD 0 0).toNat (c.drop 1), ()) := by
  have hb := bad_iff h4 h80 h hc
  rw [(rfL_ok hok).1, ← hb.2, ruA_eq]
  have := pA_eq raw
  rw [hdP_4 h4] at this; exact this

theorem fRead_spec {x : SW} (H : VHeap) (raw : List UInt8) (hl : raw.length ≤ 1000000) : F (psys x) 19 [fzB raw] H fun v G => v = .tuple [.agg (pbB (rdPb raw)), fzI (rdU raw), iI (rdE raw)] ∧ G = H := by
 have hlen := pA_lens raw
 have hb2 := byte_lt (raw.getD 2 0); have hb3 := byte_lt (raw.getD 3 0)
 refine F_body Try.func19 rfl uS16n107 rfl ?_
 refine B_seq (B_region ?_)
 refine Lo uS16n107 (v_alloc rfl rfl) ?_
 refine Lo uS16n107 (v_const (VVal.slice none 0 0 true 0) (.inr rfl) rfl) ?_
 refine Lo uS16n107 (v_const (VVal.int .i64 0) (.inr rfl) rfl) ?_
 refine L_nil (K_seq (B_seq (B_region ?_)))
 refine Lo uS16n107 (v_alloc rfl rfl) ?_
 refine L_nil (K_seq (B_seq (B_seq (B_region ?_))))
 refine Lo uS16n107 (v_move (.inl rfl) rfl) ?_
 refine Lo uS16n107 (rfl) ?_
 refine Lo uS16n107 (rfl) ?_
 refine Lo uS16n107 (v_move (.inl rfl) rfl) ?_
 refine L_split 15 (env1 := uS16n107) (env2 := uS16n107) rfl rfl rfl (fun hg1 => ?_) (fun hg1 => ?_)
 ·try simp only [qB, qN] at hg1
  refine Lf uS16n107 ?_
  refine Lf uS16n107 ?_
  refine Lf uS16n107 ?_
  refine Lf uS16n107 ?_
  refine Lo uS16n107 (v_pickTC (VVal.bool true) rfl rfl rfl) ?_
  refine Lo uS16n107 (v_move (.inl rfl) rfl) ?_
  refine Lf uS16n107 ?_
  refine Lf uS16n107 ?_
  refine Lf uS16n107 ?_
  refine Lf uS16n107 ?_
  refine Lo uS16n107 (v_pickTC (VVal.bool true) rfl rfl rfl) ?_
  refine L_nil (K_seq ?_)
  refine B_true rfl rfl ?_
  refine B_seq (B_region ?_)
  refine Lo uS16n107 (wS16n0 rfl rfl rfl rfl rfl) ?_
  refine Lo uS16n107 (wS16n1 rfl rfl rfl rfl rfl rfl rfl) ?_
  refine Lo uS16n107 (v_const (VVal.slice none 0 0 true 0) (.inr rfl) rfl) ?_
  refine Lo uS16n107 (v_const (VVal.int .i64 3) (.inr rfl) rfl) ?_
  refine L_nil (K_seq ?_)
  refine B_gh (Gh.cellNilL 0 1 (es' := 1) rfl rfl) ?_
  refine B_gh (Gh.cellNilL 0 2 (es' := 1) rfl rfl) ?_
  refine B_gh (Gh.cellNilL 0 3 (es' := 3) rfl rfl) ?_
  refine B_gh (Gh.freezeNil 3 (es' := 1) rfl rfl) ?_
  have hbad := bad_5 (raw := raw) (by omega)
  refine B_ret (K_seqR ?_)
  refine wS16n2 (.inr rfl) (vres_cAtt rfl rfl rfl rfl (by first | exact get_app rfl rfl | exact get_out (by assumption) | exact getE0 rfl rfl | exact get_out (get_app rfl rfl) | exact get_app rfl (by assumption) | assumption | (simp only [List.append_assoc, List.singleton_append, List.cons_append, List.nil_append]; refine getE (i := 0) rfl ?_ rfl; simp; done) | (simp only [List.append_assoc, List.singleton_append, List.cons_append, List.nil_append]; refine getE (i := 1) rfl ?_ rfl; simp; done) | (simp only [List.append_assoc, List.singleton_append, List.cons_append, List.nil_append]; refine getE (i := 2) rfl ?_ rfl; simp; done) | (simp only [List.append_assoc, List.singleton_append, List.cons_append, List.nil_append]; refine getE (i := 3) rfl ?_ rfl; simp; done) | (simp [*]; done)) (by first | rfl | assumption | exact fget (α := BitVec 64) 0 (by omega) | exact fget (α := Int) 0 (by omega) | exact fget0 (α := BitVec 64) 0 (by omega) | exact fget0 (α := Int) 0 (by omega) | exact fget (α := Bool) false (by omega) | exact fget0 (α := Bool) false (by omega) | (simp [*]; done)) rfl rfl) ?_
  exact wS16n3
 ·try simp only [qB, qN] at hg1
  refine Lo uS16n107 (v_move (.inl rfl) rfl) ?_
  refine Lo uS16n107 (wS16n4 rfl rfl rfl rfl rfl rfl rfl) ?_
  refine Lo uS16n107 (wS16n5 rfl rfl rfl rfl) ?_
  refine Lo uS16n107 (rfl) ?_
  refine Lo uS16n107 (v_pickF rfl rfl rfl) ?_
  refine Lo uS16n107 (v_move (.inl rfl) rfl) ?_
  refine L_split 21 (env1 := uS16n107) (env2 := uS16n107) rfl rfl rfl (fun hg2 => ?_) (fun hg2 => ?_)
  ·try simp only [qB, qN] at hg2
   refine Lf uS16n107 ?_
   refine Lf uS16n107 ?_
   refine Lf uS16n107 ?_
   refine Lf uS16n107 ?_
   refine Lo uS16n107 (v_pickTC (VVal.bool true) rfl rfl rfl) ?_
   refine L_nil (K_seq ?_)
   refine B_true rfl rfl ?_
   refine B_seq (B_region ?_)
   refine Lo uS16n107 (wS16n0 rfl rfl rfl rfl rfl) ?_
   refine Lo uS16n107 (wS16n1 rfl rfl rfl rfl rfl rfl rfl) ?_
   refine Lo uS16n107 (v_const (VVal.slice none 0 0 true 0) (.inr rfl) rfl) ?_
   refine Lo uS16n107 (v_const (VVal.int .i64 3) (.inr rfl) rfl) ?_
   refine L_nil (K_seq ?_)
   refine B_gh (Gh.cellNilL 0 1 (es' := 1) rfl rfl) ?_
   refine B_gh (Gh.cellNilL 0 2 (es' := 1) rfl rfl) ?_
   refine B_gh (Gh.cellNilL 0 3 (es' := 3) rfl rfl) ?_
   refine B_gh (Gh.freezeNil 3 (es' := 1) rfl rfl) ?_
   have hbad := bad_head (raw := raw) (by omega) (nb80 (.inl (by omega)))
   refine B_ret (K_seqR ?_)
   refine wS16n2 (.inr rfl) (vres_cAtt rfl rfl rfl rfl (by first | exact get_app rfl rfl | exact get_out (by assumption) | exact getE0 rfl rfl | exact get_out (get_app rfl rfl) | exact get_app rfl (by assumption) | assumption | (simp only [List.append_assoc, List.singleton_append, List.cons_append, List.nil_append]; refine getE (i := 0) rfl ?_ rfl; simp; done) | (simp only [List.append_assoc, List.singleton_append, List.cons_append, List.nil_append]; refine getE (i := 1) rfl ?_ rfl; simp; done) | (simp only [List.append_assoc, List.singleton_append, List.cons_append, List.nil_append]; refine getE (i := 2) rfl ?_ rfl; simp; done) | (simp only [List.append_assoc, List.singleton_append, List.cons_append, List.nil_append]; refine getE (i := 3) rfl ?_ rfl; simp; done) | (simp [*]; done)) (by first | rfl | assumption | exact fget (α := BitVec 64) 0 (by omega) | exact fget (α := Int) 0 (by omega) | exact fget0 (α := BitVec 64) 0 (by omega) | exact fget0 (α := Int) 0 (by omega) | exact fget (α := Bool) false (by omega) | exact fget0 (α := Bool) false (by omega) | (simp [*]; done)) rfl rfl) ?_
   exact wS16n3
  ·try simp only [qB, qN] at hg2
   refine Lo uS16n107 (v_move (.inl rfl) rfl) ?_
   refine Lo uS16n107 (wS16n4 rfl rfl rfl rfl rfl rfl rfl) ?_
   refine Lo uS16n107 (wS16n6 rfl rfl rfl rfl) ?_
   refine Lo uS16n107 (rfl) ?_
   refine Lo uS16n107 (v_pickF rfl rfl rfl) ?_
   refine L_nil (K_seq ?_)
   refine B_cond _ rfl (fun hc3 => ?_) (fun hc3 => ?_)
   ·try simp only [qB, qN] at hc3
    refine B_seq (B_region ?_)
    refine Lo uS16n107 (wS16n0 rfl rfl rfl rfl rfl) ?_
    refine Lo uS16n107 (wS16n1 rfl rfl rfl rfl rfl rfl rfl) ?_
    refine Lo uS16n107 (v_const (VVal.slice none 0 0 true 0) (.inr rfl) rfl) ?_
    refine Lo uS16n107 (v_const (VVal.int .i64 3) (.inr rfl) rfl) ?_
    refine L_nil (K_seq ?_)
    refine B_gh (Gh.cellNilL 0 1 (es' := 1) rfl rfl) ?_
    refine B_gh (Gh.cellNilL 0 2 (es' := 1) rfl rfl) ?_
    refine B_gh (Gh.cellNilL 0 3 (es' := 3) rfl rfl) ?_
    refine B_gh (Gh.freezeNil 3 (es' := 1) rfl rfl) ?_
    have hbad := bad_head (raw := raw) (by omega) (nb80 (.inr (by omega)))
    refine B_ret (K_seqR ?_)
    refine wS16n2 (.inr rfl) (vres_cAtt rfl rfl rfl rfl (by first | exact get_app rfl rfl | exact get_out (by assumption) | exact getE0 rfl rfl | exact get_out (get_app rfl rfl) | exact get_app rfl (by assumption) | assumption | (simp only [List.append_assoc, List.singleton_append, List.cons_append, List.nil_append]; refine getE (i := 0) rfl ?_ rfl; simp; done) | (simp only [List.append_assoc, List.singleton_append, List.cons_append, List.nil_append]; refine getE (i := 1) rfl ?_ rfl; simp; done) | (simp only [List.append_assoc, List.singleton_append, List.cons_append, List.nil_append]; refine getE (i := 2) rfl ?_ rfl; simp; done) | (simp only [List.append_assoc, List.singleton_append, List.cons_append, List.nil_append]; refine getE (i := 3) rfl ?_ rfl; simp; done) | (simp [*]; done)) (by first | rfl | assumption | exact fget (α := BitVec 64) 0 (by omega) | exact fget (α := Int) 0 (by omega) | exact fget0 (α := BitVec 64) 0 (by omega) | exact fget0 (α := Int) 0 (by omega) | exact fget (α := Bool) false (by omega) | exact fget0 (α := Bool) false (by omega) | (simp [*]; done)) rfl rfl) ?_
    exact wS16n3
   ·try simp only [qB, qN] at hc3
    refine B_skip (K_seq (B_seq ?_))
    have h5 : 5 ≤ raw.length := by omega
    have h80 := b80 (x := raw.getD 0 0) (y := raw.getD 1 0) (by omega)
    refine B_region ?_
    refine Lo uS16n107 (v_move (.inl rfl) rfl) ?_
    refine Lo uS16n107 (wS16n4 rfl rfl rfl rfl rfl rfl rfl) ?_
    refine Lo uS16n107 (wS16n7 rfl rfl rfl rfl) ?_
    refine Lo uS16n107 (v_cvI rfl rfl rfl rfl rfl (by have h9 := byte_lt (raw.getD 2 0); omega)) ?_
    refine Lo uS16n107 (rfl) ?_
    refine Lo uS16n107 (v_alloc rfl rfl) ?_
    refine Lo uS16n107 (wS16n1 rfl rfl rfl rfl rfl rfl rfl) ?_
    refine L_nil (K_seq (B_seq (B_region ?_)))
    refine Lo uS16n107 (v_move (.inl rfl) rfl) ?_
    refine Lo uS16n107 (wS16n4 rfl rfl rfl rfl rfl rfl rfl) ?_
    refine Lo uS16n107 (wS16n8 rfl rfl rfl rfl) ?_
    refine Lo uS16n107 (v_cvI rfl rfl rfl rfl rfl (by have h9 := byte_lt (raw.getD 3 0); omega)) ?_
    refine Lo uS16n107 (v_move (.inr rfl) rfl) ?_
    refine L_nil (K_seq (B_seq (B_region ?_)))
    refine Lo uS16n107 (v_move (.inl rfl) rfl) ?_
    refine Lo uS16n107 (v_bLo (k := 4) rfl rfl rfl rfl rfl rfl rfl (by omega)) ?_
    refine Lo uS16n107 (v_move (.inr rfl) rfl) ?_
    refine L_nil (K_seq (B_seq (B_region ?_)))
    refine Lo uS16n107 (v_const (VVal.slice none 0 0 true 0) (.inr rfl) rfl) ?_
    refine L_nil (K_seq (B_seq (B_seq (B_region ?_))))
    refine Lo uS16n107 (v_const (VVal.int .i64 0) (.inr rfl) rfl) ?_
    refine L_nil (K_seq (B_block ?_))
    refine B_clear (mk 107 162259276829213363391578010287130) (env' := uS16n107) rfl ?_
    refine B_loopE (fun (⟨c, lv, i⟩ : List UInt8 × VVal × Nat) => (raw.getD 3 0).toNat - i) (fun (⟨c, lv, i⟩ : List UInt8 × VVal × Nat) => [(0, fzB c), (8, lv), (9, iI (i : Nat))]) (fun (⟨c, lv, i⟩ : List UInt8 × VVal × Nat) G => (i ≤ (raw.getD 3 0).toNat ∧ c.length ≤ 1000000) ∧ ∃ L v1 v2 X, stP i (raw.drop 4, false) = (L, (c, false)) ∧ G = (H ++ [pqB 0 nilS nilS nilS, pqB 0 nilS nilS nilS, pqB (nB (raw.getD 2 0)) v1 v2 nilS]) ++ X ∧ LV (H.length + 3) 1 X v1 ((L.map (fun x : Stp => x.1)).map iW) (L.map (fun x : Stp => x.1)).length ∧ LV (H.length + 3) 1 X v2 ((L.map (fun x : Stp => x.2.1)).map iI) (L.map (fun x : Stp => x.2.1)).length ∧ LV (H.length + 3) 1 X lv ((L.map (fun x : Stp => x.2.2)).map iI) (L.map (fun x : Stp => x.2.2)).length ∧ Dj v1 v2 ∧ Dj v1 lv ∧ Dj v2 lv) ⟨raw.drop 4, _, 0⟩ rfl ?_ ?_
    ·refine ⟨?_, ⟨[], _, _, [], stP_0 _, (List.append_nil _).symm, LV.nil _ _ _, LV.nil _ _ _, LV.nil _ _ _, Dj.nil _, Dj.nil _, Dj.nil _⟩⟩
     exact ⟨Nat.zero_le _, by rw [List.length_drop]; omega⟩
    rintro ⟨c, lv, i⟩ _ ⟨⟨hi, hcl⟩, ⟨L, v1, v2, X, hst, rfl, l1, l2, l3, d12, d13, d23⟩⟩
    refine B_env (env' := uS16n107) rfl ?_
    refine B_seq (B_seq (B_region ?_))
    refine Lo uS16n107 (v_move (.inl rfl) rfl) ?_
    refine Lo uS16n107 (v_move (.inl rfl) rfl) ?_
    refine Lo uS16n107 (rfl) ?_
    refine L_nil (K_seq ?_)
    refine B_cond _ rfl (fun hc4 => ?_) (fun hc4 => ?_)
    ·try simp only [qB, qN] at hc4
     refine B_skip (K_seq (B_seq (B_block (B_seq (B_seq ?_)))))
     have hL := stP_l2 hst
     refine B_region ?_
     refine Lo uS16n107 (v_move (.inl rfl) rfl) ?_
     refine Lo uS16n107 (rfl) ?_
     refine Lo uS16n107 (rfl) ?_
     refine L_nil (K_seq ?_)
     refine B_cond _ rfl (fun hc5 => ?_) (fun hc5 => ?_)
     ·try simp only [qB, qN] at hc5
      refine B_seq (B_region ?_)
      refine Lo uS16n107 (wS16n0 rfl rfl rfl rfl rfl) ?_
      refine Lo uS16n107 (wS16n1 rfl rfl rfl rfl rfl rfl rfl) ?_
      refine Lo uS16n107 (v_const (VVal.slice none 0 0 true 0) (.inr rfl) rfl) ?_
      refine Lo uS16n107 (v_const (VVal.int .i64 3) (.inr rfl) rfl) ?_
      refine L_nil (K_seq ?_)
      refine B_heap (List.append_assoc _ _ _) ?_
      refine B_gh (Gh.cellNilL 0 1 (es' := 1) rfl rfl) ?_
      refine B_gh (Gh.cellNilL 0 2 (es' := 1) rfl rfl) ?_
      refine B_gh (Gh.cellNilL 0 3 (es' := 3) rfl rfl) ?_
      refine B_gh (Gh.freezeNil 3 (es' := 1) rfl rfl) ?_
      have hbad := bad_in (by omega) hst (by omega) (by omega)
      refine B_ret (K_seqR (K_blkR (K_seqR (K_loopR (K_blkR (K_seqR ?_))))))
      refine wS16n2 (.inr rfl) (vres_cAtt rfl rfl rfl rfl (by first | exact get_app rfl rfl | exact get_out (by assumption) | exact getE0 rfl rfl | exact get_out (get_app rfl rfl) | exact get_app rfl (by assumption) | assumption | (simp only [List.append_assoc, List.singleton_append, List.cons_append, List.nil_append]; refine getE (i := 0) rfl ?_ rfl; simp; done) | (simp only [List.append_assoc, List.singleton_append, List.cons_append, List.nil_append]; refine getE (i := 1) rfl ?_ rfl; simp; done) | (simp only [List.append_assoc, List.singleton_append, List.cons_append, List.nil_append]; refine getE (i := 2) rfl ?_ rfl; simp; done) | (simp only [List.append_assoc, List.singleton_append, List.cons_append, List.nil_append]; refine getE (i := 3) rfl ?_ rfl; simp; done) | (simp [*]; done)) (by first | rfl | assumption | exact fget (α := BitVec 64) 0 (by omega) | exact fget (α := Int) 0 (by omega) | exact fget0 (α := BitVec 64) 0 (by omega) | exact fget0 (α := Int) 0 (by omega) | exact fget (α := Bool) false (by omega) | exact fget0 (α := Bool) false (by omega) | (simp [*]; done)) rfl rfl) ?_
      exact wS16n3
     ·try simp only [qB, qN] at hc5
      refine B_skip (K_seq (B_seq ?_))
      refine B_draw [0, 1, 2, 3, 4, 5, 6, 7, 8] #[0, 1, 0, 4, 12, 28, 63, 127, 255] (by kernel_rfl) (by kernel_rfl) (by kernel_rfl) ?_
      refine Oo uS16n107 .calm rfl (rfl) ?_
      refine O_opI (env' := uS16n107) (x := .look _ _) rfl rfl rfl (wS16n9 rfl rfl rfl rfl) rfl rfl rfl ?_
      refine Oo uS16n107 .calm rfl (v_move (.inl rfl) rfl) ?_
      refine Oo uS16n107 .calm rfl (v_bHi (k := 8) rfl rfl rfl rfl rfl rfl rfl (by omega)) ?_
      refine O_call (env' := uS16n107) rfl rfl rfl rfl rfl (by exact value_spec _ _ (by rw [List.length_take]; omega)) (by first | exact Nat.le_refl _ | simp) rfl rfl ?_
      refine Oo uS16n107 .grow rfl (v_buildSlice rfl rfl (by decide) rfl) ?_
      refine O_opX .turn rfl rfl rfl (v_appXh rfl rfl rfl rfl rfl rfl rfl (by simp) l1 rfl rfl (by decide) (by rw [List.length_map]; show (_ + 1) * 8 ≤ _ ∧ _ + 1 ≤ _; omega) (by decide)) rfl rfl ?_
      rintro _ _ ⟨Y1, rfl, rfl, hY1, hY2, hY3⟩
      refine O_env (env' := uS16n107) rfl ?_
      refine Oo uS16n107 .calm rfl (rfl) ?_
      refine Oo uS16n107 .turn rfl (wS16n1 rfl rfl rfl rfl rfl rfl rfl) ?_
      have l2n := LV.keepN hY3 l2 d12.symm hY2
      have l3n := LV.keepN hY3 l3 d13.symm hY2
      have d12 := (LV.djN hY3 l2).symm
      have d13 := (LV.djN hY3 l3).symm
      have l1 := LV.pushW hY3
      refine O_nil [_] (by rfl) (And.intro (And.intro (wS16n9 rfl rfl rfl rfl) (wS16n9 rfl rfl rfl rfl)) trivial) ?_
      refine K_seq (B_seq ?_)
      refine B_draw [0, 1, 2, 3, 4, 5, 6, 7, 8, 9, 10] #[0, 1, 0, 4, 12, 28, 60, 124, 255, 511, 1023] (by kernel_rfl) (by kernel_rfl) (by kernel_rfl) ?_
      refine Oo uS16n107 .calm rfl (rfl) ?_
      refine Oo uS16n107 .look rfl (wS16n9 rfl rfl rfl rfl) ?_
      refine Oo uS16n107 .calm rfl (v_move (.inl rfl) rfl) ?_
      refine Oo uS16n107 .calm rfl (wS16n4 rfl rfl rfl rfl rfl rfl rfl) ?_
      refine Oo uS16n107 .look rfl (wS16n10 rfl rfl rfl rfl) ?_
      refine Oo uS16n107 .calm rfl (v_cvI rfl rfl rfl rfl rfl (by have h9 := byte_lt (c.getD 8 0); omega)) ?_
      refine Oo uS16n107 .calm rfl (wS16n11 rfl rfl rfl) ?_
      refine Oo uS16n107 .grow rfl (v_buildSlice rfl rfl (by decide) rfl) ?_
      refine O_opX .turn rfl rfl rfl (v_appXh rfl rfl rfl rfl rfl rfl rfl (by simp) l2n rfl rfl (by decide) (by rw [List.length_map]; show (_ + 1) * 8 ≤ _ ∧ _ + 1 ≤ _; omega) (by decide)) rfl rfl ?_
      rintro _ _ ⟨Y1, rfl, rfl, hY1, hY2, hY3⟩
      refine O_env (env' := uS16n107) rfl ?_
      refine Oo uS16n107 .calm rfl (rfl) ?_
      refine Oo uS16n107 .turn rfl (wS16n1 rfl rfl rfl rfl rfl rfl rfl) ?_
      have l1n := LV.keepN hY3 l1 d12 hY2
      have l3m := LV.keepN hY3 l3n d23.symm hY2
      have d12 := LV.djN hY3 l1
      have d23 := (LV.djN hY3 l3n).symm
      have l2m := LV.pushI hY3
      refine O_nil [] (by kernel_rfl) (trivial) ?_
      refine K_seq (B_seq (B_region ?_))
      refine Lo uS16n107 (v_move (.inl rfl) rfl) ?_
      refine Lo uS16n107 (v_move (.inl rfl) rfl) ?_
      refine Lo uS16n107 (wS16n4 rfl rfl rfl rfl rfl rfl rfl) ?_
      refine Lo uS16n107 (wS16n12 rfl rfl rfl rfl) ?_
      refine Lo uS16n107 (v_cvI rfl rfl rfl rfl rfl (by have h9 := byte_lt (c.getD 9 0); omega)) ?_
      refine Lo uS16n107 (v_buildSlice rfl rfl (by decide) rfl) ?_
      refine L_opX rfl rfl (v_appXh rfl rfl rfl rfl rfl rfl rfl (by simp) l3m rfl rfl (by decide) (by rw [List.length_map]; show (_ + 1) * 8 ≤ _ ∧ _ + 1 ≤ _; omega) (by decide)) ?_
      rintro _ _ ⟨Y1, rfl, rfl, hY1, hY2, hY3⟩
      refine Le uS16n107 ?_
      refine Lo uS16n107 (v_move (.inr rfl) rfl) ?_
      have l1m := LV.keepN hY3 l1n d13 hY2
      have l2p := LV.keepN hY3 l2m d23 hY2
      have d13 := LV.djN hY3 l1n
      have d23 := LV.djN hY3 l2m
      have l3p := LV.pushI hY3
      refine L_nil (K_seq (B_region ?_))
      refine Lo uS16n107 (v_move (.inl rfl) rfl) ?_
      refine Lo uS16n107 (v_bLo (k := 10) rfl rfl rfl rfl rfl rfl rfl (by omega)) ?_
      refine Lo uS16n107 (v_move (.inr rfl) rfl) ?_
      refine L_nil (K_blk (K_seq (B_region ?_)))
      refine Lo uS16n107 (v_move (.inl rfl) rfl) ?_
      refine Lo uS16n107 (wS16n13 rfl rfl rfl) ?_
      refine Lo uS16n107 (v_move (.inr rfl) rfl) ?_
      refine L_nil ?_
      refine K_loop (mk 107 162259276829213363391578010287130) (env' := uS16n107) rfl ⟨⟨c.drop 10, _, i + 1⟩, ?_, rfl, ?_⟩
      ·first | omega | (simp only []; omega)
      ·exact ⟨⟨by omega, by rw [List.length_drop]; omega⟩, _, _, _, _, stP_yes hst (by omega), rfl, by rw [stM1]; exact l1m, by rw [stM2]; exact l2p, by rw [stM3]; exact l3p, d12, d13, d23⟩
    ·try simp only [qB, qN] at hc4
     refine B_exit (K_seqX (K_loopX (K_blkX (K_seq (B_seq (B_seq ?_))))))
     obtain rfl : i = (raw.getD 3 0).toNat := by omega
     have hstA := stA_is (by omega) hst
     refine B_region ?_
     refine Lo uS16n107 (v_move (.inl rfl) rfl) ?_
     refine Lo uS16n107 (rfl) ?_
     refine Lo uS16n107 (rfl) ?_
     refine L_nil (K_seq ?_)
     refine B_cond _ rfl (fun hc6 => ?_) (fun hc6 => ?_)
     ·try simp only [qB, qN] at hc6
      refine B_seq (B_region ?_)
      refine Lo uS16n107 (wS16n0 rfl rfl rfl rfl rfl) ?_
      refine Lo uS16n107 (wS16n1 rfl rfl rfl rfl rfl rfl rfl) ?_
      refine Lo uS16n107 (v_const (VVal.slice none 0 0 true 0) (.inr rfl) rfl) ?_
      refine Lo uS16n107 (v_const (VVal.int .i64 3) (.inr rfl) rfl) ?_
      refine L_nil (K_seq ?_)
      refine B_heap (List.append_assoc _ _ _) ?_
      refine B_gh (Gh.cellNilL 0 1 (es' := 1) rfl rfl) ?_
      refine B_gh (Gh.cellNilL 0 2 (es' := 1) rfl rfl) ?_
      refine B_gh (Gh.cellNilL 0 3 (es' := 3) rfl rfl) ?_
      refine B_gh (Gh.freezeNil 3 (es' := 1) rfl rfl) ?_
      have hbad := bad_m (raw := raw) (by rw [hstA]; show c.length < 1; omega)
      refine B_ret (K_seqR ?_)
      refine wS16n2 (.inr rfl) (vres_cAtt rfl rfl rfl rfl (by first | exact get_app rfl rfl | exact get_out (by assumption) | exact getE0 rfl rfl | exact get_out (get_app rfl rfl) | exact get_app rfl (by assumption) | assumption | (simp only [List.append_assoc, List.singleton_append, List.cons_append, List.nil_append]; refine getE (i := 0) rfl ?_ rfl; simp; done) | (simp only [List.append_assoc, List.singleton_append, List.cons_append, List.nil_append]; refine getE (i := 1) rfl ?_ rfl; simp; done) | (simp only [List.append_assoc, List.singleton_append, List.cons_append, List.nil_append]; refine getE (i := 2) rfl ?_ rfl; simp; done) | (simp only [List.append_assoc, List.singleton_append, List.cons_append, List.nil_append]; refine getE (i := 3) rfl ?_ rfl; simp; done) | (simp [*]; done)) (by first | rfl | assumption | exact fget (α := BitVec 64) 0 (by omega) | exact fget (α := Int) 0 (by omega) | exact fget0 (α := BitVec 64) 0 (by omega) | exact fget0 (α := Int) 0 (by omega) | exact fget (α := Bool) false (by omega) | exact fget0 (α := Bool) false (by omega) | (simp [*]; done)) rfl rfl) ?_
      exact wS16n3
     ·try simp only [qB, qN] at hc6
      refine B_skip (K_seq (B_seq ?_))
      refine B_ghCell 2 1 l1 rfl rfl (by simp) fun X1 hX1 hF1 => ?_
      have l2 := LV.keep l2 d12.symm hF1
      have l3 := LV.keep l3 d13.symm hF1
      refine B_ghCell 2 2 l2 rfl rfl (by simp) fun X2 hX2 hF2 => ?_
      have l3 := LV.keep l3 d23.symm hF2
      refine B_ghLVh (env' := uS16n107) 8 l3 (by simp) rfl rfl fun X3 hX3 hF3 => ?_
      rw [← pA_who2 hstA, ← pA_fix2 hstA, ← uA_2 hstA]
      have hbi := bad_iff (by omega) h80 hstA (by omega)
      have hcb := byte_lt (c.getD 0 0)
      refine B_draw [0, 1, 2, 3, 4, 5, 6, 7, 8, 9, 10, 11] #[0, 1, 0, 4, 12, 28, 63, 127, 255, 255, 511, 2047] (by kernel_rfl) (by kernel_rfl) (by kernel_rfl) ?_
      refine Oo uS16n107 .calm rfl (v_move (.inl rfl) rfl) ?_
      refine Oo uS16n107 .calm rfl (v_bLo (k := 1) rfl rfl rfl rfl rfl rfl rfl (by omega)) ?_
      refine Oo uS16n107 .calm rfl (v_move (.inl rfl) rfl) ?_
      refine Oo uS16n107 .calm rfl (wS16n4 rfl rfl rfl rfl rfl rfl rfl) ?_
      refine Oo uS16n107 .look rfl (wS16n5 rfl rfl rfl rfl) ?_
      refine Oo uS16n107 .calm rfl (v_cvI rfl rfl rfl rfl rfl (by have h9 := byte_lt (c.getD 0 0); omega)) ?_
      refine O_call (env' := uS16n107) rfl rfl rfl rfl rfl (by exact frules_spec _ (c.drop 1) (c.getD 0 0).toNat (by rw [List.length_drop]; omega) (by omega)) (by first | exact Nat.le_refl _ | simp) rfl rfl ?_
      refine Oo uS16n107 .calm rfl (v_move (.inl rfl) rfl) ?_
      refine Oo uS16n107 .calm rfl (rfl) ?_
      refine Oo uS16n107 .calm rfl (rfl) ?_
      refine Oo uS16n107 .calm rfl (v_move (.inr rfl) rfl) ?_
      refine Oo uS16n107 .calm rfl (v_move (.inr rfl) rfl) ?_
      refine O_nil [] (by kernel_rfl) (trivial) ?_
      refine K_seq (B_seq (B_region ?_))
      refine Lo uS16n107 (v_move (.inl rfl) rfl) ?_
      refine Lo uS16n107 (rfl) ?_
      refine Lo uS16n107 (wS16n1 rfl rfl rfl rfl rfl rfl rfl) ?_
      refine L_nil (K_seq (B_seq (B_seq (B_region ?_))))
      refine Lo uS16n107 (v_move (.inl rfl) rfl) ?_
      refine Lo uS16n107 (rfl) ?_
      refine Lo uS16n107 (v_move (.inl rfl) rfl) ?_
      refine L_split 93 (env1 := uS16n107) (env2 := uS16n107) rfl rfl rfl (fun hg7 => ?_) (fun hg7 => ?_)
      ·try simp only [qB, qN] at hg7
       refine Lf uS16n107 ?_
       refine Lf uS16n107 ?_
       refine Lf uS16n107 ?_
       refine Lo uS16n107 (v_pickTC (VVal.bool true) rfl rfl rfl) ?_
       refine L_nil (K_seq ?_)
       refine B_true rfl rfl ?_
       refine B_seq (B_region ?_)
       refine Lo uS16n107 (wS16n0 rfl rfl rfl rfl rfl) ?_
       refine Lo uS16n107 (wS16n1 rfl rfl rfl rfl rfl rfl rfl) ?_
       refine Lo uS16n107 (v_const (VVal.slice none 0 0 true 0) (.inr rfl) rfl) ?_
       refine Lo uS16n107 (v_const (VVal.int .i64 3) (.inr rfl) rfl) ?_
       refine L_nil (K_seq ?_)
       refine B_heap (List.append_assoc _ _ _) ?_
       refine B_gh (Gh.cellNilL 0 1 (es' := 1) rfl rfl) ?_
       refine B_gh (Gh.cellNilL 0 2 (es' := 1) rfl rfl) ?_
       refine B_gh (Gh.cellNilL 0 3 (es' := 3) rfl rfl) ?_
       refine B_gh (Gh.freezeNil 3 (es' := 1) rfl rfl) ?_
       have hbad : badA raw = true := by rw [hbi.1, (by assumption : rok (c.getD 0 0).toNat (c.drop 1) = false)]; rfl
       refine B_ret (K_seqR ?_)
       refine wS16n2 (.inr rfl) (vres_cAtt rfl rfl rfl rfl (by first | exact get_app rfl rfl | exact get_out (by assumption) | exact getE0 rfl rfl | exact get_out (get_app rfl rfl) | exact get_app rfl (by assumption) | assumption | (simp only [List.append_assoc, List.singleton_append, List.cons_append, List.nil_append]; refine getE (i := 0) rfl ?_ rfl; simp; done) | (simp only [List.append_assoc, List.singleton_append, List.cons_append, List.nil_append]; refine getE (i := 1) rfl ?_ rfl; simp; done) | (simp only [List.append_assoc, List.singleton_append, List.cons_append, List.nil_append]; refine getE (i := 2) rfl ?_ rfl; simp; done) | (simp only [List.append_assoc, List.singleton_append, List.cons_append, List.nil_append]; refine getE (i := 3) rfl ?_ rfl; simp; done) | (simp [*]; done)) (by first | rfl | assumption | exact fget (α := BitVec 64) 0 (by omega) | exact fget (α := Int) 0 (by omega) | exact fget0 (α := BitVec 64) 0 (by omega) | exact fget0 (α := Int) 0 (by omega) | exact fget (α := Bool) false (by omega) | exact fget0 (α := Bool) false (by omega) | (simp [*]; done)) rfl rfl) ?_
       exact wS16n3
      ·try simp only [qB, qN] at hg7
       have hok : rok (c.getD 0 0).toNat (c.drop 1) = true := by assumption
       refine L_heap (H' := (H ++ [pqB 0 nilS nilS nilS, pqB 0 nilS nilS nilS, VBlk.cells (pbB (pA raw)) true]) ++ X3) (by rw [pA_is (by omega) hstA h80 (by omega) hok]; rfl) ?_
       refine Lo uS16n107 (wS16n0 rfl rfl rfl rfl rfl) ?_
       refine L_call rfl rfl rfl (by exact fpCheck_spec _ (pA raw) (pA_L raw)) ?_
       rintro _ _ ⟨rfl, rfl⟩
       refine Le uS16n107 ?_
       refine Lo uS16n107 (rfl) ?_
       refine Lo uS16n107 (v_pickF rfl rfl rfl) ?_
       refine L_nil (K_seq ?_)
       refine B_cond _ rfl (fun hc8 => ?_) (fun hc8 => ?_)
       ·try simp only [qB, qN] at hc8
        refine B_seq (B_region ?_)
        refine Lo uS16n107 (wS16n0 rfl rfl rfl rfl rfl) ?_
        refine Lo uS16n107 (wS16n1 rfl rfl rfl rfl rfl rfl rfl) ?_
        refine Lo uS16n107 (v_const (VVal.slice none 0 0 true 0) (.inr rfl) rfl) ?_
        refine Lo uS16n107 (v_const (VVal.int .i64 3) (.inr rfl) rfl) ?_
        refine L_nil (K_seq ?_)
        refine B_heap (List.append_assoc _ _ _) ?_
        refine B_gh (Gh.cellNilL 0 1 (es' := 1) rfl rfl) ?_
        refine B_gh (Gh.cellNilL 0 2 (es' := 1) rfl rfl) ?_
        refine B_gh (Gh.cellNilL 0 3 (es' := 3) rfl rfl) ?_
        refine B_gh (Gh.freezeNil 3 (es' := 1) rfl rfl) ?_
        refine B_ret (K_seqR ?_)
        refine wS16n2 (.inr rfl) (vres_cAtt rfl rfl rfl rfl (by first | exact get_app rfl rfl | exact get_out (by assumption) | exact getE0 rfl rfl | exact get_out (get_app rfl rfl) | exact get_app rfl (by assumption) | assumption | (simp only [List.append_assoc, List.singleton_append, List.cons_append, List.nil_append]; refine getE (i := 0) rfl ?_ rfl; simp; done) | (simp only [List.append_assoc, List.singleton_append, List.cons_append, List.nil_append]; refine getE (i := 1) rfl ?_ rfl; simp; done) | (simp only [List.append_assoc, List.singleton_append, List.cons_append, List.nil_append]; refine getE (i := 2) rfl ?_ rfl; simp; done) | (simp only [List.append_assoc, List.singleton_append, List.cons_append, List.nil_append]; refine getE (i := 3) rfl ?_ rfl; simp; done) | (simp [*]; done)) (by first | rfl | assumption | exact fget (α := BitVec 64) 0 (by omega) | exact fget (α := Int) 0 (by omega) | exact fget0 (α := BitVec 64) 0 (by omega) | exact fget0 (α := Int) 0 (by omega) | exact fget (α := Bool) false (by omega) | exact fget0 (α := Bool) false (by omega) | (simp [*]; done)) rfl rfl) ?_
        exact wS16n3
       ·try simp only [qB, qN] at hc8
        refine B_skip (K_seq (B_seq (B_seq ?_)))
        have hb : badA raw = false := by rw [hbi.1, hok]; rfl
        have hpk : pck (pA raw) = 0 := by assumption
        have g : Go.V.Good (pA raw) := pck_good.1 hpk
        refine B_region ?_
        refine Lo uS16n107 (wS16n0 rfl rfl rfl rfl rfl) ?_
        refine Lo uS16n107 (v_move (.inl rfl) rfl) ?_
        refine L_call rfl rfl rfl (by exact fFlaws_spec _ (pA raw) (uA raw) g (pA_L raw).s (by omega)) ?_
        rintro _ _ ⟨rfl, rfl⟩
        refine Le uS16n107 ?_
        refine Lo uS16n107 (rfl) ?_
        refine Lo uS16n107 (rfl) ?_
        refine L_nil (K_seq ?_)
        refine B_cond _ rfl (fun hc9 => ?_) (fun hc9 => ?_)
        ·try simp only [qB, qN] at hc9
         refine B_seq (B_region ?_)
         refine Lo uS16n107 (wS16n0 rfl rfl rfl rfl rfl) ?_
         refine Lo uS16n107 (wS16n1 rfl rfl rfl rfl rfl rfl rfl) ?_
         refine Lo uS16n107 (v_const (VVal.slice none 0 0 true 0) (.inr rfl) rfl) ?_
         refine Lo uS16n107 (v_const (VVal.int .i64 52) (.inr rfl) rfl) ?_
         refine L_nil (K_seq ?_)
         refine B_heap (List.append_assoc _ _ _) ?_
         refine B_gh (Gh.cellNilL 0 1 (es' := 1) rfl rfl) ?_
         refine B_gh (Gh.cellNilL 0 2 (es' := 1) rfl rfl) ?_
         refine B_gh (Gh.cellNilL 0 3 (es' := 3) rfl rfl) ?_
         refine B_gh (Gh.freezeNil 3 (es' := 1) rfl rfl) ?_
         have hne : ¬ flw (pA raw) (uA raw) = [] := List.ne_nil_of_length_pos (by omega)
         refine B_ret (K_seqR ?_)
         refine wS16n2 (.inr rfl) (vres_cAtt rfl rfl rfl rfl (by first | exact get_app rfl rfl | exact get_out (by assumption) | exact getE0 rfl rfl | exact get_out (get_app rfl rfl) | exact get_app rfl (by assumption) | assumption | (simp only [List.append_assoc, List.singleton_append, List.cons_append, List.nil_append]; refine getE (i := 0) rfl ?_ rfl; simp; done) | (simp only [List.append_assoc, List.singleton_append, List.cons_append, List.nil_append]; refine getE (i := 1) rfl ?_ rfl; simp; done) | (simp only [List.append_assoc, List.singleton_append, List.cons_append, List.nil_append]; refine getE (i := 2) rfl ?_ rfl; simp; done) | (simp only [List.append_assoc, List.singleton_append, List.cons_append, List.nil_append]; refine getE (i := 3) rfl ?_ rfl; simp; done) | (simp [*]; done)) (by first | rfl | assumption | exact fget (α := BitVec 64) 0 (by omega) | exact fget (α := Int) 0 (by omega) | exact fget0 (α := BitVec 64) 0 (by omega) | exact fget0 (α := Int) 0 (by omega) | exact fget (α := Bool) false (by omega) | exact fget0 (α := Bool) false (by omega) | (simp [*]; done)) rfl rfl) ?_
         exact wS16n3
        ·try simp only [qB, qN] at hc9
         refine B_skip (K_seq (B_seq (B_region ?_)))
         refine Lo uS16n107 (wS16n0 rfl rfl rfl rfl rfl) ?_
         refine Lo uS16n107 (v_move (.inl rfl) rfl) ?_
         refine Lo uS16n107 (wS16n1 rfl rfl rfl rfl rfl rfl rfl) ?_
         refine Lo uS16n107 (v_move (.inr rfl) rfl) ?_
         refine Lo uS16n107 (v_const (VVal.int .i64 0) (.inr rfl) rfl) ?_
         refine L_nil (K_seq ?_)
         refine B_heap (List.append_assoc _ _ _) ?_
         have hfl : flw (pA raw) (uA raw) = [] := List.eq_nil_of_length_eq_zero (by omega)
         refine B_ret ?_
         refine wS16n2 (.inr rfl) (vres_cAtt rfl rfl rfl rfl (by first | exact get_app rfl rfl | exact get_out (by assumption) | exact getE0 rfl rfl | exact get_out (get_app rfl rfl) | exact get_app rfl (by assumption) | assumption | (simp only [List.append_assoc, List.singleton_append, List.cons_append, List.nil_append]; refine getE (i := 0) rfl ?_ rfl; simp; done) | (simp only [List.append_assoc, List.singleton_append, List.cons_append, List.nil_append]; refine getE (i := 1) rfl ?_ rfl; simp; done) | (simp only [List.append_assoc, List.singleton_append, List.cons_append, List.nil_append]; refine getE (i := 2) rfl ?_ rfl; simp; done) | (simp only [List.append_assoc, List.singleton_append, List.cons_append, List.nil_append]; refine getE (i := 3) rfl ?_ rfl; simp; done) | (simp [*]; done)) (by first | rfl | assumption | exact fget (α := BitVec 64) 0 (by omega) | exact fget (α := Int) 0 (by omega) | exact fget0 (α := BitVec 64) 0 (by omega) | exact fget0 (α := Int) 0 (by omega) | exact fget (α := Bool) false (by omega) | exact fget0 (α := Bool) false (by omega) | (simp [*]; done)) rfl rfl) ?_
         exact wS16n3
end Go.Proofs.Ytbngdhlmggdaaaa.VT
