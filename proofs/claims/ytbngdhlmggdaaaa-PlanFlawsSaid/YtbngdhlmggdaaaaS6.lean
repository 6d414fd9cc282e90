/- the document's rules: walks -/
import Derived.Test.YtbngdhlmggdaaaaS5
set_option autoImplicit false
set_option linter.unusedVariables false
set_option linter.unusedSimpArgs false
set_option maxHeartbeats 4000000
set_option maxRecDepth 100000
namespace Go.Proofs.Ytbngdhlmggdaaaa.VT
open Go Go.V Go.RowKit

abbrev uS6n16 {a0 a1 a2 a3 a4 a5 a6 a7 a8 a9 a10 a11 a12 a13 a14 a15 : VVal} : VEnv := a0 :: a1 :: a2 :: a3 :: a4 :: a5 :: a6 :: a7 :: a8 :: a9 :: a10 :: a11 :: a12 :: a13 :: a14 :: a15 :: []
abbrev uS6n25 {a0 a1 a2 a3 a4 a5 a6 a7 a8 a9 a10 a11 a12 a13 a14 a15 a16 a17 a18 a19 a20 a21 a22 a23 a24 : VVal} : VEnv := a0 :: a1 :: a2 :: a3 :: a4 :: a5 :: a6 :: a7 :: a8 :: a9 :: a10 :: a11 :: a12 :: a13 :: a14 :: a15 :: a16 :: a17 :: a18 :: a19 :: a20 :: a21 :: a22 :: a23 :: a24 :: []
abbrev uS6n31 {a0 a1 a2 a3 a4 a5 a6 a7 a8 a9 a10 a11 a12 a13 a14 a15 a16 a17 a18 a19 a20 a21 a22 a23 a24 a25 a26 a27 a28 a29 a30 : VVal} : VEnv := a0 :: a1 :: a2 :: a3 :: a4 :: a5 :: a6 :: a7 :: a8 :: a9 :: a10 :: a11 :: a12 :: a13 :: a14 :: a15 :: a16 :: a17 :: a18 :: a19 :: a20 :: a21 :: a22 :: a23 :: a24 :: a25 :: a26 :: a27 :: a28 :: a29 :: a30 :: []
abbrev uS6n35 {a0 a1 a2 a3 a4 a5 a6 a7 a8 a9 a10 a11 a12 a13 a14 a15 a16 a17 a18 a19 a20 a21 a22 a23 a24 a25 a26 a27 a28 a29 a30 a31 a32 a33 a34 : VVal} : VEnv := a0 :: a1 :: a2 :: a3 :: a4 :: a5 :: a6 :: a7 :: a8 :: a9 :: a10 :: a11 :: a12 :: a13 :: a14 :: a15 :: a16 :: a17 :: a18 :: a19 :: a20 :: a21 :: a22 :: a23 :: a24 :: a25 :: a26 :: a27 :: a28 :: a29 :: a30 :: a31 :: a32 :: a33 :: a34 :: []
abbrev uS6n42 {a0 a1 a2 a3 a4 a5 a6 a7 a8 a9 a10 a11 a12 a13 a14 a15 a16 a17 a18 a19 a20 a21 a22 a23 a24 a25 a26 a27 a28 a29 a30 a31 a32 a33 a34 a35 a36 a37 a38 a39 a40 a41 : VVal} : VEnv := a0 :: a1 :: a2 :: a3 :: a4 :: a5 :: a6 :: a7 :: a8 :: a9 :: a10 :: a11 :: a12 :: a13 :: a14 :: a15 :: a16 :: a17 :: a18 :: a19 :: a20 :: a21 :: a22 :: a23 :: a24 :: a25 :: a26 :: a27 :: a28 :: a29 :: a30 :: a31 :: a32 :: a33 :: a34 :: a35 :: a36 :: a37 :: a38 :: a39 :: a40 :: a41 :: []
abbrev uS6n52 {a0 a1 a2 a3 a4 a5 a6 a7 a8 a9 a10 a11 a12 a13 a14 a15 a16 a17 a18 a19 a20 a21 a22 a23 a24 a25 a26 a27 a28 a29 a30 a31 a32 a33 a34 a35 a36 a37 a38 a39 a40 a41 a42 a43 a44 a45 a46 a47 a48 a49 a50 a51 : VVal} : VEnv := a0 :: a1 :: a2 :: a3 :: a4 :: a5 :: a6 :: a7 :: a8 :: a9 :: a10 :: a11 :: a12 :: a13 :: a14 :: a15 :: a16 :: a17 :: a18 :: a19 :: a20 :: a21 :: a22 :: a23 :: a24 :: a25 :: a26 :: a27 :: a28 :: a29 :: a30 :: a31 :: a32 :: a33 :: a34 :: a35 :: a36 :: a37 :: a38 :: a39 :: a40 :: a41 :: a42 :: a43 :: a44 :: a45 :: a46 :: a47 :: a48 :: a49 :: a50 :: a51 :: []
abbrev uS6n106 {a0 a1 a2 a3 a4 a5 a6 a7 a8 a9 a10 a11 a12 a13 a14 a15 a16 a17 a18 a19 a20 a21 a22 a23 a24 a25 a26 a27 a28 a29 a30 a31 a32 a33 a34 a35 a36 a37 a38 a39 a40 a41 a42 a43 a44 a45 a46 a47 a48 a49 a50 a51 a52 a53 a54 a55 a56 a57 a58 a59 a60 a61 a62 a63 a64 a65 a66 a67 a68 a69 a70 a71 a72 a73 a74 a75 a76 a77 a78 a79 a80 a81 a82 a83 a84 a85 a86 a87 a88 a89 a90 a91 a92 a93 a94 a95 a96 a97 a98 a99 a100 a101 a102 a103 a104 a105 : VVal} : VEnv := a0 :: a1 :: a2 :: a3 :: a4 :: a5 :: a6 :: a7 :: a8 :: a9 :: a10 :: a11 :: a12 :: a13 :: a14 :: a15 :: a16 :: a17 :: a18 :: a19 :: a20 :: a21 :: a22 :: a23 :: a24 :: a25 :: a26 :: a27 :: a28 :: a29 :: a30 :: a31 :: a32 :: a33 :: a34 :: a35 :: a36 :: a37 :: a38 :: a39 :: a40 :: a41 :: a42 :: a43 :: a44 :: a45 :: a46 :: a47 :: a48 :: a49 :: a50 :: a51 :: a52 :: a53 :: a54 :: a55 :: a56 :: a57 :: a58 :: a59 :: a60 :: a61 :: a62 :: a63 :: a64 :: a65 :: a66 :: a67 :: a68 :: a69 :: a70 :: a71 :: a72 :: a73 :: a74 :: a75 :: a76 :: a77 :: a78 :: a79 :: a80 :: a81 :: a82 :: a83 :: a84 :: a85 :: a86 :: a87 :: a88 :: a89 :: a90 :: a91 :: a92 :: a93 :: a94 :: a95 :: a96 :: a97 :: a98 :: a99 :: a100 :: a101 :: a102 :: a103 :: a104 :: a105 :: []

theorem wS6n0 {T : TypeId → Option VTy} {H : VHeap} {op : Op} {ρ : Operand → VVal} {t : TypeId} {a : Operand} {y : VTy} {p v : VVal} (ho : op = .load t a) (ha : ρ a = p) (hy : T t = some y) (hd : isAggDesc y.desc = false) (h : LdOk H p v := by first | exact .inl ⟨_, _, rfl, by first | rfl | exact fgetN (α := Int) 0 (by omega) | exact fgetP (α := Int) 0 (by omega) (by omega)⟩ | exact .inr ⟨_, _, _, _, rfl, by first | exact get_app rfl rfl | exact get_out (by assumption) | exact getE0 rfl rfl | exact get_out (get_app rfl rfl) | exact get_app rfl (by assumption) | assumption | (simp only [List.append_assoc, List.singleton_append, List.cons_append, List.nil_append]; refine getE (i := 0) rfl ?_ rfl; simp; done) | (simp only [List.append_assoc, List.singleton_append, List.cons_append, List.nil_append]; refine getE (i := 1) rfl ?_ rfl; simp; done) | (simp only [List.append_assoc, List.singleton_append, List.cons_append, List.nil_append]; refine getE (i := 2) rfl ?_ rfl; simp; done) | (simp only [List.append_assoc, List.singleton_append, List.cons_append, List.nil_append]; refine getE (i := 3) rfl ?_ rfl; simp; done) | (simp [*]; done), by first | rfl | exact fgetN (α := Int) 0 (by omega) | exact fgetP (α := Int) 0 (by omega) (by omega)⟩) : vop T ρ H op = some (v, H) := v_ld ho ha hy hd h
theorem wS6n1 {T : TypeId → Option VTy} {H : VHeap} {op : Op} {ρ : Operand → VVal} {t e : TypeId} {x i : Operand} {y z : VTy} {k : IntKind} {n : Int} {p v : VVal} {es : Nat} (ho : op = .indexAddr t x i) (hx : ρ x = p) (hi : ρ i = .int k n) (hy : T t = some y) (hd : y.desc = .slice e) (hz : T e = some z) (hs : z.size = es) (h : IxOk p es n v := by first | exact .inl ⟨_, _, _, rfl, by first | assumption | omega | (simp [*]; done) | (simp at *; omega), rfl⟩ | exact .inr ⟨_, _, _, _, _, rfl, by first | assumption | omega | (simp [*]; done) | (simp at *; omega), rfl⟩) : vop T ρ H op = some (v, H) := v_ix ho hx hi hy hd hz hs h
theorem wS6n2 {T : TypeId → Option VTy} {H : VHeap} {op : Op} {ρ : Operand → VVal} {t ty : TypeId} {x y : Operand} {n m : Int} (ho : op = .binOp .sub t x y ty) (hx : ρ x = .int .i64 n) (hy : ρ y = .int .i64 m) (h : -9223372036854775808 ≤ n - m ∧ n - m < 9223372036854775808 := by first | assumption | omega | (simp [*]; done) | (simp at *; omega)) : vop T ρ H op = some (.int .i64 (n - m), H) := v_subI ho hx hy h
theorem wS6n3 {T : TypeId → Option VTy} {H : VHeap} {op : Op} {ρ : Operand → VVal} {t ty : TypeId} {x y : Operand} {n m : Int} (ho : op = .binOp .add t x y ty) (hx : ρ x = .int .i64 n) (hy : ρ y = .int .i64 m) (h : -9223372036854775808 ≤ n + m ∧ n + m < 9223372036854775808 := by first | assumption | omega | (simp [*]; done) | (simp at *; omega)) : vop T ρ H op = some (.int .i64 (n + m), H) := v_addI ho hx hy h
theorem wS6n4 {T : TypeId → Option VTy} {H : VHeap} {op : Op} {ρ : Operand → VVal} {t e : TypeId} {x i : Operand} {y z : VTy} {k : IntKind} {n : Int} {p v : VVal} {es : Nat} (ho : op = .indexAddr t x i) (hx : ρ x = p) (hi : ρ i = .int k n) (hy : T t = some y) (hd : y.desc = .slice e) (hz : T e = some z) (hs : z.size = es) (h : IxOk p es n v := by first | exact .inl ⟨_, _, _, rfl, by first | assumption | omega | (split <;> omega), rfl⟩ | exact .inr ⟨_, _, _, _, _, rfl, by first | assumption | omega | (split <;> omega), rfl⟩) : vop T ρ H op = some (v, H) := v_ix ho hx hi hy hd hz hs h
theorem wS6n5 {T : TypeId → Option VTy} {H : VHeap} {op : Op} {ρ : Operand → VVal} {t : TypeId} {a : Operand} {y : VTy} {p v : VVal} (ho : op = .load t a) (ha : ρ a = p) (hy : T t = some y) (hd : isAggDesc y.desc = false) (h : LdOk H p v := by first | exact .inl ⟨_, _, rfl, by first | rfl | exact fgetN (α := Int) 0 (by omega)⟩ | exact .inr ⟨_, _, _, _, rfl, by first | exact get_app rfl rfl | exact get_out (by assumption) | exact getE0 rfl rfl | exact get_out (get_app rfl rfl) | exact get_app rfl (by assumption) | assumption | (simp only [List.append_assoc, List.singleton_append, List.cons_append, List.nil_append]; refine getE (i := 0) rfl ?_ rfl; simp; done) | (simp only [List.append_assoc, List.singleton_append, List.cons_append, List.nil_append]; refine getE (i := 1) rfl ?_ rfl; simp; done) | (simp only [List.append_assoc, List.singleton_append, List.cons_append, List.nil_append]; refine getE (i := 2) rfl ?_ rfl; simp; done) | (simp only [List.append_assoc, List.singleton_append, List.cons_append, List.nil_append]; refine getE (i := 3) rfl ?_ rfl; simp; done) | (simp [*]; done), by first | rfl | exact fgetN (α := Int) 0 (by omega)⟩) : vop T ρ H op = some (v, H) := v_ld ho ha hy hd h
theorem wS6n6 {T : TypeId → Option VTy} {H : VHeap} {op : Op} {ρ : Operand → VVal} {t ty : TypeId} {x y : Operand} {n m : Int} (ho : op = .binOp .add t x y ty) (hx : ρ x = .int .i64 n) (hy : ρ y = .int .i64 m) (h : -9223372036854775808 ≤ n + m ∧ n + m < 9223372036854775808 := by first | assumption | omega | (split <;> omega)) : vop T ρ H op = some (.int .i64 (n + m), H) := v_addI ho hx hy h
theorem wS6n7 {T : TypeId → Option VTy} {H : VHeap} {op : Op} {ρ : Operand → VVal} {t : TypeId} {a : Operand} {y : VTy} {p v : VVal} (ho : op = .load t a) (ha : ρ a = p) (hy : T t = some y) (hd : isAggDesc y.desc = false) (h : LdOk H p v := by first | exact .inl ⟨_, _, rfl, by first | rfl | assumption | exact fget (α := BitVec 64) 0 (by omega) | exact fget (α := Int) 0 (by omega) | exact fget0 (α := BitVec 64) 0 (by omega) | exact fget0 (α := Int) 0 (by omega) | exact fget (α := Bool) false (by omega) | exact fget0 (α := Bool) false (by omega) | (simp [*]; done)⟩ | exact .inr ⟨_, _, _, _, rfl, by first | exact get_app rfl rfl | exact get_out (by assumption) | exact getE0 rfl rfl | exact get_out (get_app rfl rfl) | exact get_app rfl (by assumption) | assumption | (simp only [List.append_assoc, List.singleton_append, List.cons_append, List.nil_append]; refine getE (i := 0) rfl ?_ rfl; simp; done) | (simp only [List.append_assoc, List.singleton_append, List.cons_append, List.nil_append]; refine getE (i := 1) rfl ?_ rfl; simp; done) | (simp only [List.append_assoc, List.singleton_append, List.cons_append, List.nil_append]; refine getE (i := 2) rfl ?_ rfl; simp; done) | (simp only [List.append_assoc, List.singleton_append, List.cons_append, List.nil_append]; refine getE (i := 3) rfl ?_ rfl; simp; done) | (simp [*]; done), by first | rfl | assumption | exact fget (α := BitVec 64) 0 (by omega) | exact fget (α := Int) 0 (by omega) | exact fget0 (α := BitVec 64) 0 (by omega) | exact fget0 (α := Int) 0 (by omega) | exact fget (α := Bool) false (by omega) | exact fget0 (α := Bool) false (by omega) | (simp [*]; done)⟩) : vop T ρ H op = some (v, H) := v_ld ho ha hy hd h
theorem wS6n8 {T : TypeId → Option VTy} {H : VHeap} {op : Op} {ρ : Operand → VVal} {t : TypeId} {a : Operand} {y : VTy} {p : VVal} {n : Nat} {vs : List VVal} (ho : op = .load t a) (ha : ρ a = p) (hy : T t = some y) (hd : isAggDesc y.desc = true) (hn : y.size = n) (h : LdOkA H p n vs := by first | exact .inl ⟨_, _, rfl, by first | rfl | assumption | exact fgetN (α := Int) 0 (by omega) | exact fget (α := Int) 0 (by omega)⟩ | exact .inr ⟨_, _, _, _, rfl, by first | exact get_app rfl rfl | exact get_out (by assumption) | exact getE0 rfl rfl | exact get_out (get_app rfl rfl) | exact get_app rfl (by assumption) | assumption | (simp only [List.append_assoc, List.singleton_append, List.cons_append, List.nil_append]; refine getE (i := 0) rfl ?_ rfl; simp; done) | (simp only [List.append_assoc, List.singleton_append, List.cons_append, List.nil_append]; refine getE (i := 1) rfl ?_ rfl; simp; done) | (simp only [List.append_assoc, List.singleton_append, List.cons_append, List.nil_append]; refine getE (i := 2) rfl ?_ rfl; simp; done) | (simp only [List.append_assoc, List.singleton_append, List.cons_append, List.nil_append]; refine getE (i := 3) rfl ?_ rfl; simp; done) | (simp [*]; done), by first | rfl | assumption | exact fgetN (α := Int) 0 (by omega) | exact fget (α := Int) 0 (by omega)⟩) : vop T ρ H op = some (.agg vs, H) := v_ldA ho ha hy hd hn h
theorem wS6n9 {T : TypeId → Option VTy} {H : VHeap} {op : Op} {ρ : Operand → VVal} {t : TypeId} {a : Operand} {y : VTy} {p v : VVal} (ho : op = .load t a) (ha : ρ a = p) (hy : T t = some y) (hd : isAggDesc y.desc = false) (h : LdOk H p v := by first | exact .inl ⟨_, _, rfl, by first | rfl | assumption | exact fgetN (α := Int) 0 (by omega) | exact fget (α := Int) 0 (by omega)⟩ | exact .inr ⟨_, _, _, _, rfl, by first | exact get_app rfl rfl | exact get_out (by assumption) | exact getE0 rfl rfl | exact get_out (get_app rfl rfl) | exact get_app rfl (by assumption) | assumption | (simp only [List.append_assoc, List.singleton_append, List.cons_append, List.nil_append]; refine getE (i := 0) rfl ?_ rfl; simp; done) | (simp only [List.append_assoc, List.singleton_append, List.cons_append, List.nil_append]; refine getE (i := 1) rfl ?_ rfl; simp; done) | (simp only [List.append_assoc, List.singleton_append, List.cons_append, List.nil_append]; refine getE (i := 2) rfl ?_ rfl; simp; done) | (simp only [List.append_assoc, List.singleton_append, List.cons_append, List.nil_append]; refine getE (i := 3) rfl ?_ rfl; simp; done) | (simp [*]; done), by first | rfl | assumption | exact fgetN (α := Int) 0 (by omega) | exact fget (α := Int) 0 (by omega)⟩) : vop T ρ H op = some (v, H) := v_ld ho ha hy hd h
theorem wS6n10 {T : TypeId → Option VTy} {H : VHeap} {op : Op} {ρ : Operand → VVal} {t : TypeId} {a : Operand} {y : VTy} {p : VVal} {n : Nat} {vs : List VVal} (ho : op = .load t a) (ha : ρ a = p) (hy : T t = some y) (hd : isAggDesc y.desc = true) (hn : y.size = n) (h : LdOkA H p n vs := by first | exact .inl ⟨_, _, rfl, by first | rfl | assumption | exact fget (α := BitVec 64) 0 (by omega) | exact fget (α := Int) 0 (by omega) | exact fget0 (α := BitVec 64) 0 (by omega) | exact fget0 (α := Int) 0 (by omega) | exact fget (α := Bool) false (by omega) | exact fget0 (α := Bool) false (by omega) | (simp [*]; done)⟩ | exact .inr ⟨_, _, _, _, rfl, by first | exact get_app rfl rfl | exact get_out (by assumption) | exact getE0 rfl rfl | exact get_out (get_app rfl rfl) | exact get_app rfl (by assumption) | assumption | (simp only [List.append_assoc, List.singleton_append, List.cons_append, List.nil_append]; refine getE (i := 0) rfl ?_ rfl; simp; done) | (simp only [List.append_assoc, List.singleton_append, List.cons_append, List.nil_append]; refine getE (i := 1) rfl ?_ rfl; simp; done) | (simp only [List.append_assoc, List.singleton_append, List.cons_append, List.nil_append]; refine getE (i := 2) rfl ?_ rfl; simp; done) | (simp only [List.append_assoc, List.singleton_append, List.cons_append, List.nil_append]; refine getE (i := 3) rfl ?_ rfl; simp; done) | (simp [*]; done), by first | rfl | assumption | exact fget (α := BitVec 64) 0 (by omega) | exact fget (α := Int) 0 (by omega) | exact fget0 (α := BitVec 64) 0 (by omega) | exact fget0 (α := Int) 0 (by omega) | exact fget (α := Bool) false (by omega) | exact fget0 (α := Bool) false (by omega) | (simp [*]; done)⟩) : vop T ρ H op = some (.agg vs, H) := v_ldA ho ha hy hd hn h
theorem wS6n11 {T : TypeId → Option VTy} {H : VHeap} {op : Op} {ρ : Operand → VVal} {t : TypeId} {a : Operand} {y : VTy} {p : VVal} {n : Nat} {vs : List VVal} (ho : op = .load t a) (ha : ρ a = p) (hy : T t = some y) (hd : isAggDesc y.desc = true) (hn : y.size = n) (h : LdOkA H p n vs := by first | exact .inl ⟨_, _, rfl, by first | rfl | assumption | exact rul_at (by omega)⟩ | exact .inr ⟨_, _, _, _, rfl, by first | exact get_app rfl rfl | exact get_out (by assumption) | exact getE0 rfl rfl | exact get_out (get_app rfl rfl) | exact get_app rfl (by assumption) | assumption | (simp only [List.append_assoc, List.singleton_append, List.cons_append, List.nil_append]; refine getE (i := 0) rfl ?_ rfl; simp; done) | (simp only [List.append_assoc, List.singleton_append, List.cons_append, List.nil_append]; refine getE (i := 1) rfl ?_ rfl; simp; done) | (simp only [List.append_assoc, List.singleton_append, List.cons_append, List.nil_append]; refine getE (i := 2) rfl ?_ rfl; simp; done) | (simp only [List.append_assoc, List.singleton_append, List.cons_append, List.nil_append]; refine getE (i := 3) rfl ?_ rfl; simp; done) | (simp [*]; done), by first | rfl | assumption | exact rul_at (by omega)⟩) : vop T ρ H op = some (.agg vs, H) := v_ldA ho ha hy hd hn h

/-! the document's rules -/
theorem fgetP {α : Type} {f : α → VVal} {l : List α} {k : Nat} (d : α) (h0 : 0 < k) (h : k ≤ l.length) : (l.map f)[((k : Int) - 1).toNat * 1]? = some (f (l.getD (k - 1) d)) := by
  have := fgetN (f := f) (l := l) (k := k - 1) d (by omega)
  rw [Int.toNat_natCast] at this
  rw [show ((k : Int) - 1).toNat = k - 1 by omega]; exact this
theorem lst1_prev {l : List Int} {k : Nat} (h0 : 0 < k) (h : k ≤ l.length) : lst1 (-1) (l.take k) = l.getD (k - 1) 0 := by
  have := rise_last (l := l) (k := k - 1) (by omega)
  rwa [show k - 1 + 1 = k by omega] at this
theorem lst1_0 {l : List Int} {k : Nat} (h0 : k = 0) : lst1 (-1) (l.take k) = -1 := by subst h0; rfl
theorem lst1_m {n : Int} {l : List Int} (h : rise n l = true) : -1 ≤ lst1 (-1) l := lst1_ge _ _ h
theorem rck_r {n : Int} {r : Rul} (h : 0 ≤ n ∧ n ≤ 12) (h2 : rise n r.steps = true) : rck n r = knd r := by unfold rck; rw [decide_eq_true h, h2]; rfl
theorem knd_f {r : Rul} (h : 3 ≤ r.kind ∧ r.kind ≤ 5) (h2 : r.k < 1 ∨ 999999999 < r.k ∨ r.steps.length < 1) (hl : r.steps.length ≤ 1000000) : knd r = false := by
  by_cases h5 : r.kind = 5
  · rw [knd_c h5]; exact decide_eq_false (by omega)
  · rw [knd_b (by omega)]; exact decide_eq_false (by omega)
theorem uq_step {l : List Int} {k : Nat} (h : k < l.length) : ((uq (l.take (k + 1)) : Nat) : Int) = (uq (l.take k) : Nat) + (if l.getD k 0 ∈ l.take k then (0 : Int) else 1) := by
  rw [take_at (d := 0) h, uq_app]; split <;> simp
theorem mem_step {l : List Int} {k : Nat} {x : Int} (h : k < l.length) : (x ∈ l.take (k + 1)) ↔ (x ∈ l.take k ∨ l.getD k 0 = x) := by
  rw [take_at (d := 0) h, List.mem_append, List.mem_singleton]
  constructor
  · rintro (h | h)
    · exact .inl h
    · exact .inr h.symm
  · rintro (h | h)
    · exact .inl h
    · exact .inr h.symm
abbrev oftK (l : List Int) (k : Nat) : Nat := mxL ((l.take k).map fun y => l.count y)
theorem oftK_step {l : List Int} {k : Nat} (h : k < l.length) : oftK l (k + 1) = max (oftK l k) (l.count (l.getD k 0)) := by
  unfold oftK; rw [take_at (d := 0) h, List.map_append, List.map_singleton, mxL_app]
theorem oftK_all {l : List Int} {k : Nat} (h : l.length ≤ k) : oftK l k = oft l := by unfold oftK; rw [List.take_of_length_le h]; rfl
theorem cnt_step {l : List Int} {k : Nat} {x : Int} (h : k < l.length) : (l.take (k + 1)).count x = (l.take k).count x + if l.getD k 0 = x then 1 else 0 := by
  rw [take_at (d := 0) h, List.count_append, List.count_singleton]
  by_cases e : l.getD k 0 = x <;> simp [e]
theorem cnt_le {l : List Int} {k : Nat} {x : Int} : (l.take k).count x ≤ k := Nat.le_trans List.count_le_length (by rw [List.length_take]; omega)

theorem fCheck_spec {x : SW} (H : VHeap) (n : Int) (r : Rul) (hl : r.steps.length ≤ 1000000) : F (psys x) 56 [iI n, .agg (rlB r)] H fun v G => v = .bool (rck n r) ∧ G = H := by
 refine F_body Try.func56 rfl uS6n106 rfl ?_
 refine B_seq (B_region ?_)
 refine L_op (env' := uS6n106) rfl rfl (v_boxT rfl rfl rfl) rfl ?_
 refine L_op (env' := uS6n106) rfl rfl (v_const (VVal.bool false) (.inr rfl) rfl) rfl ?_
 refine L_nil (K_seq (B_seq (B_seq (B_region ?_))))
 refine L_op (env' := uS6n106) rfl rfl (v_move (.inl rfl) rfl) rfl ?_
 refine L_op (env' := uS6n106) rfl rfl (rfl) rfl ?_
 refine L_op (env' := uS6n106) rfl rfl (v_move (.inl rfl) rfl) rfl ?_
 refine L_split 8 (env1 := uS6n106) (env2 := uS6n106) rfl rfl rfl (fun hg1 => ?_) (fun hg1 => ?_)
 ·try simp only [qB, qN] at hg1
  refine L_off (env' := uS6n106) rfl rfl ?_
  refine L_off (env' := uS6n106) rfl rfl ?_
  refine L_op (env' := uS6n106) rfl rfl (v_pickTC (VVal.bool true) rfl rfl rfl) rfl ?_
  refine L_op (env' := uS6n106) rfl rfl (v_move (.inl rfl) rfl) rfl ?_
  refine L_off (env' := uS6n106) rfl rfl ?_
  refine L_off (env' := uS6n106) rfl rfl ?_
  refine L_off (env' := uS6n106) rfl rfl ?_
  refine L_op (env' := uS6n106) rfl rfl (v_pickTC (VVal.bool true) rfl rfl rfl) rfl ?_
  refine L_op (env' := uS6n106) rfl rfl (v_move (.inl rfl) rfl) rfl ?_
  refine L_off (env' := uS6n106) rfl rfl ?_
  refine L_off (env' := uS6n106) rfl rfl ?_
  refine L_off (env' := uS6n106) rfl rfl ?_
  refine L_op (env' := uS6n106) rfl rfl (v_pickTC (VVal.bool true) rfl rfl rfl) rfl ?_
  refine L_nil (K_seq ?_)
  refine B_true rfl rfl ?_
  refine B_seq (B_region ?_)
  refine L_op (env' := uS6n106) rfl rfl (v_const (VVal.bool false) (.inr rfl) rfl) rfl ?_
  refine L_nil (K_seq (B_ret (K_seqR ?_)))
  refine E_app (.inr rfl) (vres_tmp rfl rfl) (by first | exact BaseOk.refl _ | exact BaseOk.set (BaseOk.refl _) _ rfl) (by first | rfl | simp [VVal.under, VVal.underL, *]) ?_
  first
    | exact ⟨by rw [rck_fit (by omega)], rfl⟩
    | exact ⟨by rw [rck_knd (knd_d (by omega))], rfl⟩
    | exact ⟨by rw [rck_r (by omega) hrs, knd_f (by omega) (by omega) hl], rfl⟩
    | exact ⟨by rw [rck_rise (rise_bad (k := k) (by omega) (by have h9 := lst1_m hr; first | omega | (have h8 := lst1_prev (l := r.steps) (k := k) (by omega) (by omega); omega)))], rfl⟩
    | exact ⟨congrArg VVal.bool (by rw [rck_r (by omega) hrs, knd_a (by omega)]; first | exact decide_eq_decide.2 (by omega) | exact (decide_eq_false (by omega)).symm | exact (decide_eq_true (by omega)).symm), rfl⟩
    | exact ⟨congrArg VVal.bool (by rw [rck_r (by omega) hrs, knd_b (by omega)]; first | exact decide_eq_decide.2 (by omega) | exact (decide_eq_false (by omega)).symm | exact (decide_eq_true (by omega)).symm), rfl⟩
    | exact ⟨congrArg VVal.bool (by rw [rck_r (by omega) hrs, knd_c (by omega)]; first | exact decide_eq_decide.2 (by omega) | exact (decide_eq_false (by omega)).symm | exact (decide_eq_true (by omega)).symm), rfl⟩
 ·try simp only [qB, qN] at hg1
  refine L_op (env' := uS6n106) rfl rfl (v_move (.inl rfl) rfl) rfl ?_
  refine L_op (env' := uS6n106) rfl rfl (rfl) rfl ?_
  refine L_op (env' := uS6n106) rfl rfl (v_pickF rfl rfl rfl) rfl ?_
  refine L_op (env' := uS6n106) rfl rfl (v_move (.inl rfl) rfl) rfl ?_
  refine L_split 12 (env1 := uS6n106) (env2 := uS6n106) rfl rfl rfl (fun hg2 => ?_) (fun hg2 => ?_)
  ·try simp only [qB, qN] at hg2
   refine L_off (env' := uS6n106) rfl rfl ?_
   refine L_off (env' := uS6n106) rfl rfl ?_
   refine L_off (env' := uS6n106) rfl rfl ?_
   refine L_op (env' := uS6n106) rfl rfl (v_pickTC (VVal.bool true) rfl rfl rfl) rfl ?_
   refine L_op (env' := uS6n106) rfl rfl (v_move (.inl rfl) rfl) rfl ?_
   refine L_off (env' := uS6n106) rfl rfl ?_
   refine L_off (env' := uS6n106) rfl rfl ?_
   refine L_off (env' := uS6n106) rfl rfl ?_
   refine L_op (env' := uS6n106) rfl rfl (v_pickTC (VVal.bool true) rfl rfl rfl) rfl ?_
   refine L_nil (K_seq ?_)
   refine B_true rfl rfl ?_
   refine B_seq (B_region ?_)
   refine L_op (env' := uS6n106) rfl rfl (v_const (VVal.bool false) (.inr rfl) rfl) rfl ?_
   refine L_nil (K_seq (B_ret (K_seqR ?_)))
   refine E_app (.inr rfl) (vres_tmp rfl rfl) (by first | exact BaseOk.refl _ | exact BaseOk.set (BaseOk.refl _) _ rfl) (by first | rfl | simp [VVal.under, VVal.underL, *]) ?_
   first
     | exact ⟨by rw [rck_fit (by omega)], rfl⟩
     | exact ⟨by rw [rck_knd (knd_d (by omega))], rfl⟩
     | exact ⟨by rw [rck_r (by omega) hrs, knd_f (by omega) (by omega) hl], rfl⟩
     | exact ⟨by rw [rck_rise (rise_bad (k := k) (by omega) (by have h9 := lst1_m hr; first | omega | (have h8 := lst1_prev (l := r.steps) (k := k) (by omega) (by omega); omega)))], rfl⟩
     | exact ⟨congrArg VVal.bool (by rw [rck_r (by omega) hrs, knd_a (by omega)]; first | exact decide_eq_decide.2 (by omega) | exact (decide_eq_false (by omega)).symm | exact (decide_eq_true (by omega)).symm), rfl⟩
     | exact ⟨congrArg VVal.bool (by rw [rck_r (by omega) hrs, knd_b (by omega)]; first | exact decide_eq_decide.2 (by omega) | exact (decide_eq_false (by omega)).symm | exact (decide_eq_true (by omega)).symm), rfl⟩
     | exact ⟨congrArg VVal.bool (by rw [rck_r (by omega) hrs, knd_c (by omega)]; first | exact decide_eq_decide.2 (by omega) | exact (decide_eq_false (by omega)).symm | exact (decide_eq_true (by omega)).symm), rfl⟩
  ·try simp only [qB, qN] at hg2
   refine L_op (env' := uS6n106) rfl rfl (rfl) rfl ?_
   refine L_op (env' := uS6n106) rfl rfl (wS6n0 rfl rfl rfl rfl) rfl ?_
   refine L_op (env' := uS6n106) rfl rfl (rfl) rfl ?_
   refine L_op (env' := uS6n106) rfl rfl (v_pickF rfl rfl rfl) rfl ?_
   refine L_op (env' := uS6n106) rfl rfl (v_move (.inl rfl) rfl) rfl ?_
   refine L_split 17 (env1 := uS6n106) (env2 := uS6n106) rfl rfl rfl (fun hg3 => ?_) (fun hg3 => ?_)
   ·try simp only [qB, qN] at hg3
    refine L_off (env' := uS6n106) rfl rfl ?_
    refine L_off (env' := uS6n106) rfl rfl ?_
    refine L_off (env' := uS6n106) rfl rfl ?_
    refine L_op (env' := uS6n106) rfl rfl (v_pickTC (VVal.bool true) rfl rfl rfl) rfl ?_
    refine L_nil (K_seq ?_)
    refine B_true rfl rfl ?_
    refine B_seq (B_region ?_)
    refine L_op (env' := uS6n106) rfl rfl (v_const (VVal.bool false) (.inr rfl) rfl) rfl ?_
    refine L_nil (K_seq (B_ret (K_seqR ?_)))
    refine E_app (.inr rfl) (vres_tmp rfl rfl) (by first | exact BaseOk.refl _ | exact BaseOk.set (BaseOk.refl _) _ rfl) (by first | rfl | simp [VVal.under, VVal.underL, *]) ?_
    first
      | exact ⟨by rw [rck_fit (by omega)], rfl⟩
      | exact ⟨by rw [rck_knd (knd_d (by omega))], rfl⟩
      | exact ⟨by rw [rck_r (by omega) hrs, knd_f (by omega) (by omega) hl], rfl⟩
      | exact ⟨by rw [rck_rise (rise_bad (k := k) (by omega) (by have h9 := lst1_m hr; first | omega | (have h8 := lst1_prev (l := r.steps) (k := k) (by omega) (by omega); omega)))], rfl⟩
      | exact ⟨congrArg VVal.bool (by rw [rck_r (by omega) hrs, knd_a (by omega)]; first | exact decide_eq_decide.2 (by omega) | exact (decide_eq_false (by omega)).symm | exact (decide_eq_true (by omega)).symm), rfl⟩
      | exact ⟨congrArg VVal.bool (by rw [rck_r (by omega) hrs, knd_b (by omega)]; first | exact decide_eq_decide.2 (by omega) | exact (decide_eq_false (by omega)).symm | exact (decide_eq_true (by omega)).symm), rfl⟩
      | exact ⟨congrArg VVal.bool (by rw [rck_r (by omega) hrs, knd_c (by omega)]; first | exact decide_eq_decide.2 (by omega) | exact (decide_eq_false (by omega)).symm | exact (decide_eq_true (by omega)).symm), rfl⟩
   ·try simp only [qB, qN] at hg3
    refine L_op (env' := uS6n106) rfl rfl (rfl) rfl ?_
    refine L_op (env' := uS6n106) rfl rfl (wS6n0 rfl rfl rfl rfl) rfl ?_
    refine L_op (env' := uS6n106) rfl rfl (rfl) rfl ?_
    refine L_op (env' := uS6n106) rfl rfl (v_pickF rfl rfl rfl) rfl ?_
    refine L_nil (K_seq ?_)
    refine B_cond _ rfl (fun hc4 => ?_) (fun hc4 => ?_)
    ·try simp only [qB, qN] at hc4
     refine B_seq (B_region ?_)
     refine L_op (env' := uS6n106) rfl rfl (v_const (VVal.bool false) (.inr rfl) rfl) rfl ?_
     refine L_nil (K_seq (B_ret (K_seqR ?_)))
     refine E_app (.inr rfl) (vres_tmp rfl rfl) (by first | exact BaseOk.refl _ | exact BaseOk.set (BaseOk.refl _) _ rfl) (by first | rfl | simp [VVal.under, VVal.underL, *]) ?_
     first
       | exact ⟨by rw [rck_fit (by omega)], rfl⟩
       | exact ⟨by rw [rck_knd (knd_d (by omega))], rfl⟩
       | exact ⟨by rw [rck_r (by omega) hrs, knd_f (by omega) (by omega) hl], rfl⟩
       | exact ⟨by rw [rck_rise (rise_bad (k := k) (by omega) (by have h9 := lst1_m hr; first | omega | (have h8 := lst1_prev (l := r.steps) (k := k) (by omega) (by omega); omega)))], rfl⟩
       | exact ⟨congrArg VVal.bool (by rw [rck_r (by omega) hrs, knd_a (by omega)]; first | exact decide_eq_decide.2 (by omega) | exact (decide_eq_false (by omega)).symm | exact (decide_eq_true (by omega)).symm), rfl⟩
       | exact ⟨congrArg VVal.bool (by rw [rck_r (by omega) hrs, knd_b (by omega)]; first | exact decide_eq_decide.2 (by omega) | exact (decide_eq_false (by omega)).symm | exact (decide_eq_true (by omega)).symm), rfl⟩
       | exact ⟨congrArg VVal.bool (by rw [rck_r (by omega) hrs, knd_c (by omega)]; first | exact decide_eq_decide.2 (by omega) | exact (decide_eq_false (by omega)).symm | exact (decide_eq_true (by omega)).symm), rfl⟩
    ·try simp only [qB, qN] at hc4
     refine B_skip (K_seq (B_seq (B_seq (B_region ?_))))
     refine L_op (env' := uS6n106) rfl rfl (v_const (VVal.int .i64 0) (.inr rfl) rfl) rfl ?_
     refine L_nil (K_seq (B_block ?_))
     refine B_clear (mk 106 81129638414606681695789005144022) (env' := uS6n106) rfl ?_
     refine B_loopE (fun (k : Nat) => r.steps.length - k) (fun (k : Nat) => [(5, iI (k : Nat))]) (fun (k : Nat) G => (k ≤ r.steps.length ∧ rise n (r.steps.take k) = true) ∧ G = H ++ [.cells (rlB r) true]) 0 rfl ?_ ?_
     ·refine ⟨?_, rfl⟩
      exact ⟨Nat.zero_le _, rfl⟩
     rintro k _ ⟨⟨hk, hr⟩, rfl⟩
     refine B_env (env' := uS6n106) rfl ?_
     refine B_seq (B_seq (B_region ?_))
     refine L_op (env' := uS6n106) rfl rfl (v_move (.inl rfl) rfl) rfl ?_
     refine L_op (env' := uS6n106) rfl rfl (rfl) rfl ?_
     refine L_op (env' := uS6n106) rfl rfl (wS6n0 rfl rfl rfl rfl) rfl ?_
     refine L_op (env' := uS6n106) rfl rfl (rfl) rfl ?_
     refine L_op (env' := uS6n106) rfl rfl (rfl) rfl ?_
     refine L_nil (K_seq ?_)
     refine B_cond _ rfl (fun hc5 => ?_) (fun hc5 => ?_)
     ·try simp only [qB, qN] at hc5
      refine B_skip (K_seq (B_seq (B_block (B_seq ?_))))
      refine B_draw [0, 1, 2, 3, 4, 5, 6, 7, 8, 9, 10, 11, 12, 13, 14, 15, 16, 17, 18, 19, 20, 21, 22, 23, 24, 25, 26, 27, 28, 29, 30, 31, 32] #[0, 1, 0, 7, 15, 31, 63, 127, 255, 127, 1023, 2047, 127, 8191, 16383, 32767, 65535, 131071, 262143, 524287, 1048575, 524287, 2621439, 8388607, 16777215, 524287, 34078719, 524287, 235405311, 503840767, 1073741823, 2147483647, 4294967295] (by kernel_rfl) (by kernel_rfl) (by kernel_rfl) ?_
      refine O_op (env' := uS6n106) (c := .calm) rfl rfl rfl (rfl) rfl rfl rfl ?_
      refine O_op (env' := uS6n106) (c := .look) rfl rfl rfl (wS6n0 rfl rfl rfl rfl) rfl rfl rfl ?_
      refine O_op (env' := uS6n106) (c := .calm) rfl rfl rfl (v_move (.inl rfl) rfl) rfl rfl rfl ?_
      refine O_op (env' := uS6n106) (c := .calm) rfl rfl rfl (wS6n1 rfl rfl rfl rfl rfl rfl rfl) rfl rfl rfl ?_
      refine O_op (env' := uS6n106) (c := .look) rfl rfl rfl (wS6n0 rfl rfl rfl rfl) rfl rfl rfl ?_
      refine O_op (env' := uS6n106) (c := .calm) rfl rfl rfl (rfl) rfl rfl rfl ?_
      refine O_op (env' := uS6n106) (c := .calm) rfl rfl rfl (v_move (.inl rfl) rfl) rfl rfl rfl ?_
      refine O_split 35 (env1 := uS6n106) (env2 := uS6n106) rfl rfl rfl (fun hg6 => ?_) (fun hg6 => ?_)
      ·try simp only [qB, qN] at hg6
       refine O_off (env' := uS6n106) rfl rfl rfl rfl ?_
       refine O_off (env' := uS6n106) rfl rfl rfl rfl ?_
       refine O_off (env' := uS6n106) rfl rfl rfl rfl ?_
       refine O_off (env' := uS6n106) rfl rfl rfl rfl ?_
       refine O_off (env' := uS6n106) rfl rfl rfl rfl ?_
       refine O_off (env' := uS6n106) rfl rfl rfl rfl ?_
       refine O_off (env' := uS6n106) rfl rfl rfl rfl ?_
       refine O_op (env' := uS6n106) (c := .calm) rfl rfl rfl (v_pickTC (VVal.bool true) rfl rfl rfl) rfl rfl rfl ?_
       refine O_op (env' := uS6n106) (c := .calm) rfl rfl rfl (v_move (.inl rfl) rfl) rfl rfl rfl ?_
       refine O_off (env' := uS6n106) rfl rfl rfl rfl ?_
       refine O_off (env' := uS6n106) rfl rfl rfl rfl ?_
       refine O_off (env' := uS6n106) rfl rfl rfl rfl ?_
       refine O_off (env' := uS6n106) rfl rfl rfl rfl ?_
       refine O_off (env' := uS6n106) rfl rfl rfl rfl ?_
       refine O_off (env' := uS6n106) rfl rfl rfl rfl ?_
       refine O_off (env' := uS6n106) rfl rfl rfl rfl ?_
       refine O_off (env' := uS6n106) rfl rfl rfl rfl ?_
       refine O_off (env' := uS6n106) rfl rfl rfl rfl ?_
       refine O_off (env' := uS6n106) rfl rfl rfl rfl ?_
       refine O_off (env' := uS6n106) rfl rfl rfl rfl ?_
       refine O_off (env' := uS6n106) rfl rfl rfl rfl ?_
       refine O_off (env' := uS6n106) rfl rfl rfl rfl ?_
       refine O_off (env' := uS6n106) rfl rfl rfl rfl ?_
       refine O_off (env' := uS6n106) rfl rfl rfl rfl ?_
       refine O_off (env' := uS6n106) rfl rfl rfl rfl ?_
       refine O_op (env' := uS6n106) (c := .calm) rfl rfl rfl (v_pickTC (VVal.bool true) rfl rfl rfl) rfl rfl rfl ?_
       refine O_nil [] (by kernel_rfl) (trivial) ?_
       refine K_seq ?_
       refine B_true rfl rfl ?_
       refine B_seq (B_region ?_)
       refine L_op (env' := uS6n106) rfl rfl (v_const (VVal.bool false) (.inr rfl) rfl) rfl ?_
       refine L_nil (K_seq (B_ret (K_blkR (K_seqR (K_loopR (K_blkR (K_seqR ?_)))))))
       refine E_app (.inr rfl) (vres_tmp rfl rfl) (by first | exact BaseOk.refl _ | exact BaseOk.set (BaseOk.refl _) _ rfl) (by first | rfl | simp [VVal.under, VVal.underL, *]) ?_
       first
         | exact ⟨by rw [rck_fit (by omega)], rfl⟩
         | exact ⟨by rw [rck_knd (knd_d (by omega))], rfl⟩
         | exact ⟨by rw [rck_r (by omega) hrs, knd_f (by omega) (by omega) hl], rfl⟩
         | exact ⟨by rw [rck_rise (rise_bad (k := k) (by omega) (by have h9 := lst1_m hr; first | omega | (have h8 := lst1_prev (l := r.steps) (k := k) (by omega) (by omega); omega)))], rfl⟩
         | exact ⟨congrArg VVal.bool (by rw [rck_r (by omega) hrs, knd_a (by omega)]; first | exact decide_eq_decide.2 (by omega) | exact (decide_eq_false (by omega)).symm | exact (decide_eq_true (by omega)).symm), rfl⟩
         | exact ⟨congrArg VVal.bool (by rw [rck_r (by omega) hrs, knd_b (by omega)]; first | exact decide_eq_decide.2 (by omega) | exact (decide_eq_false (by omega)).symm | exact (decide_eq_true (by omega)).symm), rfl⟩
         | exact ⟨congrArg VVal.bool (by rw [rck_r (by omega) hrs, knd_c (by omega)]; first | exact decide_eq_decide.2 (by omega) | exact (decide_eq_false (by omega)).symm | exact (decide_eq_true (by omega)).symm), rfl⟩
      ·try simp only [qB, qN] at hg6
       refine O_op (env' := uS6n106) (c := .calm) rfl rfl rfl (rfl) rfl rfl rfl ?_
       refine O_op (env' := uS6n106) (c := .look) rfl rfl rfl (wS6n0 rfl rfl rfl rfl) rfl rfl rfl ?_
       refine O_op (env' := uS6n106) (c := .calm) rfl rfl rfl (v_move (.inl rfl) rfl) rfl rfl rfl ?_
       refine O_op (env' := uS6n106) (c := .calm) rfl rfl rfl (wS6n1 rfl rfl rfl rfl rfl rfl rfl) rfl rfl rfl ?_
       refine O_op (env' := uS6n106) (c := .look) rfl rfl rfl (wS6n0 rfl rfl rfl rfl) rfl rfl rfl ?_
       refine O_op (env' := uS6n106) (c := .calm) rfl rfl rfl (v_move (.inl rfl) rfl) rfl rfl rfl ?_
       refine O_op (env' := uS6n106) (c := .calm) rfl rfl rfl (rfl) rfl rfl rfl ?_
       refine O_op (env' := uS6n106) (c := .calm) rfl rfl rfl (v_pickF rfl rfl rfl) rfl rfl rfl ?_
       refine O_op (env' := uS6n106) (c := .calm) rfl rfl rfl (v_move (.inl rfl) rfl) rfl rfl rfl ?_
       refine O_split 44 (env1 := uS6n106) (env2 := uS6n106) rfl rfl rfl (fun hg7 => ?_) (fun hg7 => ?_)
       ·try simp only [qB, qN] at hg7
        refine O_off (env' := uS6n106) rfl rfl rfl rfl ?_
        refine O_off (env' := uS6n106) rfl rfl rfl rfl ?_
        refine O_off (env' := uS6n106) rfl rfl rfl rfl ?_
        refine O_off (env' := uS6n106) rfl rfl rfl rfl ?_
        refine O_off (env' := uS6n106) rfl rfl rfl rfl ?_
        refine O_off (env' := uS6n106) rfl rfl rfl rfl ?_
        refine O_off (env' := uS6n106) rfl rfl rfl rfl ?_
        refine O_off (env' := uS6n106) rfl rfl rfl rfl ?_
        refine O_off (env' := uS6n106) rfl rfl rfl rfl ?_
        refine O_off (env' := uS6n106) rfl rfl rfl rfl ?_
        refine O_off (env' := uS6n106) rfl rfl rfl rfl ?_
        refine O_off (env' := uS6n106) rfl rfl rfl rfl ?_
        refine O_off (env' := uS6n106) rfl rfl rfl rfl ?_
        refine O_off (env' := uS6n106) rfl rfl rfl rfl ?_
        refine O_off (env' := uS6n106) rfl rfl rfl rfl ?_
        refine O_off (env' := uS6n106) rfl rfl rfl rfl ?_
        refine O_op (env' := uS6n106) (c := .calm) rfl rfl rfl (v_pickTC (VVal.bool true) rfl rfl rfl) rfl rfl rfl ?_
        refine O_nil [] (by kernel_rfl) (trivial) ?_
        refine K_seq ?_
        refine B_true rfl rfl ?_
        refine B_seq (B_region ?_)
        refine L_op (env' := uS6n106) rfl rfl (v_const (VVal.bool false) (.inr rfl) rfl) rfl ?_
        refine L_nil (K_seq (B_ret (K_blkR (K_seqR (K_loopR (K_blkR (K_seqR ?_)))))))
        refine E_app (.inr rfl) (vres_tmp rfl rfl) (by first | exact BaseOk.refl _ | exact BaseOk.set (BaseOk.refl _) _ rfl) (by first | rfl | simp [VVal.under, VVal.underL, *]) ?_
        first
          | exact ⟨by rw [rck_fit (by omega)], rfl⟩
          | exact ⟨by rw [rck_knd (knd_d (by omega))], rfl⟩
          | exact ⟨by rw [rck_r (by omega) hrs, knd_f (by omega) (by omega) hl], rfl⟩
          | exact ⟨by rw [rck_rise (rise_bad (k := k) (by omega) (by have h9 := lst1_m hr; first | omega | (have h8 := lst1_prev (l := r.steps) (k := k) (by omega) (by omega); omega)))], rfl⟩
          | exact ⟨congrArg VVal.bool (by rw [rck_r (by omega) hrs, knd_a (by omega)]; first | exact decide_eq_decide.2 (by omega) | exact (decide_eq_false (by omega)).symm | exact (decide_eq_true (by omega)).symm), rfl⟩
          | exact ⟨congrArg VVal.bool (by rw [rck_r (by omega) hrs, knd_b (by omega)]; first | exact decide_eq_decide.2 (by omega) | exact (decide_eq_false (by omega)).symm | exact (decide_eq_true (by omega)).symm), rfl⟩
          | exact ⟨congrArg VVal.bool (by rw [rck_r (by omega) hrs, knd_c (by omega)]; first | exact decide_eq_decide.2 (by omega) | exact (decide_eq_false (by omega)).symm | exact (decide_eq_true (by omega)).symm), rfl⟩
       ·try simp only [qB, qN] at hg7
        refine O_op (env' := uS6n106) (c := .calm) rfl rfl rfl (v_move (.inl rfl) rfl) rfl rfl rfl ?_
        refine O_op (env' := uS6n106) (c := .calm) rfl rfl rfl (rfl) rfl rfl rfl ?_
        refine O_op (env' := uS6n106) (c := .calm) rfl rfl rfl (v_move (.inl rfl) rfl) rfl rfl rfl ?_
        refine O_split 47 (env1 := uS6n106) (env2 := uS6n106) rfl rfl rfl (fun hg8 => ?_) (fun hg8 => ?_)
        ·try simp only [qB, qN] at hg8
         refine O_op (env' := uS6n106) (c := .calm) rfl rfl rfl (rfl) rfl rfl rfl ?_
         refine O_op (env' := uS6n106) (c := .look) rfl rfl rfl (wS6n0 rfl rfl rfl rfl) rfl rfl rfl ?_
         refine O_op (env' := uS6n106) (c := .calm) rfl rfl rfl (v_move (.inl rfl) rfl) rfl rfl rfl ?_
         refine O_op (env' := uS6n106) (c := .calm) rfl rfl rfl (wS6n2 rfl rfl rfl) rfl rfl rfl ?_
         refine O_op (env' := uS6n106) (c := .calm) rfl rfl rfl (wS6n1 rfl rfl rfl rfl rfl rfl rfl) rfl rfl rfl ?_
         refine O_op (env' := uS6n106) (c := .look) rfl rfl rfl (wS6n0 rfl rfl rfl rfl) rfl rfl rfl ?_
         refine O_op (env' := uS6n106) (c := .calm) rfl rfl rfl (rfl) rfl rfl rfl ?_
         refine O_op (env' := uS6n106) (c := .look) rfl rfl rfl (wS6n0 rfl rfl rfl rfl) rfl rfl rfl ?_
         refine O_op (env' := uS6n106) (c := .calm) rfl rfl rfl (v_move (.inl rfl) rfl) rfl rfl rfl ?_
         refine O_op (env' := uS6n106) (c := .calm) rfl rfl rfl (wS6n1 rfl rfl rfl rfl rfl rfl rfl) rfl rfl rfl ?_
         refine O_op (env' := uS6n106) (c := .look) rfl rfl rfl (wS6n0 rfl rfl rfl rfl) rfl rfl rfl ?_
         refine O_op (env' := uS6n106) (c := .calm) rfl rfl rfl (rfl) rfl rfl rfl ?_
         refine O_op (env' := uS6n106) (c := .calm) rfl rfl rfl (v_pickT rfl rfl rfl) rfl rfl rfl ?_
         refine O_op (env' := uS6n106) (c := .calm) rfl rfl rfl (v_pickF rfl rfl rfl) rfl rfl rfl ?_
         refine O_nil [] (by kernel_rfl) (trivial) ?_
         refine K_seq ?_
         refine B_cond _ rfl (fun hc9 => ?_) (fun hc9 => ?_)
         ·try simp only [qB, qN] at hc9
          refine B_seq (B_region ?_)
          refine L_op (env' := uS6n106) rfl rfl (v_const (VVal.bool false) (.inr rfl) rfl) rfl ?_
          refine L_nil (K_seq (B_ret (K_blkR (K_seqR (K_loopR (K_blkR (K_seqR ?_)))))))
          refine E_app (.inr rfl) (vres_tmp rfl rfl) (by first | exact BaseOk.refl _ | exact BaseOk.set (BaseOk.refl _) _ rfl) (by first | rfl | simp [VVal.under, VVal.underL, *]) ?_
          first
            | exact ⟨by rw [rck_fit (by omega)], rfl⟩
            | exact ⟨by rw [rck_knd (knd_d (by omega))], rfl⟩
            | exact ⟨by rw [rck_r (by omega) hrs, knd_f (by omega) (by omega) hl], rfl⟩
            | exact ⟨by rw [rck_rise (rise_bad (k := k) (by omega) (by have h9 := lst1_m hr; first | omega | (have h8 := lst1_prev (l := r.steps) (k := k) (by omega) (by omega); omega)))], rfl⟩
            | exact ⟨congrArg VVal.bool (by rw [rck_r (by omega) hrs, knd_a (by omega)]; first | exact decide_eq_decide.2 (by omega) | exact (decide_eq_false (by omega)).symm | exact (decide_eq_true (by omega)).symm), rfl⟩
            | exact ⟨congrArg VVal.bool (by rw [rck_r (by omega) hrs, knd_b (by omega)]; first | exact decide_eq_decide.2 (by omega) | exact (decide_eq_false (by omega)).symm | exact (decide_eq_true (by omega)).symm), rfl⟩
            | exact ⟨congrArg VVal.bool (by rw [rck_r (by omega) hrs, knd_c (by omega)]; first | exact decide_eq_decide.2 (by omega) | exact (decide_eq_false (by omega)).symm | exact (decide_eq_true (by omega)).symm), rfl⟩
         ·try simp only [qB, qN] at hc9
          refine B_skip (K_blk (K_seq (B_region ?_)))
          refine L_op (env' := uS6n106) rfl rfl (v_move (.inl rfl) rfl) rfl ?_
          refine L_op (env' := uS6n106) rfl rfl (wS6n3 rfl rfl rfl) rfl ?_
          refine L_op (env' := uS6n106) rfl rfl (v_move (.inr rfl) rfl) rfl ?_
          refine L_nil ?_
          refine K_loop (mk 106 81129638414606681695789005144022) (env' := uS6n106) rfl ⟨k + 1, ?_, rfl, ?_⟩
          ·first | omega | (simp only []; omega)
          ·exact ⟨⟨by omega, rise_ok (by omega) hr (by first | (have h8 := lst1_prev (l := r.steps) (k := k) (by omega) (by omega); omega) | (have h8 := lst1_0 (l := r.steps) (k := k) (by omega); omega)) (by omega)⟩, rfl⟩
        ·try simp only [qB, qN] at hg8
         refine O_off (env' := uS6n106) rfl rfl rfl rfl ?_
         refine O_off (env' := uS6n106) rfl rfl rfl rfl ?_
         refine O_off (env' := uS6n106) rfl rfl rfl rfl ?_
         refine O_off (env' := uS6n106) rfl rfl rfl rfl ?_
         refine O_off (env' := uS6n106) rfl rfl rfl rfl ?_
         refine O_off (env' := uS6n106) rfl rfl rfl rfl ?_
         refine O_off (env' := uS6n106) rfl rfl rfl rfl ?_
         refine O_off (env' := uS6n106) rfl rfl rfl rfl ?_
         refine O_off (env' := uS6n106) rfl rfl rfl rfl ?_
         refine O_off (env' := uS6n106) rfl rfl rfl rfl ?_
         refine O_off (env' := uS6n106) rfl rfl rfl rfl ?_
         refine O_off (env' := uS6n106) rfl rfl rfl rfl ?_
         refine O_op (env' := uS6n106) (c := .calm) rfl rfl rfl (v_pickFC (VVal.bool false) rfl rfl rfl) rfl rfl rfl ?_
         refine O_op (env' := uS6n106) (c := .calm) rfl rfl rfl (v_pickF rfl rfl rfl) rfl rfl rfl ?_
         refine O_nil [] (by kernel_rfl) (trivial) ?_
         refine K_seq ?_
         refine B_false rfl rfl ?_
         refine B_skip (K_blk (K_seq (B_region ?_)))
         refine L_op (env' := uS6n106) rfl rfl (v_move (.inl rfl) rfl) rfl ?_
         refine L_op (env' := uS6n106) rfl rfl (wS6n3 rfl rfl rfl) rfl ?_
         refine L_op (env' := uS6n106) rfl rfl (v_move (.inr rfl) rfl) rfl ?_
         refine L_nil ?_
         refine K_loop (mk 106 81129638414606681695789005144022) (env' := uS6n106) rfl ⟨k + 1, ?_, rfl, ?_⟩
         ·first | omega | (simp only []; omega)
         ·exact ⟨⟨by omega, rise_ok (by omega) hr (by first | (have h8 := lst1_prev (l := r.steps) (k := k) (by omega) (by omega); omega) | (have h8 := lst1_0 (l := r.steps) (k := k) (by omega); omega)) (by omega)⟩, rfl⟩
     ·try simp only [qB, qN] at hc5
      refine B_exit (K_seqX (K_loopX (K_blkX (K_seq (B_seq (B_seq ?_))))))
      have hrs : rise n r.steps = true := by rw [List.take_of_length_le (by omega)] at hr; exact hr
      refine B_region ?_
      refine L_op (env' := uS6n106) rfl rfl (rfl) rfl ?_
      refine L_op (env' := uS6n106) rfl rfl (wS6n0 rfl rfl rfl rfl) rfl ?_
      refine L_op (env' := uS6n106) rfl rfl (rfl) rfl ?_
      refine L_op (env' := uS6n106) rfl rfl (v_move (.inl rfl) rfl) rfl ?_
      refine L_split 65 (env1 := uS6n106) (env2 := uS6n106) rfl rfl rfl (fun hg10 => ?_) (fun hg10 => ?_)
      ·try simp only [qB, qN] at hg10
       refine L_off (env' := uS6n106) rfl rfl ?_
       refine L_off (env' := uS6n106) rfl rfl ?_
       refine L_off (env' := uS6n106) rfl rfl ?_
       refine L_op (env' := uS6n106) rfl rfl (v_pickTC (VVal.bool true) rfl rfl rfl) rfl ?_
       refine L_nil (K_seq ?_)
       refine B_true rfl rfl ?_
       refine B_seq (B_region ?_)
       refine L_op (env' := uS6n106) rfl rfl (rfl) rfl ?_
       refine L_op (env' := uS6n106) rfl rfl (wS6n0 rfl rfl rfl rfl) rfl ?_
       refine L_op (env' := uS6n106) rfl rfl (rfl) rfl ?_
       refine L_op (env' := uS6n106) rfl rfl (v_move (.inl rfl) rfl) rfl ?_
       refine L_split 73 (env1 := uS6n106) (env2 := uS6n106) rfl rfl rfl (fun hg11 => ?_) (fun hg11 => ?_)
       ·try simp only [qB, qN] at hg11
        refine L_op (env' := uS6n106) rfl rfl (rfl) rfl ?_
        refine L_op (env' := uS6n106) rfl rfl (wS6n0 rfl rfl rfl rfl) rfl ?_
        refine L_op (env' := uS6n106) rfl rfl (rfl) rfl ?_
        refine L_op (env' := uS6n106) rfl rfl (rfl) rfl ?_
        refine L_op (env' := uS6n106) rfl rfl (v_pickT rfl rfl rfl) rfl ?_
        refine L_op (env' := uS6n106) rfl rfl (v_move (.inr rfl) rfl) rfl ?_
        refine L_nil (K_seq (B_ret (K_seqR ?_)))
        refine E_app (.inr rfl) (vres_tmp rfl rfl) (by first | exact BaseOk.refl _ | exact BaseOk.set (BaseOk.refl _) _ rfl) (by first | rfl | simp [VVal.under, VVal.underL, *]) ?_
        first
          | exact ⟨by rw [rck_fit (by omega)], rfl⟩
          | exact ⟨by rw [rck_knd (knd_d (by omega))], rfl⟩
          | exact ⟨by rw [rck_r (by omega) hrs, knd_f (by omega) (by omega) hl], rfl⟩
          | exact ⟨by rw [rck_rise (rise_bad (k := k) (by omega) (by have h9 := lst1_m hr; first | omega | (have h8 := lst1_prev (l := r.steps) (k := k) (by omega) (by omega); omega)))], rfl⟩
          | exact ⟨congrArg VVal.bool (by rw [rck_r (by omega) hrs, knd_a (by omega)]; first | exact decide_eq_decide.2 (by omega) | exact (decide_eq_false (by omega)).symm | exact (decide_eq_true (by omega)).symm), rfl⟩
          | exact ⟨congrArg VVal.bool (by rw [rck_r (by omega) hrs, knd_b (by omega)]; first | exact decide_eq_decide.2 (by omega) | exact (decide_eq_false (by omega)).symm | exact (decide_eq_true (by omega)).symm), rfl⟩
          | exact ⟨congrArg VVal.bool (by rw [rck_r (by omega) hrs, knd_c (by omega)]; first | exact decide_eq_decide.2 (by omega) | exact (decide_eq_false (by omega)).symm | exact (decide_eq_true (by omega)).symm), rfl⟩
       ·try simp only [qB, qN] at hg11
        refine L_off (env' := uS6n106) rfl rfl ?_
        refine L_off (env' := uS6n106) rfl rfl ?_
        refine L_off (env' := uS6n106) rfl rfl ?_
        refine L_off (env' := uS6n106) rfl rfl ?_
        refine L_op (env' := uS6n106) rfl rfl (v_pickFC (VVal.bool false) rfl rfl rfl) rfl ?_
        refine L_op (env' := uS6n106) rfl rfl (v_move (.inr rfl) rfl) rfl ?_
        refine L_nil (K_seq (B_ret (K_seqR ?_)))
        refine E_app (.inr rfl) (vres_tmp rfl rfl) (by first | exact BaseOk.refl _ | exact BaseOk.set (BaseOk.refl _) _ rfl) (by first | rfl | simp [VVal.under, VVal.underL, *]) ?_
        first
          | exact ⟨by rw [rck_fit (by omega)], rfl⟩
          | exact ⟨by rw [rck_knd (knd_d (by omega))], rfl⟩
          | exact ⟨by rw [rck_r (by omega) hrs, knd_f (by omega) (by omega) hl], rfl⟩
          | exact ⟨by rw [rck_rise (rise_bad (k := k) (by omega) (by have h9 := lst1_m hr; first | omega | (have h8 := lst1_prev (l := r.steps) (k := k) (by omega) (by omega); omega)))], rfl⟩
          | exact ⟨congrArg VVal.bool (by rw [rck_r (by omega) hrs, knd_a (by omega)]; first | exact decide_eq_decide.2 (by omega) | exact (decide_eq_false (by omega)).symm | exact (decide_eq_true (by omega)).symm), rfl⟩
          | exact ⟨congrArg VVal.bool (by rw [rck_r (by omega) hrs, knd_b (by omega)]; first | exact decide_eq_decide.2 (by omega) | exact (decide_eq_false (by omega)).symm | exact (decide_eq_true (by omega)).symm), rfl⟩
          | exact ⟨congrArg VVal.bool (by rw [rck_r (by omega) hrs, knd_c (by omega)]; first | exact decide_eq_decide.2 (by omega) | exact (decide_eq_false (by omega)).symm | exact (decide_eq_true (by omega)).symm), rfl⟩
      ·try simp only [qB, qN] at hg10
       refine L_op (env' := uS6n106) rfl rfl (rfl) rfl ?_
       refine L_op (env' := uS6n106) rfl rfl (wS6n0 rfl rfl rfl rfl) rfl ?_
       refine L_op (env' := uS6n106) rfl rfl (rfl) rfl ?_
       refine L_op (env' := uS6n106) rfl rfl (v_pickF rfl rfl rfl) rfl ?_
       refine L_nil (K_seq ?_)
       refine B_cond _ rfl (fun hc12 => ?_) (fun hc12 => ?_)
       ·try simp only [qB, qN] at hc12
        refine B_seq (B_region ?_)
        refine L_op (env' := uS6n106) rfl rfl (rfl) rfl ?_
        refine L_op (env' := uS6n106) rfl rfl (wS6n0 rfl rfl rfl rfl) rfl ?_
        refine L_op (env' := uS6n106) rfl rfl (rfl) rfl ?_
        refine L_op (env' := uS6n106) rfl rfl (v_move (.inl rfl) rfl) rfl ?_
        refine L_split 73 (env1 := uS6n106) (env2 := uS6n106) rfl rfl rfl (fun hg13 => ?_) (fun hg13 => ?_)
        ·try simp only [qB, qN] at hg13
         refine L_op (env' := uS6n106) rfl rfl (rfl) rfl ?_
         refine L_op (env' := uS6n106) rfl rfl (wS6n0 rfl rfl rfl rfl) rfl ?_
         refine L_op (env' := uS6n106) rfl rfl (rfl) rfl ?_
         refine L_op (env' := uS6n106) rfl rfl (rfl) rfl ?_
         refine L_op (env' := uS6n106) rfl rfl (v_pickT rfl rfl rfl) rfl ?_
         refine L_op (env' := uS6n106) rfl rfl (v_move (.inr rfl) rfl) rfl ?_
         refine L_nil (K_seq (B_ret (K_seqR ?_)))
         refine E_app (.inr rfl) (vres_tmp rfl rfl) (by first | exact BaseOk.refl _ | exact BaseOk.set (BaseOk.refl _) _ rfl) (by first | rfl | simp [VVal.under, VVal.underL, *]) ?_
         first
           | exact ⟨by rw [rck_fit (by omega)], rfl⟩
           | exact ⟨by rw [rck_knd (knd_d (by omega))], rfl⟩
           | exact ⟨by rw [rck_r (by omega) hrs, knd_f (by omega) (by omega) hl], rfl⟩
           | exact ⟨by rw [rck_rise (rise_bad (k := k) (by omega) (by have h9 := lst1_m hr; first | omega | (have h8 := lst1_prev (l := r.steps) (k := k) (by omega) (by omega); omega)))], rfl⟩
           | exact ⟨congrArg VVal.bool (by rw [rck_r (by omega) hrs, knd_a (by omega)]; first | exact decide_eq_decide.2 (by omega) | exact (decide_eq_false (by omega)).symm | exact (decide_eq_true (by omega)).symm), rfl⟩
           | exact ⟨congrArg VVal.bool (by rw [rck_r (by omega) hrs, knd_b (by omega)]; first | exact decide_eq_decide.2 (by omega) | exact (decide_eq_false (by omega)).symm | exact (decide_eq_true (by omega)).symm), rfl⟩
           | exact ⟨congrArg VVal.bool (by rw [rck_r (by omega) hrs, knd_c (by omega)]; first | exact decide_eq_decide.2 (by omega) | exact (decide_eq_false (by omega)).symm | exact (decide_eq_true (by omega)).symm), rfl⟩
        ·try simp only [qB, qN] at hg13
         refine L_off (env' := uS6n106) rfl rfl ?_
         refine L_off (env' := uS6n106) rfl rfl ?_
         refine L_off (env' := uS6n106) rfl rfl ?_
         refine L_off (env' := uS6n106) rfl rfl ?_
         refine L_op (env' := uS6n106) rfl rfl (v_pickFC (VVal.bool false) rfl rfl rfl) rfl ?_
         refine L_op (env' := uS6n106) rfl rfl (v_move (.inr rfl) rfl) rfl ?_
         refine L_nil (K_seq (B_ret (K_seqR ?_)))
         refine E_app (.inr rfl) (vres_tmp rfl rfl) (by first | exact BaseOk.refl _ | exact BaseOk.set (BaseOk.refl _) _ rfl) (by first | rfl | simp [VVal.under, VVal.underL, *]) ?_
         first
           | exact ⟨by rw [rck_fit (by omega)], rfl⟩
           | exact ⟨by rw [rck_knd (knd_d (by omega))], rfl⟩
           | exact ⟨by rw [rck_r (by omega) hrs, knd_f (by omega) (by omega) hl], rfl⟩
           | exact ⟨by rw [rck_rise (rise_bad (k := k) (by omega) (by have h9 := lst1_m hr; first | omega | (have h8 := lst1_prev (l := r.steps) (k := k) (by omega) (by omega); omega)))], rfl⟩
           | exact ⟨congrArg VVal.bool (by rw [rck_r (by omega) hrs, knd_a (by omega)]; first | exact decide_eq_decide.2 (by omega) | exact (decide_eq_false (by omega)).symm | exact (decide_eq_true (by omega)).symm), rfl⟩
           | exact ⟨congrArg VVal.bool (by rw [rck_r (by omega) hrs, knd_b (by omega)]; first | exact decide_eq_decide.2 (by omega) | exact (decide_eq_false (by omega)).symm | exact (decide_eq_true (by omega)).symm), rfl⟩
           | exact ⟨congrArg VVal.bool (by rw [rck_r (by omega) hrs, knd_c (by omega)]; first | exact decide_eq_decide.2 (by omega) | exact (decide_eq_false (by omega)).symm | exact (decide_eq_true (by omega)).symm), rfl⟩
       ·try simp only [qB, qN] at hc12
        refine B_skip (K_seq (B_seq (B_region ?_)))
        refine L_op (env' := uS6n106) rfl rfl (rfl) rfl ?_
        refine L_op (env' := uS6n106) rfl rfl (wS6n0 rfl rfl rfl rfl) rfl ?_
        refine L_op (env' := uS6n106) rfl rfl (rfl) rfl ?_
        refine L_op (env' := uS6n106) rfl rfl (v_move (.inl rfl) rfl) rfl ?_
        refine L_split 82 (env1 := uS6n106) (env2 := uS6n106) rfl rfl rfl (fun hg14 => ?_) (fun hg14 => ?_)
        ·try simp only [qB, qN] at hg14
         refine L_op (env' := uS6n106) rfl rfl (rfl) rfl ?_
         refine L_op (env' := uS6n106) rfl rfl (wS6n0 rfl rfl rfl rfl) rfl ?_
         refine L_op (env' := uS6n106) rfl rfl (rfl) rfl ?_
         refine L_op (env' := uS6n106) rfl rfl (v_pickT rfl rfl rfl) rfl ?_
         refine L_op (env' := uS6n106) rfl rfl (v_move (.inl rfl) rfl) rfl ?_
         refine L_split 87 (env1 := uS6n106) (env2 := uS6n106) rfl rfl rfl (fun hg15 => ?_) (fun hg15 => ?_)
         ·try simp only [qB, qN] at hg15
          refine L_op (env' := uS6n106) rfl rfl (rfl) rfl ?_
          refine L_op (env' := uS6n106) rfl rfl (wS6n0 rfl rfl rfl rfl) rfl ?_
          refine L_op (env' := uS6n106) rfl rfl (rfl) rfl ?_
          refine L_op (env' := uS6n106) rfl rfl (rfl) rfl ?_
          refine L_op (env' := uS6n106) rfl rfl (v_pickT rfl rfl rfl) rfl ?_
          refine L_op (env' := uS6n106) rfl rfl (v_move (.inl rfl) rfl) rfl ?_
          refine L_split 93 (env1 := uS6n106) (env2 := uS6n106) rfl rfl rfl (fun hg16 => ?_) (fun hg16 => ?_)
          ·try simp only [qB, qN] at hg16
           refine L_op (env' := uS6n106) rfl rfl (rfl) rfl ?_
           refine L_op (env' := uS6n106) rfl rfl (wS6n0 rfl rfl rfl rfl) rfl ?_
           refine L_op (env' := uS6n106) rfl rfl (rfl) rfl ?_
           refine L_op (env' := uS6n106) rfl rfl (v_move (.inl rfl) rfl) rfl ?_
           refine L_split 97 (env1 := uS6n106) (env2 := uS6n106) rfl rfl rfl (fun hg17 => ?_) (fun hg17 => ?_)
           ·try simp only [qB, qN] at hg17
            refine L_off (env' := uS6n106) rfl rfl ?_
            refine L_off (env' := uS6n106) rfl rfl ?_
            refine L_off (env' := uS6n106) rfl rfl ?_
            refine L_off (env' := uS6n106) rfl rfl ?_
            refine L_off (env' := uS6n106) rfl rfl ?_
            refine L_off (env' := uS6n106) rfl rfl ?_
            refine L_op (env' := uS6n106) rfl rfl (v_pickTC (VVal.bool true) rfl rfl rfl) rfl ?_
            refine L_op (env' := uS6n106) rfl rfl (v_pickT rfl rfl rfl) rfl ?_
            refine L_op (env' := uS6n106) rfl rfl (v_move (.inr rfl) rfl) rfl ?_
            refine L_nil (K_seq (B_ret ?_))
            refine E_app (.inr rfl) (vres_tmp rfl rfl) (by first | exact BaseOk.refl _ | exact BaseOk.set (BaseOk.refl _) _ rfl) (by first | rfl | simp [VVal.under, VVal.underL, *]) ?_
            first
              | exact ⟨by rw [rck_fit (by omega)], rfl⟩
              | exact ⟨by rw [rck_knd (knd_d (by omega))], rfl⟩
              | exact ⟨by rw [rck_r (by omega) hrs, knd_f (by omega) (by omega) hl], rfl⟩
              | exact ⟨by rw [rck_rise (rise_bad (k := k) (by omega) (by have h9 := lst1_m hr; first | omega | (have h8 := lst1_prev (l := r.steps) (k := k) (by omega) (by omega); omega)))], rfl⟩
              | exact ⟨congrArg VVal.bool (by rw [rck_r (by omega) hrs, knd_a (by omega)]; first | exact decide_eq_decide.2 (by omega) | exact (decide_eq_false (by omega)).symm | exact (decide_eq_true (by omega)).symm), rfl⟩
              | exact ⟨congrArg VVal.bool (by rw [rck_r (by omega) hrs, knd_b (by omega)]; first | exact decide_eq_decide.2 (by omega) | exact (decide_eq_false (by omega)).symm | exact (decide_eq_true (by omega)).symm), rfl⟩
              | exact ⟨congrArg VVal.bool (by rw [rck_r (by omega) hrs, knd_c (by omega)]; first | exact decide_eq_decide.2 (by omega) | exact (decide_eq_false (by omega)).symm | exact (decide_eq_true (by omega)).symm), rfl⟩
           ·try simp only [qB, qN] at hg17
            refine L_op (env' := uS6n106) rfl rfl (rfl) rfl ?_
            refine L_op (env' := uS6n106) rfl rfl (wS6n0 rfl rfl rfl rfl) rfl ?_
            refine L_op (env' := uS6n106) rfl rfl (rfl) rfl ?_
            refine L_op (env' := uS6n106) rfl rfl (wS6n0 rfl rfl rfl rfl) rfl ?_
            refine L_op (env' := uS6n106) rfl rfl (rfl) rfl ?_
            refine L_op (env' := uS6n106) rfl rfl (rfl) rfl ?_
            refine L_op (env' := uS6n106) rfl rfl (v_pickF rfl rfl rfl) rfl ?_
            refine L_op (env' := uS6n106) rfl rfl (v_pickT rfl rfl rfl) rfl ?_
            refine L_op (env' := uS6n106) rfl rfl (v_move (.inr rfl) rfl) rfl ?_
            refine L_nil (K_seq (B_ret ?_))
            refine E_app (.inr rfl) (vres_tmp rfl rfl) (by first | exact BaseOk.refl _ | exact BaseOk.set (BaseOk.refl _) _ rfl) (by first | rfl | simp [VVal.under, VVal.underL, *]) ?_
            first
              | exact ⟨by rw [rck_fit (by omega)], rfl⟩
              | exact ⟨by rw [rck_knd (knd_d (by omega))], rfl⟩
              | exact ⟨by rw [rck_r (by omega) hrs, knd_f (by omega) (by omega) hl], rfl⟩
              | exact ⟨by rw [rck_rise (rise_bad (k := k) (by omega) (by have h9 := lst1_m hr; first | omega | (have h8 := lst1_prev (l := r.steps) (k := k) (by omega) (by omega); omega)))], rfl⟩
              | exact ⟨congrArg VVal.bool (by rw [rck_r (by omega) hrs, knd_a (by omega)]; first | exact decide_eq_decide.2 (by omega) | exact (decide_eq_false (by omega)).symm | exact (decide_eq_true (by omega)).symm), rfl⟩
              | exact ⟨congrArg VVal.bool (by rw [rck_r (by omega) hrs, knd_b (by omega)]; first | exact decide_eq_decide.2 (by omega) | exact (decide_eq_false (by omega)).symm | exact (decide_eq_true (by omega)).symm), rfl⟩
              | exact ⟨congrArg VVal.bool (by rw [rck_r (by omega) hrs, knd_c (by omega)]; first | exact decide_eq_decide.2 (by omega) | exact (decide_eq_false (by omega)).symm | exact (decide_eq_true (by omega)).symm), rfl⟩
          ·try simp only [qB, qN] at hg16
           refine L_off (env' := uS6n106) rfl rfl ?_
           refine L_off (env' := uS6n106) rfl rfl ?_
           refine L_off (env' := uS6n106) rfl rfl ?_
           refine L_off (env' := uS6n106) rfl rfl ?_
           refine L_off (env' := uS6n106) rfl rfl ?_
           refine L_off (env' := uS6n106) rfl rfl ?_
           refine L_off (env' := uS6n106) rfl rfl ?_
           refine L_off (env' := uS6n106) rfl rfl ?_
           refine L_off (env' := uS6n106) rfl rfl ?_
           refine L_off (env' := uS6n106) rfl rfl ?_
           refine L_off (env' := uS6n106) rfl rfl ?_
           refine L_op (env' := uS6n106) rfl rfl (v_pickFC (VVal.bool false) rfl rfl rfl) rfl ?_
           refine L_op (env' := uS6n106) rfl rfl (v_move (.inr rfl) rfl) rfl ?_
           refine L_nil (K_seq (B_ret ?_))
           refine E_app (.inr rfl) (vres_tmp rfl rfl) (by first | exact BaseOk.refl _ | exact BaseOk.set (BaseOk.refl _) _ rfl) (by first | rfl | simp [VVal.under, VVal.underL, *]) ?_
           first
             | exact ⟨by rw [rck_fit (by omega)], rfl⟩
             | exact ⟨by rw [rck_knd (knd_d (by omega))], rfl⟩
             | exact ⟨by rw [rck_r (by omega) hrs, knd_f (by omega) (by omega) hl], rfl⟩
             | exact ⟨by rw [rck_rise (rise_bad (k := k) (by omega) (by have h9 := lst1_m hr; first | omega | (have h8 := lst1_prev (l := r.steps) (k := k) (by omega) (by omega); omega)))], rfl⟩
             | exact ⟨congrArg VVal.bool (by rw [rck_r (by omega) hrs, knd_a (by omega)]; first | exact decide_eq_decide.2 (by omega) | exact (decide_eq_false (by omega)).symm | exact (decide_eq_true (by omega)).symm), rfl⟩
             | exact ⟨congrArg VVal.bool (by rw [rck_r (by omega) hrs, knd_b (by omega)]; first | exact decide_eq_decide.2 (by omega) | exact (decide_eq_false (by omega)).symm | exact (decide_eq_true (by omega)).symm), rfl⟩
             | exact ⟨congrArg VVal.bool (by rw [rck_r (by omega) hrs, knd_c (by omega)]; first | exact decide_eq_decide.2 (by omega) | exact (decide_eq_false (by omega)).symm | exact (decide_eq_true (by omega)).symm), rfl⟩
         ·try simp only [qB, qN] at hg15
          refine L_off (env' := uS6n106) rfl rfl ?_
          refine L_off (env' := uS6n106) rfl rfl ?_
          refine L_off (env' := uS6n106) rfl rfl ?_
          refine L_off (env' := uS6n106) rfl rfl ?_
          refine L_op (env' := uS6n106) rfl rfl (v_pickFC (VVal.bool false) rfl rfl rfl) rfl ?_
          refine L_op (env' := uS6n106) rfl rfl (v_move (.inl rfl) rfl) rfl ?_
          refine L_off (env' := uS6n106) rfl rfl ?_
          refine L_off (env' := uS6n106) rfl rfl ?_
          refine L_off (env' := uS6n106) rfl rfl ?_
          refine L_off (env' := uS6n106) rfl rfl ?_
          refine L_off (env' := uS6n106) rfl rfl ?_
          refine L_off (env' := uS6n106) rfl rfl ?_
          refine L_off (env' := uS6n106) rfl rfl ?_
          refine L_off (env' := uS6n106) rfl rfl ?_
          refine L_off (env' := uS6n106) rfl rfl ?_
          refine L_off (env' := uS6n106) rfl rfl ?_
          refine L_off (env' := uS6n106) rfl rfl ?_
          refine L_op (env' := uS6n106) rfl rfl (v_pickFC (VVal.bool false) rfl rfl rfl) rfl ?_
          refine L_op (env' := uS6n106) rfl rfl (v_move (.inr rfl) rfl) rfl ?_
          refine L_nil (K_seq (B_ret ?_))
          refine E_app (.inr rfl) (vres_tmp rfl rfl) (by first | exact BaseOk.refl _ | exact BaseOk.set (BaseOk.refl _) _ rfl) (by first | rfl | simp [VVal.under, VVal.underL, *]) ?_
          first
            | exact ⟨by rw [rck_fit (by omega)], rfl⟩
            | exact ⟨by rw [rck_knd (knd_d (by omega))], rfl⟩
            | exact ⟨by rw [rck_r (by omega) hrs, knd_f (by omega) (by omega) hl], rfl⟩
            | exact ⟨by rw [rck_rise (rise_bad (k := k) (by omega) (by have h9 := lst1_m hr; first | omega | (have h8 := lst1_prev (l := r.steps) (k := k) (by omega) (by omega); omega)))], rfl⟩
            | exact ⟨congrArg VVal.bool (by rw [rck_r (by omega) hrs, knd_a (by omega)]; first | exact decide_eq_decide.2 (by omega) | exact (decide_eq_false (by omega)).symm | exact (decide_eq_true (by omega)).symm), rfl⟩
            | exact ⟨congrArg VVal.bool (by rw [rck_r (by omega) hrs, knd_b (by omega)]; first | exact decide_eq_decide.2 (by omega) | exact (decide_eq_false (by omega)).symm | exact (decide_eq_true (by omega)).symm), rfl⟩
            | exact ⟨congrArg VVal.bool (by rw [rck_r (by omega) hrs, knd_c (by omega)]; first | exact decide_eq_decide.2 (by omega) | exact (decide_eq_false (by omega)).symm | exact (decide_eq_true (by omega)).symm), rfl⟩
        ·try simp only [qB, qN] at hg14
         refine L_off (env' := uS6n106) rfl rfl ?_
         refine L_off (env' := uS6n106) rfl rfl ?_
         refine L_off (env' := uS6n106) rfl rfl ?_
         refine L_op (env' := uS6n106) rfl rfl (v_pickFC (VVal.bool false) rfl rfl rfl) rfl ?_
         refine L_op (env' := uS6n106) rfl rfl (v_move (.inl rfl) rfl) rfl ?_
         refine L_off (env' := uS6n106) rfl rfl ?_
         refine L_off (env' := uS6n106) rfl rfl ?_
         refine L_off (env' := uS6n106) rfl rfl ?_
         refine L_off (env' := uS6n106) rfl rfl ?_
         refine L_op (env' := uS6n106) rfl rfl (v_pickFC (VVal.bool false) rfl rfl rfl) rfl ?_
         refine L_op (env' := uS6n106) rfl rfl (v_move (.inl rfl) rfl) rfl ?_
         refine L_off (env' := uS6n106) rfl rfl ?_
         refine L_off (env' := uS6n106) rfl rfl ?_
         refine L_off (env' := uS6n106) rfl rfl ?_
         refine L_off (env' := uS6n106) rfl rfl ?_
         refine L_off (env' := uS6n106) rfl rfl ?_
         refine L_off (env' := uS6n106) rfl rfl ?_
         refine L_off (env' := uS6n106) rfl rfl ?_
         refine L_off (env' := uS6n106) rfl rfl ?_
         refine L_off (env' := uS6n106) rfl rfl ?_
         refine L_off (env' := uS6n106) rfl rfl ?_
         refine L_off (env' := uS6n106) rfl rfl ?_
         refine L_op (env' := uS6n106) rfl rfl (v_pickFC (VVal.bool false) rfl rfl rfl) rfl ?_
         refine L_op (env' := uS6n106) rfl rfl (v_move (.inr rfl) rfl) rfl ?_
         refine L_nil (K_seq (B_ret ?_))
         refine E_app (.inr rfl) (vres_tmp rfl rfl) (by first | exact BaseOk.refl _ | exact BaseOk.set (BaseOk.refl _) _ rfl) (by first | rfl | simp [VVal.under, VVal.underL, *]) ?_
         first
           | exact ⟨by rw [rck_fit (by omega)], rfl⟩
           | exact ⟨by rw [rck_knd (knd_d (by omega))], rfl⟩
           | exact ⟨by rw [rck_r (by omega) hrs, knd_f (by omega) (by omega) hl], rfl⟩
           | exact ⟨by rw [rck_rise (rise_bad (k := k) (by omega) (by have h9 := lst1_m hr; first | omega | (have h8 := lst1_prev (l := r.steps) (k := k) (by omega) (by omega); omega)))], rfl⟩
           | exact ⟨congrArg VVal.bool (by rw [rck_r (by omega) hrs, knd_a (by omega)]; first | exact decide_eq_decide.2 (by omega) | exact (decide_eq_false (by omega)).symm | exact (decide_eq_true (by omega)).symm), rfl⟩
           | exact ⟨congrArg VVal.bool (by rw [rck_r (by omega) hrs, knd_b (by omega)]; first | exact decide_eq_decide.2 (by omega) | exact (decide_eq_false (by omega)).symm | exact (decide_eq_true (by omega)).symm), rfl⟩
           | exact ⟨congrArg VVal.bool (by rw [rck_r (by omega) hrs, knd_c (by omega)]; first | exact decide_eq_decide.2 (by omega) | exact (decide_eq_false (by omega)).symm | exact (decide_eq_true (by omega)).symm), rfl⟩

theorem unlike_spec {x : SW} (H : VHeap) (l : List Int) (hl : l.length ≤ 1000000) : F (psys x) 77 [fzI l] H fun v G => v = iI (uq l : Nat) ∧ G = H := by
 refine F_body Try.func77 rfl uS6n31 rfl ?_
 refine B_seq (B_region ?_)
 refine L_op (env' := uS6n31) rfl rfl (v_const (VVal.int .i64 0) (.inr rfl) rfl) rfl ?_
 refine L_nil (K_seq (B_seq (B_region ?_)))
 refine L_op (env' := uS6n31) rfl rfl (v_const (VVal.int .i64 0) (.inr rfl) rfl) rfl ?_
 refine L_nil (K_seq (B_seq (B_seq (B_region ?_))))
 refine L_op (env' := uS6n31) rfl rfl (v_const (VVal.int .i64 0) (.inr rfl) rfl) rfl ?_
 refine L_nil (K_seq (B_block ?_))
 refine B_clear (mk 31 2147483622) (env' := uS6n31) rfl ?_
 refine B_loopE (fun (i : Nat) => l.length - i) (fun (i : Nat) => [(3, iI (uq (l.take i) : Nat)), (4, iI (i : Nat))]) (fun (i : Nat) G => (i ≤ l.length) ∧ G = H ++ []) 0 rfl ?_ ?_
 ·refine ⟨?_, rfl⟩
  exact Nat.zero_le _
 rintro i _ ⟨hi, rfl⟩
 refine B_env (env' := uS6n31) rfl ?_
 refine B_seq (B_seq (B_region ?_))
 refine L_op (env' := uS6n31) rfl rfl (v_move (.inl rfl) rfl) rfl ?_
 refine L_op (env' := uS6n31) rfl rfl (v_move (.inl rfl) rfl) rfl ?_
 refine L_op (env' := uS6n31) rfl rfl (rfl) rfl ?_
 refine L_op (env' := uS6n31) rfl rfl (rfl) rfl ?_
 refine L_nil (K_seq ?_)
 refine B_cond _ rfl (fun hc1 => ?_) (fun hc1 => ?_)
 ·try simp only [qB, qN] at hc1
  refine B_skip (K_seq (B_seq (B_block (B_seq (B_region ?_)))))
  refine L_op (env' := uS6n31) rfl rfl (v_const (VVal.int .i64 1) (.inr rfl) rfl) rfl ?_
  refine L_nil (K_seq (B_seq (B_seq (B_region ?_))))
  refine L_op (env' := uS6n31) rfl rfl (v_const (VVal.int .i64 0) (.inr rfl) rfl) rfl ?_
  refine L_nil (K_seq (B_block ?_))
  refine B_clear (mk 31 2147483526) (env' := uS6n31) rfl ?_
  have hul := uq_le (l.take i)
  rw [List.length_take] at hul
  refine B_loopE (fun (k : Nat) => i - k) (fun (k : Nat) => [(5, iI (if l.getD i 0 ∈ l.take k then 0 else 1)), (6, iI (k : Nat))]) (fun (k : Nat) G => (k ≤ i) ∧ G = H ++ []) 0 rfl ?_ ?_
  ·refine ⟨?_, rfl⟩
   exact Nat.zero_le _
  rintro k _ ⟨hk, rfl⟩
  refine B_env (env' := uS6n31) rfl ?_
  refine B_seq (B_seq (B_region ?_))
  refine L_op (env' := uS6n31) rfl rfl (v_move (.inl rfl) rfl) rfl ?_
  refine L_op (env' := uS6n31) rfl rfl (v_move (.inl rfl) rfl) rfl ?_
  refine L_op (env' := uS6n31) rfl rfl (rfl) rfl ?_
  refine L_nil (K_seq ?_)
  refine B_cond _ rfl (fun hc2 => ?_) (fun hc2 => ?_)
  ·try simp only [qB, qN] at hc2
   refine B_skip (K_seq (B_seq (B_block (B_seq ?_))))
   refine B_draw [0, 1, 2, 3, 4, 5, 6, 7, 8] #[0, 0, 3, 7, 0, 0, 48, 112, 255] (by kernel_rfl) (by kernel_rfl) (by kernel_rfl) ?_
   refine O_op (env' := uS6n31) (c := .calm) rfl rfl rfl (v_move (.inl rfl) rfl) rfl rfl rfl ?_
   refine O_op (env' := uS6n31) (c := .calm) rfl rfl rfl (v_move (.inl rfl) rfl) rfl rfl rfl ?_
   refine O_op (env' := uS6n31) (c := .calm) rfl rfl rfl (wS6n4 rfl rfl rfl rfl rfl rfl rfl) rfl rfl rfl ?_
   refine O_op (env' := uS6n31) (c := .look) rfl rfl rfl (wS6n5 rfl rfl rfl rfl) rfl rfl rfl ?_
   refine O_op (env' := uS6n31) (c := .calm) rfl rfl rfl (v_move (.inl rfl) rfl) rfl rfl rfl ?_
   refine O_op (env' := uS6n31) (c := .calm) rfl rfl rfl (v_move (.inl rfl) rfl) rfl rfl rfl ?_
   refine O_op (env' := uS6n31) (c := .calm) rfl rfl rfl (wS6n4 rfl rfl rfl rfl rfl rfl rfl) rfl rfl rfl ?_
   refine O_op (env' := uS6n31) (c := .look) rfl rfl rfl (wS6n5 rfl rfl rfl rfl) rfl rfl rfl ?_
   refine O_op (env' := uS6n31) (c := .calm) rfl rfl rfl (rfl) rfl rfl rfl ?_
   refine O_nil [] (by kernel_rfl) (trivial) ?_
   refine K_seq ?_
   refine B_cond _ rfl (fun hc3 => ?_) (fun hc3 => ?_)
   ·try simp only [qB, qN] at hc3
    refine B_region ?_
    refine L_op (env' := uS6n31) rfl rfl (v_const (VVal.int .i64 0) (.inr rfl) rfl) rfl ?_
    refine L_nil (K_blk (K_seq (B_region ?_)))
    refine L_op (env' := uS6n31) rfl rfl (v_move (.inl rfl) rfl) rfl ?_
    refine L_op (env' := uS6n31) rfl rfl (wS6n6 rfl rfl rfl) rfl ?_
    refine L_op (env' := uS6n31) rfl rfl (v_move (.inr rfl) rfl) rfl ?_
    refine L_nil ?_
    have hs := mem_step (l := l) (k := k) (x := l.getD i 0) (by omega)
    refine K_loop (mk 31 2147483526) (env' := uS6n31) rfl ⟨k + 1, ?_, (by first | rw [if_pos (hs.2 (.inr (by assumption)))]; rfl | (by_cases hm : l.getD i 0 ∈ l.take k; (rw [if_pos hm, if_pos (hs.2 (.inl hm))]; rfl); (rw [if_neg hm, if_neg (fun e => (hs.1 e).elim hm (by assumption))]; rfl))), ?_⟩
    ·first | omega | (simp only []; omega)
    ·exact ⟨by omega, rfl⟩
   ·try simp only [qB, qN] at hc3
    refine B_skip (K_blk (K_seq (B_region ?_)))
    refine L_op (env' := uS6n31) rfl rfl (v_move (.inl rfl) rfl) rfl ?_
    refine L_op (env' := uS6n31) rfl rfl (wS6n6 rfl rfl rfl) rfl ?_
    refine L_op (env' := uS6n31) rfl rfl (v_move (.inr rfl) rfl) rfl ?_
    refine L_nil ?_
    have hs := mem_step (l := l) (k := k) (x := l.getD i 0) (by omega)
    refine K_loop (mk 31 2147483526) (env' := uS6n31) rfl ⟨k + 1, ?_, (by first | rw [if_pos (hs.2 (.inr (by assumption)))]; rfl | (by_cases hm : l.getD i 0 ∈ l.take k; (rw [if_pos hm, if_pos (hs.2 (.inl hm))]; rfl); (rw [if_neg hm, if_neg (fun e => (hs.1 e).elim hm (by assumption))]; rfl))), ?_⟩
    ·first | omega | (simp only []; omega)
    ·exact ⟨by omega, rfl⟩
  ·try simp only [qB, qN] at hc2
   refine B_exit (K_seqX (K_loopX (K_blkX (K_seq (B_region ?_)))))
   refine L_op (env' := uS6n31) rfl rfl (v_move (.inl rfl) rfl) rfl ?_
   refine L_op (env' := uS6n31) rfl rfl (v_move (.inl rfl) rfl) rfl ?_
   refine L_op (env' := uS6n31) rfl rfl (wS6n6 rfl rfl rfl) rfl ?_
   refine L_op (env' := uS6n31) rfl rfl (v_move (.inr rfl) rfl) rfl ?_
   refine L_nil (K_blk (K_seq (B_region ?_)))
   refine L_op (env' := uS6n31) rfl rfl (v_move (.inl rfl) rfl) rfl ?_
   refine L_op (env' := uS6n31) rfl rfl (wS6n6 rfl rfl rfl) rfl ?_
   refine L_op (env' := uS6n31) rfl rfl (v_move (.inr rfl) rfl) rfl ?_
   refine L_nil ?_
   obtain rfl : i = k := by omega
   have hu := uq_step (l := l) (k := i) (by omega)
   refine K_loop (mk 31 2147483622) (env' := uS6n31) rfl ⟨i + 1, ?_, (by rw [hu]; rfl), ?_⟩
   ·first | omega | (simp only []; omega)
   ·exact ⟨by omega, rfl⟩
 ·try simp only [qB, qN] at hc1
  refine B_exit (K_seqX (K_loopX (K_blkX (K_seq (B_seq (B_region ?_))))))
  refine L_op (env' := uS6n31) rfl rfl (v_move (.inl rfl) rfl) rfl ?_
  refine L_op (env' := uS6n31) rfl rfl (v_move (.inr rfl) rfl) rfl ?_
  refine L_nil (K_seq (B_ret ?_))
  refine E_app (.inr rfl) (vres_tmp rfl rfl) (by first | exact BaseOk.refl _ | exact BaseOk.set (BaseOk.refl _) _ rfl) (by first | rfl | simp [VVal.under, VVal.underL, *]) ?_
  obtain rfl : i = l.length := by omega
  rw [List.take_of_length_le (Nat.le_refl _)]
  exact ⟨rfl, rfl⟩

theorem often_spec {x : SW} (H : VHeap) (l : List Int) (hl : l.length ≤ 1000000) : F (psys x) 78 [fzI l] H fun v G => v = iI (oft l : Nat) ∧ G = H := by
 refine F_body Try.func78 rfl uS6n35 rfl ?_
 refine B_seq (B_region ?_)
 refine L_op (env' := uS6n35) rfl rfl (v_const (VVal.int .i64 0) (.inr rfl) rfl) rfl ?_
 refine L_nil (K_seq (B_seq (B_region ?_)))
 refine L_op (env' := uS6n35) rfl rfl (v_const (VVal.int .i64 0) (.inr rfl) rfl) rfl ?_
 refine L_nil (K_seq (B_seq (B_seq (B_region ?_))))
 refine L_op (env' := uS6n35) rfl rfl (v_const (VVal.int .i64 0) (.inr rfl) rfl) rfl ?_
 refine L_nil (K_seq (B_block ?_))
 refine B_clear (mk 35 34359738342) (env' := uS6n35) rfl ?_
 refine B_loopE (fun (i : Nat) => l.length - i) (fun (i : Nat) => [(3, iI (oftK l i : Nat)), (4, iI (i : Nat))]) (fun (i : Nat) G => (i ≤ l.length) ∧ G = H ++ []) 0 rfl ?_ ?_
 ·refine ⟨?_, rfl⟩
  exact Nat.zero_le _
 rintro i _ ⟨hi, rfl⟩
 refine B_env (env' := uS6n35) rfl ?_
 refine B_seq (B_seq (B_region ?_))
 refine L_op (env' := uS6n35) rfl rfl (v_move (.inl rfl) rfl) rfl ?_
 refine L_op (env' := uS6n35) rfl rfl (v_move (.inl rfl) rfl) rfl ?_
 refine L_op (env' := uS6n35) rfl rfl (rfl) rfl ?_
 refine L_op (env' := uS6n35) rfl rfl (rfl) rfl ?_
 refine L_nil (K_seq ?_)
 refine B_cond _ rfl (fun hc1 => ?_) (fun hc1 => ?_)
 ·try simp only [qB, qN] at hc1
  refine B_skip (K_seq (B_seq (B_block (B_seq (B_region ?_)))))
  refine L_op (env' := uS6n35) rfl rfl (v_const (VVal.int .i64 0) (.inr rfl) rfl) rfl ?_
  refine L_nil (K_seq (B_seq (B_seq (B_region ?_))))
  refine L_op (env' := uS6n35) rfl rfl (v_const (VVal.int .i64 0) (.inr rfl) rfl) rfl ?_
  refine L_nil (K_seq (B_block ?_))
  refine B_clear (mk 35 34359738246) (env' := uS6n35) rfl ?_
  refine B_loopE (fun (k : Nat) => l.length - k) (fun (k : Nat) => [(5, iI ((l.take k).count (l.getD i 0) : Nat)), (6, iI (k : Nat))]) (fun (k : Nat) G => (k ≤ l.length) ∧ G = H ++ []) 0 rfl ?_ ?_
  ·refine ⟨?_, rfl⟩
   exact Nat.zero_le _
  rintro k _ ⟨hk, rfl⟩
  refine B_env (env' := uS6n35) rfl ?_
  refine B_seq (B_seq (B_region ?_))
  refine L_op (env' := uS6n35) rfl rfl (v_move (.inl rfl) rfl) rfl ?_
  refine L_op (env' := uS6n35) rfl rfl (v_move (.inl rfl) rfl) rfl ?_
  refine L_op (env' := uS6n35) rfl rfl (rfl) rfl ?_
  refine L_op (env' := uS6n35) rfl rfl (rfl) rfl ?_
  refine L_nil (K_seq ?_)
  refine B_cond _ rfl (fun hc2 => ?_) (fun hc2 => ?_)
  ·try simp only [qB, qN] at hc2
   refine B_skip (K_seq (B_seq (B_block (B_seq ?_))))
   refine B_draw [0, 1, 2, 3, 4, 5, 6, 7, 8] #[0, 0, 3, 7, 0, 0, 48, 112, 255] (by kernel_rfl) (by kernel_rfl) (by kernel_rfl) ?_
   refine O_op (env' := uS6n35) (c := .calm) rfl rfl rfl (v_move (.inl rfl) rfl) rfl rfl rfl ?_
   refine O_op (env' := uS6n35) (c := .calm) rfl rfl rfl (v_move (.inl rfl) rfl) rfl rfl rfl ?_
   refine O_op (env' := uS6n35) (c := .calm) rfl rfl rfl (wS6n1 rfl rfl rfl rfl rfl rfl rfl) rfl rfl rfl ?_
   refine O_op (env' := uS6n35) (c := .look) rfl rfl rfl (wS6n5 rfl rfl rfl rfl) rfl rfl rfl ?_
   refine O_op (env' := uS6n35) (c := .calm) rfl rfl rfl (v_move (.inl rfl) rfl) rfl rfl rfl ?_
   refine O_op (env' := uS6n35) (c := .calm) rfl rfl rfl (v_move (.inl rfl) rfl) rfl rfl rfl ?_
   refine O_op (env' := uS6n35) (c := .calm) rfl rfl rfl (wS6n1 rfl rfl rfl rfl rfl rfl rfl) rfl rfl rfl ?_
   refine O_op (env' := uS6n35) (c := .look) rfl rfl rfl (wS6n5 rfl rfl rfl rfl) rfl rfl rfl ?_
   refine O_op (env' := uS6n35) (c := .calm) rfl rfl rfl (rfl) rfl rfl rfl ?_
   refine O_nil [] (by kernel_rfl) (trivial) ?_
   refine K_seq ?_
   refine B_cond _ rfl (fun hc3 => ?_) (fun hc3 => ?_)
   ·try simp only [qB, qN] at hc3
    have hcl := cnt_le (l := l) (k := k) (x := l.getD i 0)
    refine B_region ?_
    refine L_op (env' := uS6n35) rfl rfl (v_move (.inl rfl) rfl) rfl ?_
    refine L_op (env' := uS6n35) rfl rfl (wS6n3 rfl rfl rfl) rfl ?_
    refine L_op (env' := uS6n35) rfl rfl (v_move (.inr rfl) rfl) rfl ?_
    refine L_nil (K_blk (K_seq (B_region ?_)))
    refine L_op (env' := uS6n35) rfl rfl (v_move (.inl rfl) rfl) rfl ?_
    refine L_op (env' := uS6n35) rfl rfl (wS6n3 rfl rfl rfl) rfl ?_
    refine L_op (env' := uS6n35) rfl rfl (v_move (.inr rfl) rfl) rfl ?_
    refine L_nil ?_
    have hs := cnt_step (l := l) (k := k) (x := l.getD i 0) (by omega)
    have hcl := cnt_le (l := l) (k := k) (x := l.getD i 0)
    refine K_loop (mk 35 34359738246) (env' := uS6n35) rfl ⟨k + 1, ?_, (by rw [hs]; first | rw [if_pos (by assumption)]; rfl | rw [if_neg (by assumption)]; rfl), ?_⟩
    ·first | omega | (simp only []; omega)
    ·exact ⟨by omega, rfl⟩
   ·try simp only [qB, qN] at hc3
    refine B_skip (K_blk (K_seq (B_region ?_)))
    refine L_op (env' := uS6n35) rfl rfl (v_move (.inl rfl) rfl) rfl ?_
    refine L_op (env' := uS6n35) rfl rfl (wS6n3 rfl rfl rfl) rfl ?_
    refine L_op (env' := uS6n35) rfl rfl (v_move (.inr rfl) rfl) rfl ?_
    refine L_nil ?_
    have hs := cnt_step (l := l) (k := k) (x := l.getD i 0) (by omega)
    have hcl := cnt_le (l := l) (k := k) (x := l.getD i 0)
    refine K_loop (mk 35 34359738246) (env' := uS6n35) rfl ⟨k + 1, ?_, (by rw [hs]; first | rw [if_pos (by assumption)]; rfl | rw [if_neg (by assumption)]; rfl), ?_⟩
    ·first | omega | (simp only []; omega)
    ·exact ⟨by omega, rfl⟩
  ·try simp only [qB, qN] at hc2
   refine B_exit (K_seqX (K_loopX (K_blkX (K_seq (B_seq (B_region ?_))))))
   refine L_op (env' := uS6n35) rfl rfl (v_move (.inl rfl) rfl) rfl ?_
   refine L_op (env' := uS6n35) rfl rfl (v_move (.inl rfl) rfl) rfl ?_
   refine L_op (env' := uS6n35) rfl rfl (rfl) rfl ?_
   refine L_nil (K_seq ?_)
   refine B_cond _ rfl (fun hc4 => ?_) (fun hc4 => ?_)
   ·try simp only [qB, qN] at hc4
    refine B_region ?_
    refine L_op (env' := uS6n35) rfl rfl (v_move (.inl rfl) rfl) rfl ?_
    refine L_op (env' := uS6n35) rfl rfl (v_move (.inr rfl) rfl) rfl ?_
    refine L_nil (K_blk (K_seq (B_region ?_)))
    refine L_op (env' := uS6n35) rfl rfl (v_move (.inl rfl) rfl) rfl ?_
    refine L_op (env' := uS6n35) rfl rfl (wS6n3 rfl rfl rfl) rfl ?_
    refine L_op (env' := uS6n35) rfl rfl (v_move (.inr rfl) rfl) rfl ?_
    refine L_nil ?_
    obtain rfl : k = l.length := by omega
    have hu := oftK_step (l := l) (k := i) (by omega)
    rw [List.take_of_length_le (Nat.le_refl _)] at *
    refine K_loop (mk 35 34359738342) (env' := uS6n35) rfl ⟨i + 1, ?_, (by rw [hu]; first | (rw [Nat.max_eq_right (by omega)]; rfl) | (rw [Nat.max_eq_left (by omega)]; rfl)), ?_⟩
    ·first | omega | (simp only []; omega)
    ·exact ⟨by omega, rfl⟩
   ·try simp only [qB, qN] at hc4
    refine B_skip (K_blk (K_seq (B_region ?_)))
    refine L_op (env' := uS6n35) rfl rfl (v_move (.inl rfl) rfl) rfl ?_
    refine L_op (env' := uS6n35) rfl rfl (wS6n3 rfl rfl rfl) rfl ?_
    refine L_op (env' := uS6n35) rfl rfl (v_move (.inr rfl) rfl) rfl ?_
    refine L_nil ?_
    obtain rfl : k = l.length := by omega
    have hu := oftK_step (l := l) (k := i) (by omega)
    rw [List.take_of_length_le (Nat.le_refl _)] at *
    refine K_loop (mk 35 34359738342) (env' := uS6n35) rfl ⟨i + 1, ?_, (by rw [hu]; first | (rw [Nat.max_eq_right (by omega)]; rfl) | (rw [Nat.max_eq_left (by omega)]; rfl)), ?_⟩
    ·first | omega | (simp only []; omega)
    ·exact ⟨by omega, rfl⟩
 ·try simp only [qB, qN] at hc1
  refine B_exit (K_seqX (K_loopX (K_blkX (K_seq (B_seq (B_region ?_))))))
  refine L_op (env' := uS6n35) rfl rfl (v_move (.inl rfl) rfl) rfl ?_
  refine L_op (env' := uS6n35) rfl rfl (v_move (.inr rfl) rfl) rfl ?_
  refine L_nil (K_seq (B_ret ?_))
  refine E_app (.inr rfl) (vres_tmp rfl rfl) (by first | exact BaseOk.refl _ | exact BaseOk.set (BaseOk.refl _) _ rfl) (by first | rfl | simp [VVal.under, VVal.underL, *]) ?_
  rw [oftK_all (by omega)]
  exact ⟨rfl, rfl⟩

theorem dec_d {p q : Prop} [Decidable p] [Decidable q] (h : p ↔ q) : VVal.bool (decide p) = .bool (decide q) := congrArg VVal.bool (decide_eq_decide.2 h)
theorem kp1 {r : Rul} {L : List Int} {f : Nat} (h : r.kind = 1) : kp r L f = decide (oft L ≤ 1) := if_pos h
theorem kp2 {r : Rul} {L : List Int} {f : Nat} (h : r.kind = 2) : kp r L f = decide (uq L ≤ 1) := by unfold kp; rw [if_neg (by omega), if_pos h]
theorem kp3 {r : Rul} {L : List Int} {f : Nat} (h : r.kind = 3) : kp r L f = decide ((oft L : Int) ≤ r.k) := by unfold kp; rw [if_neg (by omega), if_neg (by omega), if_pos h]
theorem kp4 {r : Rul} {L : List Int} {f : Nat} (h : r.kind = 4) : kp r L f = decide ((uq L : Int) ≤ r.k) := by unfold kp; rw [if_neg (by omega), if_neg (by omega), if_neg (by omega), if_pos h]
theorem kp5 {r : Rul} {L : List Int} {f : Nat} (h1 : ¬ r.kind = 1) (h2 : ¬ r.kind = 2) (h3 : ¬ r.kind = 3) (h4 : ¬ r.kind = 4) : kp r L f = decide (r.k ≤ uq L + f) := by unfold kp; rw [if_neg h1, if_neg h2, if_neg h3, if_neg h4]
theorem beq_d (a b : Int) : (a == b) = decide (a = b) := by rw [Bool.eq_iff_iff, beq_iff_eq, decide_eq_true_eq]

theorem fkeeps_spec {x : SW} (H : VHeap) (r : Rul) (l : List Int) (f : Nat) (hl : l.length ≤ 1000000) (hf : f ≤ 1000000) : F (psys x) 76 [.agg (rlB r), fzI l, iI (f : Nat)] H fun v G => v = .bool (kp r l f) ∧ G = H := by
 have h9 := uq_le l
 refine F_body Try.func76 rfl uS6n42 rfl ?_
 refine B_seq (B_region ?_)
 refine L_op (env' := uS6n42) rfl rfl (v_boxT rfl rfl rfl) rfl ?_
 refine L_op (env' := uS6n42) rfl rfl (v_const (VVal.bool false) (.inr rfl) rfl) rfl ?_
 refine L_nil (K_seq (B_seq (B_seq (B_region ?_))))
 refine L_op (env' := uS6n42) rfl rfl (rfl) rfl ?_
 refine L_op (env' := uS6n42) rfl rfl (wS6n7 rfl rfl rfl rfl) rfl ?_
 refine L_nil (K_seq (B_block (B_seq (B_region ?_))))
 refine L_op (env' := uS6n42) rfl rfl (rfl) rfl ?_
 refine L_op (env' := uS6n42) rfl rfl (v_move (.inr rfl) rfl) rfl ?_
 refine L_nil (K_seq ?_)
 refine B_cond _ rfl (fun hc1 => ?_) (fun hc1 => ?_)
 ·try simp only [qB] at hc1
  refine B_seq (B_region ?_)
  refine L_op (env' := uS6n42) rfl rfl (v_move (.inl rfl) rfl) rfl ?_
  refine L_call rfl rfl rfl (by exact unlike_spec _ _ (by omega)) ?_
  rintro _ _ ⟨rfl, rfl⟩
  refine L_env (env' := uS6n42) rfl ?_
  refine L_op (env' := uS6n42) rfl rfl (v_move (.inl rfl) rfl) rfl ?_
  refine L_op (env' := uS6n42) rfl rfl (rfl) rfl ?_
  refine L_op (env' := uS6n42) rfl rfl (rfl) rfl ?_
  refine L_op (env' := uS6n42) rfl rfl (v_move (.inr rfl) rfl) rfl ?_
  refine L_nil (K_seq (B_ret (K_blkR (K_seqR ?_))))
  refine E_app (.inr rfl) (vres_tmp rfl rfl) (by first | exact BaseOk.refl _ | exact BaseOk.set (BaseOk.refl _) _ rfl) (by first | rfl | simp [VVal.under, VVal.underL, *]) ?_
  first
    | exact ⟨by rw [kp1 (by assumption), beq_d]; exact dec_d (by rw [← uq_all]; omega), rfl⟩
    | exact ⟨by rw [kp2 (by assumption)]; exact dec_d (by omega), rfl⟩
    | exact ⟨by rw [kp3 (by assumption)], rfl⟩
    | exact ⟨by rw [kp4 (by assumption)], rfl⟩
    | exact ⟨by rw [kp5 (by assumption) (by assumption) (by assumption) (by assumption)], rfl⟩
 ·try simp only [qB] at hc1
  refine B_seq (B_region ?_)
  refine L_op (env' := uS6n42) rfl rfl (rfl) rfl ?_
  refine L_op (env' := uS6n42) rfl rfl (v_move (.inr rfl) rfl) rfl ?_
  refine L_nil (K_seq ?_)
  refine B_cond _ rfl (fun hc2 => ?_) (fun hc2 => ?_)
  ·try simp only [qB] at hc2
   refine B_seq (B_region ?_)
   refine L_op (env' := uS6n42) rfl rfl (v_move (.inl rfl) rfl) rfl ?_
   refine L_call rfl rfl rfl (by exact unlike_spec _ _ (by omega)) ?_
   rintro _ _ ⟨rfl, rfl⟩
   refine L_env (env' := uS6n42) rfl ?_
   refine L_op (env' := uS6n42) rfl rfl (rfl) rfl ?_
   refine L_op (env' := uS6n42) rfl rfl (v_move (.inr rfl) rfl) rfl ?_
   refine L_nil (K_seq (B_ret (K_blkR (K_seqR ?_))))
   refine E_app (.inr rfl) (vres_tmp rfl rfl) (by first | exact BaseOk.refl _ | exact BaseOk.set (BaseOk.refl _) _ rfl) (by first | rfl | simp [VVal.under, VVal.underL, *]) ?_
   first
     | exact ⟨by rw [kp1 (by assumption), beq_d]; exact dec_d (by rw [← uq_all]; omega), rfl⟩
     | exact ⟨by rw [kp2 (by assumption)]; exact dec_d (by omega), rfl⟩
     | exact ⟨by rw [kp3 (by assumption)], rfl⟩
     | exact ⟨by rw [kp4 (by assumption)], rfl⟩
     | exact ⟨by rw [kp5 (by assumption) (by assumption) (by assumption) (by assumption)], rfl⟩
  ·try simp only [qB] at hc2
   refine B_seq (B_region ?_)
   refine L_op (env' := uS6n42) rfl rfl (rfl) rfl ?_
   refine L_op (env' := uS6n42) rfl rfl (v_move (.inr rfl) rfl) rfl ?_
   refine L_nil (K_seq ?_)
   refine B_cond _ rfl (fun hc3 => ?_) (fun hc3 => ?_)
   ·try simp only [qB] at hc3
    refine B_seq ?_
    refine B_draw [0, 2, 3, 1, 4, 5] #[0, 1, 0, 4, 15, 31] (by kernel_rfl) (by kernel_rfl) (by kernel_rfl) ?_
    refine O_op (env' := uS6n42) (c := .calm) rfl rfl rfl (v_move (.inl rfl) rfl) rfl rfl rfl ?_
    refine O_op (env' := uS6n42) (c := .calm) rfl rfl rfl (rfl) rfl rfl rfl ?_
    refine O_opI (env' := uS6n42) (x := .look _ _) rfl rfl rfl (wS6n7 rfl rfl rfl rfl) rfl rfl rfl ?_
    refine O_call (env' := uS6n42) rfl rfl rfl rfl rfl (by exact often_spec _ _ (by omega)) (by first | exact Nat.le_refl _ | simp) rfl rfl ?_
    refine O_op (env' := uS6n42) (c := .calm) rfl rfl rfl (rfl) rfl rfl rfl ?_
    refine O_op (env' := uS6n42) (c := .calm) rfl rfl rfl (v_move (.inr rfl) rfl) rfl rfl rfl ?_
    refine O_nil [_] (by rfl) (And.intro (And.intro (wS6n7 rfl rfl rfl rfl) (wS6n7 rfl rfl rfl rfl)) trivial) ?_
    refine K_seq (B_ret (K_blkR (K_seqR ?_)))
    refine E_app (.inr rfl) (vres_tmp rfl rfl) (by first | exact BaseOk.refl _ | exact BaseOk.set (BaseOk.refl _) _ rfl) (by first | rfl | simp [VVal.under, VVal.underL, *]) ?_
    first
      | exact ⟨by rw [kp1 (by assumption), beq_d]; exact dec_d (by rw [← uq_all]; omega), rfl⟩
      | exact ⟨by rw [kp2 (by assumption)]; exact dec_d (by omega), rfl⟩
      | exact ⟨by rw [kp3 (by assumption)], rfl⟩
      | exact ⟨by rw [kp4 (by assumption)], rfl⟩
      | exact ⟨by rw [kp5 (by assumption) (by assumption) (by assumption) (by assumption)], rfl⟩
   ·try simp only [qB] at hc3
    refine B_seq (B_region ?_)
    refine L_op (env' := uS6n42) rfl rfl (rfl) rfl ?_
    refine L_op (env' := uS6n42) rfl rfl (v_move (.inr rfl) rfl) rfl ?_
    refine L_nil (K_seq ?_)
    refine B_cond _ rfl (fun hc4 => ?_) (fun hc4 => ?_)
    ·try simp only [qB] at hc4
     refine B_seq ?_
     refine B_draw [0, 2, 3, 1, 4, 5] #[0, 1, 0, 4, 15, 31] (by kernel_rfl) (by kernel_rfl) (by kernel_rfl) ?_
     refine O_op (env' := uS6n42) (c := .calm) rfl rfl rfl (v_move (.inl rfl) rfl) rfl rfl rfl ?_
     refine O_op (env' := uS6n42) (c := .calm) rfl rfl rfl (rfl) rfl rfl rfl ?_
     refine O_opI (env' := uS6n42) (x := .look _ _) rfl rfl rfl (wS6n7 rfl rfl rfl rfl) rfl rfl rfl ?_
     refine O_call (env' := uS6n42) rfl rfl rfl rfl rfl (by exact unlike_spec _ _ (by omega)) (by first | exact Nat.le_refl _ | simp) rfl rfl ?_
     refine O_op (env' := uS6n42) (c := .calm) rfl rfl rfl (rfl) rfl rfl rfl ?_
     refine O_op (env' := uS6n42) (c := .calm) rfl rfl rfl (v_move (.inr rfl) rfl) rfl rfl rfl ?_
     refine O_nil [_] (by rfl) (And.intro (And.intro (wS6n7 rfl rfl rfl rfl) (wS6n7 rfl rfl rfl rfl)) trivial) ?_
     refine K_seq (B_ret (K_blkR (K_seqR ?_)))
     refine E_app (.inr rfl) (vres_tmp rfl rfl) (by first | exact BaseOk.refl _ | exact BaseOk.set (BaseOk.refl _) _ rfl) (by first | rfl | simp [VVal.under, VVal.underL, *]) ?_
     first
       | exact ⟨by rw [kp1 (by assumption), beq_d]; exact dec_d (by rw [← uq_all]; omega), rfl⟩
       | exact ⟨by rw [kp2 (by assumption)]; exact dec_d (by omega), rfl⟩
       | exact ⟨by rw [kp3 (by assumption)], rfl⟩
       | exact ⟨by rw [kp4 (by assumption)], rfl⟩
       | exact ⟨by rw [kp5 (by assumption) (by assumption) (by assumption) (by assumption)], rfl⟩
    ·try simp only [qB] at hc4
     refine B_skip (K_blk (K_seq (B_seq ?_)))
     refine B_draw [0, 2, 4, 5, 1, 3, 6, 7] #[0, 1, 0, 7, 0, 16, 63, 127] (by kernel_rfl) (by kernel_rfl) (by kernel_rfl) ?_
     refine O_op (env' := uS6n42) (c := .calm) rfl rfl rfl (v_move (.inl rfl) rfl) rfl rfl rfl ?_
     refine O_op (env' := uS6n42) (c := .calm) rfl rfl rfl (v_move (.inl rfl) rfl) rfl rfl rfl ?_
     refine O_op (env' := uS6n42) (c := .calm) rfl rfl rfl (rfl) rfl rfl rfl ?_
     refine O_opI (env' := uS6n42) (x := .look _ _) rfl rfl rfl (wS6n7 rfl rfl rfl rfl) rfl rfl rfl ?_
     refine O_call (env' := uS6n42) rfl rfl rfl rfl rfl (by exact unlike_spec _ _ (by omega)) (by first | exact Nat.le_refl _ | simp) rfl rfl ?_
     refine O_op (env' := uS6n42) (c := .calm) rfl rfl rfl (wS6n3 rfl rfl rfl) rfl rfl rfl ?_
     refine O_op (env' := uS6n42) (c := .calm) rfl rfl rfl (rfl) rfl rfl rfl ?_
     refine O_op (env' := uS6n42) (c := .calm) rfl rfl rfl (v_move (.inr rfl) rfl) rfl rfl rfl ?_
     refine O_nil [_] (by rfl) (And.intro (And.intro (wS6n7 rfl rfl rfl rfl) (wS6n7 rfl rfl rfl rfl)) trivial) ?_
     refine K_seq (B_ret ?_)
     refine E_app (.inr rfl) (vres_tmp rfl rfl) (by first | exact BaseOk.refl _ | exact BaseOk.set (BaseOk.refl _) _ rfl) (by first | rfl | simp [VVal.under, VVal.underL, *]) ?_
     first
       | exact ⟨by rw [kp1 (by assumption), beq_d]; exact dec_d (by rw [← uq_all]; omega), rfl⟩
       | exact ⟨by rw [kp2 (by assumption)]; exact dec_d (by omega), rfl⟩
       | exact ⟨by rw [kp3 (by assumption)], rfl⟩
       | exact ⟨by rw [kp4 (by assumption)], rfl⟩
       | exact ⟨by rw [kp5 (by assumption) (by assumption) (by assumption) (by assumption)], rfl⟩

theorem fEarly_spec {x : SW} (H : VHeap) (r : Rul) (n : Int) (l : List Int) (hl : r.steps.length ≤ 1000000) : F (psys x) 68 [.agg (rlB r), iI n, fzI l] H fun v G => v = .bool (erl r n l) ∧ G = H := by
 refine F_body Try.func68 rfl uS6n52 rfl ?_
 refine B_seq (B_region ?_)
 refine L_op (env' := uS6n52) rfl rfl (v_boxT rfl rfl rfl) rfl ?_
 refine L_op (env' := uS6n52) rfl rfl (v_const (VVal.bool false) (.inr rfl) rfl) rfl ?_
 refine L_nil (K_seq (B_seq (B_seq (B_region ?_))))
 refine L_op (env' := uS6n52) rfl rfl (v_move (.inl rfl) rfl) rfl ?_
 refine L_op (env' := uS6n52) rfl rfl (wS6n8 rfl rfl rfl rfl rfl) rfl ?_
 refine L_call rfl rfl rfl (by exact fCheck_spec _ _ _ (by omega)) ?_
 rintro _ _ ⟨rfl, rfl⟩
 refine L_env (env' := uS6n52) rfl ?_
 refine L_op (env' := uS6n52) rfl rfl (rfl) rfl ?_
 refine L_op (env' := uS6n52) rfl rfl (v_move (.inl rfl) rfl) rfl ?_
 refine L_split 14 (env1 := uS6n52) (env2 := uS6n52) rfl rfl rfl (fun hg1 => ?_) (fun hg1 => ?_)
 ·try simp only [qB, qN] at hg1
  refine L_off (env' := uS6n52) rfl rfl ?_
  refine L_off (env' := uS6n52) rfl rfl ?_
  refine L_off (env' := uS6n52) rfl rfl ?_
  refine L_off (env' := uS6n52) rfl rfl ?_
  refine L_op (env' := uS6n52) rfl rfl (v_pickTC (VVal.bool true) rfl rfl rfl) rfl ?_
  refine L_nil (K_seq ?_)
  refine B_true rfl rfl ?_
  refine B_seq (B_region ?_)
  refine L_op (env' := uS6n52) rfl rfl (v_const (VVal.bool false) (.inr rfl) rfl) rfl ?_
  refine L_nil (K_seq (B_ret (K_seqR ?_)))
  refine E_app (.inr rfl) (vres_tmp rfl rfl) (by first | exact BaseOk.refl _ | exact BaseOk.set (BaseOk.refl _) _ rfl) (by first | rfl | simp [VVal.under, VVal.underL, *]) ?_
  first
    | exact ⟨by unfold erl; rw [(by assumption : rck n r = false)]; rfl, rfl⟩
    | exact ⟨by unfold erl; rw [decide_eq_false (by omega), Bool.false_and, Bool.and_false], rfl⟩
    | exact ⟨by unfold erl; rw [hck, decide_eq_true (by omega), hA.1, hA.2]; rfl, rfl⟩
 ·try simp only [qB, qN] at hg1
  refine L_op (env' := uS6n52) rfl rfl (v_move (.inl rfl) rfl) rfl ?_
  refine L_op (env' := uS6n52) rfl rfl (rfl) rfl ?_
  refine L_op (env' := uS6n52) rfl rfl (v_move (.inl rfl) rfl) rfl ?_
  refine L_op (env' := uS6n52) rfl rfl (rfl) rfl ?_
  refine L_op (env' := uS6n52) rfl rfl (v_pickF rfl rfl rfl) rfl ?_
  refine L_nil (K_seq ?_)
  refine B_cond _ rfl (fun hc2 => ?_) (fun hc2 => ?_)
  ·try simp only [qB, qN] at hc2
   refine B_seq (B_region ?_)
   refine L_op (env' := uS6n52) rfl rfl (v_const (VVal.bool false) (.inr rfl) rfl) rfl ?_
   refine L_nil (K_seq (B_ret (K_seqR ?_)))
   refine E_app (.inr rfl) (vres_tmp rfl rfl) (by first | exact BaseOk.refl _ | exact BaseOk.set (BaseOk.refl _) _ rfl) (by first | rfl | simp [VVal.under, VVal.underL, *]) ?_
   first
     | exact ⟨by unfold erl; rw [(by assumption : rck n r = false)]; rfl, rfl⟩
     | exact ⟨by unfold erl; rw [decide_eq_false (by omega), Bool.false_and, Bool.and_false], rfl⟩
     | exact ⟨by unfold erl; rw [hck, decide_eq_true (by omega), hA.1, hA.2]; rfl, rfl⟩
  ·try simp only [qB, qN] at hc2
   refine B_skip (K_seq (B_seq ?_))
   have hck : rck n r = true := by assumption
   have hpos := rck_pos hck
   refine B_region ?_
   refine L_op (env' := uS6n52) rfl rfl (v_const (VVal.slice none 0 0 true 0) (.inr rfl) rfl) rfl ?_
   refine L_nil (K_seq (B_seq (B_region ?_)))
   refine L_op (env' := uS6n52) rfl rfl (v_const (VVal.int .i64 0) (.inr rfl) rfl) rfl ?_
   refine L_nil (K_seq (B_seq (B_seq (B_region ?_))))
   refine L_op (env' := uS6n52) rfl rfl (v_const (VVal.int .i64 0) (.inr rfl) rfl) rfl ?_
   refine L_nil (K_seq (B_block ?_))
   refine B_clear (mk 52 4503599627369587) (env' := uS6n52) rfl ?_
   refine B_loopE (fun (⟨k, lv⟩ : Nat × VVal) => r.steps.length - k) (fun (⟨k, lv⟩ : Nat × VVal) => [(7, lv), (8, iI (lfK r l k : Nat)), (9, iI (k : Nat))]) (fun (⟨k, lv⟩ : Nat × VVal) G => (k ≤ r.steps.length) ∧ ∃ X, G = (H ++ [VBlk.cells (rlB r) true]) ++ X ∧ LV (H ++ [VBlk.cells (rlB r) true]).length 1 X lv ((lbK r l k).map iI) (lbK r l k).length) ⟨0, _⟩ rfl ?_ ?_
   ·refine ⟨?_, ⟨[], (by simp), LV.nil _ _ _⟩⟩
    exact Nat.zero_le _
   rintro ⟨k, lv⟩ _ ⟨hk, ⟨X, rfl, hl2⟩⟩
   refine B_env (env' := uS6n52) rfl ?_
   refine B_seq (B_seq (B_region ?_))
   refine L_op (env' := uS6n52) rfl rfl (v_move (.inl rfl) rfl) rfl ?_
   refine L_op (env' := uS6n52) rfl rfl (rfl) rfl ?_
   refine L_op (env' := uS6n52) rfl rfl (wS6n9 rfl rfl rfl rfl) rfl ?_
   refine L_op (env' := uS6n52) rfl rfl (rfl) rfl ?_
   refine L_op (env' := uS6n52) rfl rfl (rfl) rfl ?_
   refine L_nil (K_seq ?_)
   refine B_cond _ rfl (fun hc3 => ?_) (fun hc3 => ?_)
   ·try simp only [qB, qN] at hc3
    refine B_skip (K_seq (B_seq (B_block (B_seq (B_region ?_)))))
    refine L_op (env' := uS6n52) rfl rfl (rfl) rfl ?_
    refine L_op (env' := uS6n52) rfl rfl (wS6n9 rfl rfl rfl rfl) rfl ?_
    refine L_op (env' := uS6n52) rfl rfl (v_move (.inl rfl) rfl) rfl ?_
    refine L_op (env' := uS6n52) rfl rfl (wS6n1 rfl rfl rfl rfl rfl rfl rfl) rfl ?_
    refine L_op (env' := uS6n52) rfl rfl (wS6n9 rfl rfl rfl rfl) rfl ?_
    refine L_op (env' := uS6n52) rfl rfl (v_move (.inl rfl) rfl) rfl ?_
    refine L_op (env' := uS6n52) rfl rfl (rfl) rfl ?_
    refine L_op (env' := uS6n52) rfl rfl (rfl) rfl ?_
    refine L_nil (K_seq ?_)
    refine B_cond _ rfl (fun hc4 => ?_) (fun hc4 => ?_)
    ·try simp only [qB, qN] at hc4
     have hlk := lbK_len (r := r) (l := l) hk
     have hps : 0 ≤ r.steps.getD k 0 := hpos _ (mem_getI (by omega))
     have hE := lbK_lt (r := r) (l := l) (k := k) (by omega) (by omega)
     refine B_region ?_
     refine L_op (env' := uS6n52) rfl rfl (v_move (.inl rfl) rfl) rfl ?_
     refine L_op (env' := uS6n52) rfl rfl (v_move (.inl rfl) rfl) rfl ?_
     refine L_op (env' := uS6n52) rfl rfl (rfl) rfl ?_
     refine L_op (env' := uS6n52) rfl rfl (wS6n9 rfl rfl rfl rfl) rfl ?_
     refine L_op (env' := uS6n52) rfl rfl (v_move (.inl rfl) rfl) rfl ?_
     refine L_op (env' := uS6n52) rfl rfl (wS6n1 rfl rfl rfl rfl rfl rfl rfl) rfl ?_
     refine L_op (env' := uS6n52) rfl rfl (wS6n9 rfl rfl rfl rfl) rfl ?_
     refine L_op (env' := uS6n52) rfl rfl (wS6n1 rfl rfl rfl rfl rfl rfl rfl) rfl ?_
     refine L_op (env' := uS6n52) rfl rfl (wS6n9 rfl rfl rfl rfl) rfl ?_
     refine L_op (env' := uS6n52) rfl rfl (v_buildSlice rfl rfl (by decide) rfl) rfl ?_
     refine L_opX rfl rfl (v_appX rfl rfl rfl rfl rfl rfl rfl hl2 rfl rfl (by decide) (by show (_ + 1) * 8 ≤ _ ∧ _ + 1 ≤ _; omega) (by decide)) ?_
     rintro _ _ ⟨Y1, rfl, rfl, hY1, hY2, hY3⟩
     refine L_env (env' := uS6n52) rfl ?_
     refine L_op (env' := uS6n52) rfl rfl (v_move (.inr rfl) rfl) rfl ?_
     refine L_nil (K_blk (K_seq (B_region ?_)))
     refine L_op (env' := uS6n52) rfl rfl (v_move (.inl rfl) rfl) rfl ?_
     refine L_op (env' := uS6n52) rfl rfl (wS6n3 rfl rfl rfl) rfl ?_
     refine L_op (env' := uS6n52) rfl rfl (v_move (.inr rfl) rfl) rfl ?_
     refine L_nil ?_
     first | rw [show ((lfK r l k : Nat) : Int) + 1 = (lfK r l (k + 1) : Nat) by rw [hE.2]; rfl] | rw [← hE.2]
     refine K_loop (mk 52 4503599627369587) (env' := uS6n52) rfl ⟨⟨k + 1, _⟩, ?_, rfl, ?_⟩
     ·first | omega | (simp only []; omega)
     ·first | exact ⟨by omega, _, rfl, by rw [hE.1]; exact hl2⟩ | exact ⟨by omega, _, rfl, by rw [hE.1]; exact LV.pushI hY3⟩
    ·try simp only [qB, qN] at hc4
     have hlk := lbK_len (r := r) (l := l) hk
     have hE := lbK_ge (r := r) (l := l) (k := k) (by omega) (by omega)
     refine B_region ?_
     refine L_op (env' := uS6n52) rfl rfl (v_move (.inl rfl) rfl) rfl ?_
     refine L_op (env' := uS6n52) rfl rfl (wS6n3 rfl rfl rfl) rfl ?_
     refine L_op (env' := uS6n52) rfl rfl (v_move (.inr rfl) rfl) rfl ?_
     refine L_nil (K_blk (K_seq (B_region ?_)))
     refine L_op (env' := uS6n52) rfl rfl (v_move (.inl rfl) rfl) rfl ?_
     refine L_op (env' := uS6n52) rfl rfl (wS6n3 rfl rfl rfl) rfl ?_
     refine L_op (env' := uS6n52) rfl rfl (v_move (.inr rfl) rfl) rfl ?_
     refine L_nil ?_
     first | rw [show ((lfK r l k : Nat) : Int) + 1 = (lfK r l (k + 1) : Nat) by rw [hE.2]; rfl] | rw [← hE.2]
     refine K_loop (mk 52 4503599627369587) (env' := uS6n52) rfl ⟨⟨k + 1, _⟩, ?_, rfl, ?_⟩
     ·first | omega | (simp only []; omega)
     ·first | exact ⟨by omega, _, rfl, by rw [hE.1]; exact hl2⟩ | exact ⟨by omega, _, rfl, by rw [hE.1]; exact LV.pushI hY3⟩
   ·try simp only [qB, qN] at hc3
    refine B_exit (K_seqX (K_loopX (K_blkX (K_seq (B_seq ?_)))))
    have hlk := lbK_len (r := r) (l := l) hk
    have hA := lbK_all (r := r) (l := l) (k := k) (by omega)
    refine B_ghLV (env' := uS6n52) 7 hl2 rfl rfl fun X2 hX2 _ => ?_
    refine B_heap (List.append_assoc _ _ _) ?_
    refine B_region ?_
    refine L_op (env' := uS6n52) rfl rfl (wS6n8 rfl rfl rfl rfl rfl) rfl ?_
    refine L_op (env' := uS6n52) rfl rfl (v_move (.inl rfl) rfl) rfl ?_
    refine L_op (env' := uS6n52) rfl rfl (v_move (.inl rfl) rfl) rfl ?_
    refine L_call rfl rfl rfl (by exact fkeeps_spec _ r (lbK r l k) (lfK r l k) (by omega) (by omega)) ?_
    rintro _ _ ⟨rfl, rfl⟩
    refine L_env (env' := uS6n52) rfl ?_
    refine L_op (env' := uS6n52) rfl rfl (v_move (.inr rfl) rfl) rfl ?_
    refine L_nil (K_seq (B_ret ?_))
    refine E_app (.inr rfl) (vres_tmp rfl rfl) (by first | exact BaseOk.refl _ | exact BaseOk.set (BaseOk.refl _) _ rfl) (by first | rfl | simp [VVal.under, VVal.underL, *]) ?_
    first
      | exact ⟨by unfold erl; rw [(by assumption : rck n r = false)]; rfl, rfl⟩
      | exact ⟨by unfold erl; rw [decide_eq_false (by omega), Bool.false_and, Bool.and_false], rfl⟩
      | exact ⟨by unfold erl; rw [hck, decide_eq_true (by omega), hA.1, hA.2]; rfl, rfl⟩

theorem fHolds_spec {x : SW} (H : VHeap) (r : Rul) (l : List Int) (hl : r.steps.length ≤ 1000000) : F (psys x) 57 [.agg (rlB r), fzI l] H fun v G => v = .bool (hld r l) ∧ G = H := by
 refine F_body Try.func57 rfl uS6n16 rfl ?_
 refine B_seq (B_region ?_)
 refine L_op (env' := uS6n16) rfl rfl (v_boxT rfl rfl rfl) rfl ?_
 refine L_op (env' := uS6n16) rfl rfl (v_const (VVal.bool false) (.inr rfl) rfl) rfl ?_
 refine L_nil (K_seq (B_seq (B_region ?_)))
 refine L_op (env' := uS6n16) rfl rfl (v_move (.inl rfl) rfl) rfl ?_
 refine L_op (env' := uS6n16) rfl rfl (rfl) rfl ?_
 refine L_op (env' := uS6n16) rfl rfl (wS6n10 rfl rfl rfl rfl rfl) rfl ?_
 refine L_call rfl rfl rfl (by exact fCheck_spec _ _ _ (by omega)) ?_
 rintro _ _ ⟨rfl, rfl⟩
 refine L_env (env' := uS6n16) rfl ?_
 refine L_op (env' := uS6n16) rfl rfl (v_move (.inl rfl) rfl) rfl ?_
 refine L_split 9 (env1 := uS6n16) (env2 := uS6n16) rfl rfl rfl (fun hg1 => ?_) (fun hg1 => ?_)
 ·try simp only [qB] at hg1
  refine L_op (env' := uS6n16) rfl rfl (wS6n10 rfl rfl rfl rfl rfl) rfl ?_
  refine L_op (env' := uS6n16) rfl rfl (v_move (.inl rfl) rfl) rfl ?_
  refine L_op (env' := uS6n16) rfl rfl (rfl) rfl ?_
  refine L_op (env' := uS6n16) rfl rfl (v_move (.inl rfl) rfl) rfl ?_
  refine L_call rfl rfl rfl (by exact fEarly_spec _ _ _ _ (by omega)) ?_
  rintro _ _ ⟨rfl, rfl⟩
  refine L_env (env' := uS6n16) rfl ?_
  refine L_op (env' := uS6n16) rfl rfl (v_pickT rfl rfl rfl) rfl ?_
  refine L_op (env' := uS6n16) rfl rfl (v_move (.inr rfl) rfl) rfl ?_
  refine L_nil (K_seq (B_ret ?_))
  refine E_app (.inr rfl) (vres_tmp rfl rfl) (by first | exact BaseOk.refl _ | exact BaseOk.set (BaseOk.refl _) _ rfl) (by first | rfl | simp [VVal.under, VVal.underL, *]) ?_
  first
    | exact ⟨by unfold hld; rw [(by assumption : rck l.length r = false)]; rfl, rfl⟩
    | exact ⟨by unfold hld erl; rw [decide_eq_true (Int.le_refl _), Bool.true_and], rfl⟩
 ·try simp only [qB] at hg1
  refine L_off (env' := uS6n16) rfl rfl ?_
  refine L_off (env' := uS6n16) rfl rfl ?_
  refine L_off (env' := uS6n16) rfl rfl ?_
  refine L_off (env' := uS6n16) rfl rfl ?_
  refine L_off (env' := uS6n16) rfl rfl ?_
  refine L_op (env' := uS6n16) rfl rfl (v_pickFC (VVal.bool false) rfl rfl rfl) rfl ?_
  refine L_op (env' := uS6n16) rfl rfl (v_move (.inr rfl) rfl) rfl ?_
  refine L_nil (K_seq (B_ret ?_))
  refine E_app (.inr rfl) (vres_tmp rfl rfl) (by first | exact BaseOk.refl _ | exact BaseOk.set (BaseOk.refl _) _ rfl) (by first | rfl | simp [VVal.under, VVal.underL, *]) ?_
  first
    | exact ⟨by unfold hld; rw [(by assumption : rck l.length r = false)]; rfl, rfl⟩
    | exact ⟨by unfold hld erl; rw [decide_eq_true (Int.le_refl _), Bool.true_and], rfl⟩

theorem fBroken_spec {x : SW} (H : VHeap) (rs : List Rul) (l : List Int) (hR : ∀ r, r ∈ rs → r.steps.length ≤ 1000000) (hn : rs.length ≤ 1000000) : F (psys x) 36 [fzR rs, fzI l] H fun v G => v = fzI (brk rs l) ∧ G = H := by
 refine F_body Try.func36 rfl uS6n25 rfl ?_
 refine B_seq (B_region ?_)
 refine L_op (env' := uS6n25) rfl rfl (v_const (VVal.slice none 0 0 true 0) (.inr rfl) rfl) rfl ?_
 refine L_nil (K_seq (B_seq (B_region ?_)))
 refine L_op (env' := uS6n25) rfl rfl (v_const (VVal.slice none 0 0 true 0) (.inr rfl) rfl) rfl ?_
 refine L_nil (K_seq (B_seq (B_seq (B_region ?_))))
 refine L_op (env' := uS6n25) rfl rfl (v_const (VVal.int .i64 0) (.inr rfl) rfl) rfl ?_
 refine L_nil (K_seq (B_block ?_))
 refine B_clear (mk 25 33554332) (env' := uS6n25) rfl ?_
 refine B_loopE (fun (⟨k, lv⟩ : Nat × VVal) => rs.length - k) (fun (⟨k, lv⟩ : Nat × VVal) => [(5, lv), (6, iI (k : Nat))]) (fun (⟨k, lv⟩ : Nat × VVal) G => (k ≤ rs.length) ∧ ∃ X, G = H ++ X ∧ LV H.length 1 X lv ((brk (rs.take k) l).map iI) (brk (rs.take k) l).length) ⟨0, _⟩ rfl ?_ ?_
 ·refine ⟨?_, ⟨_, rfl, LV.nil _ _ _⟩⟩
  exact Nat.zero_le _
 rintro ⟨k, lv⟩ _ ⟨hk, ⟨X, rfl, hl⟩⟩
 refine B_env (env' := uS6n25) rfl ?_
 refine B_seq (B_seq (B_region ?_))
 refine L_op (env' := uS6n25) rfl rfl (v_move (.inl rfl) rfl) rfl ?_
 refine L_op (env' := uS6n25) rfl rfl (v_move (.inl rfl) rfl) rfl ?_
 refine L_op (env' := uS6n25) rfl rfl (rfl) rfl ?_
 refine L_op (env' := uS6n25) rfl rfl (rfl) rfl ?_
 refine L_nil (K_seq ?_)
 refine B_cond _ rfl (fun hc1 => ?_) (fun hc1 => ?_)
 ·try simp only [qB, qN] at hc1
  refine B_skip (K_seq (B_seq (B_block (B_seq (B_region ?_)))))
  refine L_op (env' := uS6n25) rfl rfl (v_move (.inl rfl) rfl) rfl ?_
  refine L_op (env' := uS6n25) rfl rfl (v_move (.inl rfl) rfl) rfl ?_
  refine L_op (env' := uS6n25) rfl rfl (wS6n1 rfl rfl rfl rfl rfl rfl rfl) rfl ?_
  refine L_op (env' := uS6n25) rfl rfl (wS6n11 rfl rfl rfl rfl rfl) rfl ?_
  refine L_op (env' := uS6n25) rfl rfl (v_move (.inl rfl) rfl) rfl ?_
  refine L_call rfl rfl rfl (by exact fHolds_spec _ _ _ (hR _ (rul_mem (by omega)))) ?_
  rintro _ _ ⟨rfl, rfl⟩
  refine L_env (env' := uS6n25) rfl ?_
  refine L_op (env' := uS6n25) rfl rfl (rfl) rfl ?_
  refine L_nil (K_seq ?_)
  refine B_cond _ rfl (fun hc2 => ?_) (fun hc2 => ?_)
  ·try simp only [qB, qN] at hc2
   refine B_region ?_
   refine L_op (env' := uS6n25) rfl rfl (v_move (.inl rfl) rfl) rfl ?_
   refine L_op (env' := uS6n25) rfl rfl (v_move (.inl rfl) rfl) rfl ?_
   refine L_op (env' := uS6n25) rfl rfl (v_buildSlice rfl rfl (by decide) rfl) rfl ?_
   refine L_opX rfl rfl (v_appX rfl rfl rfl rfl rfl rfl rfl hl rfl rfl (by decide) (by have := brk_lenK (rs := rs) (l := l) (k := k); show (_ + 1) * 8 ≤ _ ∧ _ + 1 ≤ _; omega) (by decide)) ?_
   rintro _ _ ⟨Y1, rfl, rfl, hY1, hY2, hY3⟩
   refine L_env (env' := uS6n25) rfl ?_
   refine L_op (env' := uS6n25) rfl rfl (v_move (.inr rfl) rfl) rfl ?_
   refine L_nil (K_blk (K_seq (B_region ?_)))
   refine L_op (env' := uS6n25) rfl rfl (v_move (.inl rfl) rfl) rfl ?_
   refine L_op (env' := uS6n25) rfl rfl (wS6n3 rfl rfl rfl) rfl ?_
   refine L_op (env' := uS6n25) rfl rfl (v_move (.inr rfl) rfl) rfl ?_
   refine L_nil ?_
   refine K_loop (mk 25 33554332) (env' := uS6n25) rfl ⟨⟨k + 1, _⟩, ?_, rfl, ?_⟩
   ·first | omega | (simp only []; omega)
   ·first | exact ⟨by omega, _, rfl, by rw [brk_yes (by omega) (by simpa using ‹_›)]; exact LV.app hl _⟩ | exact ⟨by omega, _, rfl, by rw [brk_yes (by omega) (by simpa using ‹_›)]; exact hl⟩ | exact ⟨by omega, _, rfl, by rw [brk_no (by omega) (by simpa using ‹_›)]; exact LV.pushI hY3⟩
  ·try simp only [qB, qN] at hc2
   refine B_skip (K_blk (K_seq (B_region ?_)))
   refine L_op (env' := uS6n25) rfl rfl (v_move (.inl rfl) rfl) rfl ?_
   refine L_op (env' := uS6n25) rfl rfl (wS6n3 rfl rfl rfl) rfl ?_
   refine L_op (env' := uS6n25) rfl rfl (v_move (.inr rfl) rfl) rfl ?_
   refine L_nil ?_
   refine K_loop (mk 25 33554332) (env' := uS6n25) rfl ⟨⟨k + 1, _⟩, ?_, rfl, ?_⟩
   ·first | omega | (simp only []; omega)
   ·first | exact ⟨by omega, _, rfl, by rw [brk_yes (by omega) (by simpa using ‹_›)]; exact LV.app hl _⟩ | exact ⟨by omega, _, rfl, by rw [brk_yes (by omega) (by simpa using ‹_›)]; exact hl⟩ | exact ⟨by omega, _, rfl, by rw [brk_no (by omega) (by simpa using ‹_›)]; exact LV.pushI hY3⟩
 ·try simp only [qB, qN] at hc1
  refine B_exit (K_seqX (K_loopX (K_blkX (K_seq (B_seq (B_region ?_))))))
  refine L_op (env' := uS6n25) rfl rfl (v_move (.inl rfl) rfl) rfl ?_
  refine L_op (env' := uS6n25) rfl rfl (v_move (.inr rfl) rfl) rfl ?_
  refine L_nil (K_seq (B_ret ?_))
  refine E_gh (.inr rfl) (vres_tmp rfl rfl) (Gh.ansLV (BaseOk.refl _) hl (mapI_under _ _)) ?_
  obtain rfl : k = rs.length := by omega
  rw [List.take_of_length_le (Nat.le_refl _)]
  exact ⟨rfl, rfl⟩
end Go.Proofs.Ytbngdhlmggdaaaa.VT
