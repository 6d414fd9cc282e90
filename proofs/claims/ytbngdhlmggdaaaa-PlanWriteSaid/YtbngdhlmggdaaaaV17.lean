/- Operations one by one; own blocks; words; ends. -/
import Derived.Test.YtbngdhlmggdaaaaV16
set_option autoImplicit false
set_option linter.unusedVariables false
namespace Go.V
open Go Go.RowKit

/-! ### Operations by themselves, for both kinds of regions -/
theorem v_move {ρ : VEnv} {T : TypeId → Option VTy} {H : VHeap} {i : Nat} {v : VVal} {op : Op} (ho : op = .move (.tmp i) ∨ op = .assign (.tmp i)) (hv : ρ[i]? = some v) : vop T ρ.eval H op = some (v, H) := by
  have hx : VEnv.eval ρ (.tmp i) = v := by simp [VEnv.eval, List.getD_eq_getElem?_getD, hv]
  rcases ho with rfl | rfl <;> simp only [vop, hx]
theorem v_const {ρ : VEnv} {T : TypeId → Option VTy} {H : VHeap} {c : Value} (v : VVal) {op : Op} (ho : op = .move (.const c) ∨ op = .assign (.const c)) (hv : VVal.ofConst c = v) : vop T ρ.eval H op = some (v, H) := by
  rcases ho with rfl | rfl <;> simp only [vop, VEnv.eval, hv]
theorem v_load {ρ : Operand → VVal} {T : TypeId → Option VTy} {H : VHeap} {t : TypeId} {a : Operand} {y : VTy} {b off : Nat} {cs : List VVal} {rw : Bool} {v : VVal} {op : Op} (ho : op = .load t a) (ha : ρ a = .ptr (some (b, off))) (hy : T t = some y) (hd : isAggDesc y.desc = false)
    (hb : H[b]? = some (.cells cs rw)) (hv : cs[off]? = some v) : vop T ρ H op = some (v, H) := by
  rw [ho]; simp only [vop, ha, vload, hy, vread, hb, hd, Bool.false_eq_true, if_false, hv, Option.map_some]
theorem v_loadA {ρ : Operand → VVal} {T : TypeId → Option VTy} {H : VHeap} {t : TypeId} {a : Operand} {y : VTy} {b off : Nat} {cs vs : List VVal} {rw : Bool} {op : Op} (ho : op = .load t a) (ha : ρ a = .ptr (some (b, off))) (hy : T t = some y) (hd : isAggDesc y.desc = true)
    (hb : H[b]? = some (.cells cs rw)) (hv : cellsAt cs off y.size = some vs) : vop T ρ H op = some (.agg vs, H) := by
  rw [ho]; simp only [vop, ha, vload, hy, vread, hb, hd, if_true, hv, Option.map_some]
theorem v_store {ρ : Operand → VVal} {T : TypeId → Option VTy} {H H' : VHeap} {t : TypeId} {a x : Operand} {y : VTy} {b off : Nat} {cs new : List VVal} {op : Op} (ho : op = .store t a x) (ha : ρ a = .ptr (some (b, off))) (hy : T t = some y) (hx : (ρ x).cells = some new) (hn : new.length = y.size) (h1 : new.all VVal.one = true)
    (hb : H[b]? = some (.cells cs true)) (hl : off + new.length ≤ cs.length) (hH : H.set b (.cells (splice cs off new) true) = H') : vop T ρ H op = some (.skip, H') := by
  rw [ho]; simp only [vop, vstore, ha, hy, hx, hn, h1, and_self, if_true, vwrite, hb]; rw [if_pos (by rw [← hn]; exact hl), hH]; rfl
theorem v_idx {ρ : Operand → VVal} {T : TypeId → Option VTy} {H : VHeap} {t e : TypeId} {x i : Operand} {y z : VTy} {b off len cap es : Nat} {ex : Bool} {k : IntKind} {n : Int} {op : Op} (ho : op = .indexAddr t x i) (hx : ρ x = .slice (some (b, off)) len cap ex es) (hi : ρ i = .int k n)
    (hy : T t = some y) (hd : y.desc = .slice e) (hz : T e = some z) (hs : z.size = es) (hn : 0 ≤ n ∧ n < len) : vop T ρ H op = some (.ptr (some (b, off + n.toNat * es)), H) := by
  rw [ho]; simp only [vop, vindexAddr, hx, hi, hy, hd, hz, hs, hn, and_self, if_true, Option.map_some]
theorem v_pickT {ρ : VEnv} {T : TypeId → Option VTy} {H : VHeap} {c b : Operand} {i : Nat} {v : VVal} {op : Op} (ho : op = .pick c (.tmp i) b) (hc : ρ.eval c = .bool true) (hv : ρ[i]? = some v) : vop T ρ.eval H op = some (v, H) := by
  have hx : VEnv.eval ρ (.tmp i) = v := by simp [VEnv.eval, List.getD_eq_getElem?_getD, hv]
  rw [ho]; simp only [vop, hc, if_true, hx]
theorem v_pickF {ρ : VEnv} {T : TypeId → Option VTy} {H : VHeap} {c a : Operand} {i : Nat} {v : VVal} {op : Op} (ho : op = .pick c a (.tmp i)) (hc : ρ.eval c = .bool false) (hv : ρ[i]? = some v) : vop T ρ.eval H op = some (v, H) := by
  have hx : VEnv.eval ρ (.tmp i) = v := by simp [VEnv.eval, List.getD_eq_getElem?_getD, hv]
  rw [ho]; simp only [vop, hc, Bool.false_eq_true, if_false, hx]
theorem v_pickTC {ρ : VEnv} {T : TypeId → Option VTy} {H : VHeap} {c b : Operand} {k : Value} (v : VVal) {op : Op} (ho : op = .pick c (.const k) b) (hc : ρ.eval c = .bool true) (hv : VVal.ofConst k = v) : vop T ρ.eval H op = some (v, H) := by
  rw [ho]; simp only [vop, hc, if_true, show ρ.eval (.const k) = v from hv]
theorem v_pickFC {ρ : VEnv} {T : TypeId → Option VTy} {H : VHeap} {c a : Operand} {k : Value} (v : VVal) {op : Op} (ho : op = .pick c a (.const k)) (hc : ρ.eval c = .bool false) (hv : VVal.ofConst k = v) : vop T ρ.eval H op = some (v, H) := by
  rw [ho]; simp only [vop, hc, Bool.false_eq_true, if_false, show ρ.eval (.const k) = v from hv]

theorem get_app {H L : VHeap} {n j : Nat} {x : VBlk} (hn : H.length = n) (h : L[j]? = some x) : (H ++ L)[n + j]? = some x := by
  subst hn; rw [List.getElem?_append_right (by omega)]; simpa using h
theorem get_out {H L : VHeap} {b : Nat} {x : VBlk} (h : H[b]? = some x) : (H ++ L)[b]? = some x := get_append h
theorem set_app {H L : VHeap} {n j : Nat} {x : VBlk} (hn : H.length = n) : (H ++ L).set (n + j) x = H ++ L.set j x := by
  subst hn; rw [List.set_append_right _ _ (by omega)]; simp
theorem set_out {H L : VHeap} {b : Nat} {x : VBlk} (hb : b < H.length) : (H ++ L).set b x = H.set b x ++ L := by
  rw [List.set_append_left _ _ hb]
theorem lt_of_get {H : VHeap} {b : Nat} {x : VBlk} (h : H[b]? = some x) : b < H.length := (List.getElem?_eq_some_iff.1 h).1

section
variable {T : TypeId → Option VTy} {ρ : Operand → VVal} {H L : VHeap} {op : Op}
theorem v_alloc {t : TypeId} {y : VTy} (ho : op = .alloc t) (hy : T t = some y) : vop T ρ (H ++ L) op = some (.ptr (some (H.length + L.length, 0)), H ++ (L ++ [.cells y.zero true])) := by
  rw [ho]; simp [vop, hy, vnew]
theorem v_box {t : TypeId} {x : Operand} {cs : List VVal} (ho : op = .box t x) (hx : (ρ x).cells = some cs) : vop T ρ (H ++ L) op = some (.ptr (some (H.length + L.length, 0)), H ++ (L ++ [.cells cs true])) := by
  rw [ho]; simp [vop, hx, vnew]
theorem v_boxT {ρ : VEnv} {t : TypeId} {i : Nat} {v : VVal} {cs : List VVal} (ho : op = .box t (.tmp i)) (hv : ρ[i]? = some v) (hx : v.cells = some cs) : vop T ρ.eval (H ++ L) op = some (.ptr (some (H.length + L.length, 0)), H ++ (L ++ [.cells cs true])) :=
  v_box ho (by simp only [VEnv.eval, List.getD_eq_getElem?_getD, hv, Option.getD_some, hx])
theorem v_storeT {ρ : VEnv} {H H' : VHeap} {t : TypeId} {a : Operand} {i : Nat} {v : VVal} {y : VTy} {b off : Nat} {cs new : List VVal} (ho : op = .store t a (.tmp i)) (hv : ρ[i]? = some v) (ha : ρ.eval a = .ptr (some (b, off))) (hy : T t = some y) (hx : v.cells = some new) (hn : new.length = y.size) (h1 : new.all VVal.one = true)
    (hb : H[b]? = some (.cells cs true)) (hl : off + new.length ≤ cs.length) (hH : H.set b (.cells (splice cs off new) true) = H') : vop T ρ.eval H op = some (.skip, H') :=
  v_store ho ha hy (by simp only [VEnv.eval, List.getD_eq_getElem?_getD, hv, Option.getD_some, hx]) hn h1 hb hl hH
theorem v_storeC {ρ : VEnv} {H H' : VHeap} {t : TypeId} {a : Operand} {c : Value} (v : VVal) {y : VTy} {b off : Nat} {cs new : List VVal} (ho : op = .store t a (.const c)) (hv : VVal.ofConst c = v) (ha : ρ.eval a = .ptr (some (b, off))) (hy : T t = some y) (hx : v.cells = some new) (hn : new.length = y.size) (h1 : new.all VVal.one = true)
    (hb : H[b]? = some (.cells cs true)) (hl : off + new.length ≤ cs.length) (hH : H.set b (.cells (splice cs off new) true) = H') : vop T ρ.eval H op = some (.skip, H') :=
  v_store ho ha hy (by rw [show ρ.eval (.const c) = v from hv]; exact hx) hn h1 hb hl hH
theorem v_map {t : TypeId} (ho : op = .makeMap t none) : vop T ρ (H ++ L) op = some (.map (some (H.length + L.length)), H ++ (L ++ [.map []])) := by
  rw [ho]; simp [vop]
theorem v_makeSlice {t e : TypeId} {l c : Operand} {z : VTy} {n m : Int} (ho : op = .makeSlice t l c) (hz : velem T t = some (e, z)) (hl : ρ l = .int .i64 n) (hc : ρ c = .int .i64 m) (hs : z.size = z.zero.length) (hp : 0 < z.size)
    (h : 0 ≤ n ∧ n ≤ m ∧ m * z.bytes ≤ 281474976710656 ∧ m ≤ 9223372036854775807) : vop T ρ (H ++ L) op = some (.slice (some (H.length + L.length, 0)) n.toNat m.toNat true z.size, H ++ (L ++ [.cells (repeatCells z.zero m.toNat) true])) := by
  rw [ho]; simp only [vop, vmakeSlice, hz, hl, hc]; rw [if_pos ⟨h.1, h.2.1, h.2.2.1, h.2.2.2, hs, hp⟩]; simp
theorem v_buildSlice {t e : TypeId} {n : Nat} {ps : Array (Nat × Operand)} {z : VTy} {cs : List VVal} (ho : op = .buildSlice t n ps) (hz : velem T t = some (e, z)) (h : n * z.size ≤ 16777216 ∧ z.size = z.zero.length ∧ 0 < z.size)
    (hf : vfill (fun i => some (i * z.size, z.size)) (repeatCells z.zero n) (ps.toList.map fun p => (p.1, ρ p.2)) = some cs) : vop T ρ (H ++ L) op = some (.slice (some (H.length + L.length, 0)) n n true z.size, H ++ (L ++ [.cells cs true])) := by
  rw [ho]; simp only [vop, vbuildSlice, hz]; rw [if_pos h, hf]; simp
end

/-! ### Words -/
theorem wd_lt (w : BitVec 64) : (w.toNat : Int) < 18446744073709551616 := by have := w.isLt; omega
theorem ofInt_wd (w : BitVec 64) : BitVec.ofInt 64 (w.toNat : Int) = w := by
  apply BitVec.eq_of_toInt_eq
  rw [BitVec.toInt_ofInt, BitVec.toInt_eq_toNat_bmod]
theorem wrap_wd (w : BitVec 64) : IntKind.u64.wrap (w.toNat : Int) = w.toNat := by
  have := w.isLt
  simp [IntKind.wrap, IntKind.signed, IntKind.bits]; omega
theorem vb_and (a b : BitVec 64) : vbits .and .u64 a.toNat b.toNat = ((a &&& b).toNat : Int) := by
  show IntKind.u64.wrap ((BitVec.ofInt 64 (a.toNat : Int) &&& BitVec.ofInt 64 (b.toNat : Int)).toNat : Int) = _
  rw [ofInt_wd, ofInt_wd, wrap_wd]
theorem vb_or (a b : BitVec 64) : vbits .or .u64 a.toNat b.toNat = ((a ||| b).toNat : Int) := by
  show IntKind.u64.wrap ((BitVec.ofInt 64 (a.toNat : Int) ||| BitVec.ofInt 64 (b.toNat : Int)).toNat : Int) = _
  rw [ofInt_wd, ofInt_wd, wrap_wd]
theorem vb_xor (a b : BitVec 64) : vbits .xor .u64 a.toNat b.toNat = ((a ^^^ b).toNat : Int) := by
  show IntKind.u64.wrap ((BitVec.ofInt 64 (a.toNat : Int) ^^^ BitVec.ofInt 64 (b.toNat : Int)).toNat : Int) = _
  rw [ofInt_wd, ofInt_wd, wrap_wd]
theorem vb_andNot (a b : BitVec 64) : vbits .andNot .u64 a.toNat b.toNat = ((a &&& ~~~b).toNat : Int) := by
  show IntKind.u64.wrap ((BitVec.ofInt 64 (a.toNat : Int) &&& ~~~BitVec.ofInt 64 (b.toNat : Int)).toNat : Int) = _
  rw [ofInt_wd, ofInt_wd, wrap_wd]
theorem wd_shl1 (n : Int) (h : 0 ≤ n) : IntKind.u64.wrap (1 * 2 ^ (min n.toNat 64)) = ((1#64 <<< n.toNat).toNat : Int) := by
  rw [BitVec.toNat_shiftLeft]
  simp only [IntKind.wrap, IntKind.signed, IntKind.bits]
  by_cases hn : n.toNat < 64
  · rw [Nat.min_eq_left (by omega), Nat.shiftLeft_eq]
    simp
  · rw [Nat.min_eq_right (by omega), Nat.shiftLeft_eq]
    have : (2 : Nat) ^ n.toNat % 2 ^ 64 = 0 := by
      obtain ⟨k, hk⟩ : ∃ k, n.toNat = 64 + k := ⟨n.toNat - 64, by omega⟩
      rw [hk, Nat.pow_add]; exact Nat.mul_mod_right _ _
    simp [this]
theorem wd_shr (w : BitVec 64) (n : Int) (h : 0 ≤ n) : Int.fdiv (w.toNat : Int) (2 ^ (min n.toNat 64)) = ((w >>> n.toNat).toNat : Int) := by
  rw [BitVec.toNat_ushiftRight, Nat.shiftRight_eq_div_pow]
  have h1 : Int.fdiv (w.toNat : Int) (2 ^ (min n.toNat 64)) = ((w.toNat / 2 ^ (min n.toNat 64) : Nat) : Int) := by
    rw [Int.fdiv_eq_ediv_of_nonneg _ (Int.le_of_lt (Int.pow_pos (by omega)))]
    rw [Int.natCast_ediv, Int.natCast_pow]; rfl
  rw [h1]
  by_cases hn : n.toNat < 64
  · rw [Nat.min_eq_left (by omega)]
  · rw [Nat.min_eq_right (by omega), Nat.div_eq_of_lt (by have := w.isLt; simpa using this), Nat.div_eq_of_lt]
    have h2 := w.isLt
    have : (2:Nat)^64 ≤ 2 ^ n.toNat := Nat.pow_le_pow_right (by omega) (by omega)
    omega
theorem wd_inj {a b : BitVec 64} : (a.toNat : Int) = b.toNat ↔ a = b := by
  constructor
  · intro h; apply BitVec.eq_of_toNat_eq; omega
  · intro h; rw [h]
theorem wd_zero {a : BitVec 64} : (a.toNat : Int) = 0 ↔ a = 0#64 := by
  have := @wd_inj a 0#64; simpa using this

theorem wd_one {a : BitVec 64} : (a.toNat : Int) = 1 ↔ a = 1#64 := by
  have := @wd_inj a 1#64; simpa using this
theorem wd_wrap_add (a b : BitVec 64) : IntKind.u64.wrap ((a.toNat : Int) + b.toNat) = ((a + b).toNat : Int) := by
  rw [BitVec.toNat_add]; simp [IntKind.wrap, IntKind.signed, IntKind.bits]
theorem wd_wrap_sub (a b : BitVec 64) : IntKind.u64.wrap ((a.toNat : Int) - b.toNat) = ((a - b).toNat : Int) := by
  rw [BitVec.toNat_sub]
  have h1 := a.isLt; have h2 := b.isLt
  simp [IntKind.wrap, IntKind.signed, IntKind.bits]
  omega
theorem wd_not (a : BitVec 64) : vbits .xor .u64 18446744073709551615 a.toNat = ((~~~a).toNat : Int) := by
  have := vb_xor (BitVec.allOnes 64) a
  rw [BitVec.allOnes_xor] at this
  exact this

theorem beq_wd1 (a : BitVec 64) : ((a.toNat : Int) == 1) = (a == 1#64) := by rw [Bool.eq_iff_iff]; simp [wd_one]
theorem beq_wd0 (a : BitVec 64) : ((a.toNat : Int) == 0) = (a == 0#64) := by rw [Bool.eq_iff_iff, beq_iff_eq, beq_iff_eq, wd_zero]
theorem beq_wd (a b : BitVec 64) : ((a.toNat : Int) == (b.toNat : Int)) = (a == b) := by rw [Bool.eq_iff_iff]; simp [wd_inj]
theorem bit1 (w : BitVec 64) (n : Nat) : (w >>> n &&& 1#64 == 1#64) = w.getLsbD n := by
  rw [BitVec.and_one_eq_setWidth_ofBool_getLsbD, BitVec.getLsbD_ushiftRight, Nat.add_zero]
  cases w.getLsbD n <;> rfl

section
variable {T : TypeId → Option VTy} {ρ : Operand → VVal} {H : VHeap} {op : Op} {t ty : TypeId} {x y : Operand} {a b : BitVec 64} {k : IntKind} {m : Int}
theorem v_andW (ho : op = .binOp .and t x y ty) (hx : ρ x = .int .u64 a.toNat) (hy : ρ y = .int .u64 b.toNat) : vop T ρ H op = some (.int .u64 (a &&& b).toNat, H) := by
  rw [ho]; simp only [vop, hx, hy, vbin, vint, if_true, vb_and, Option.map_some]
theorem v_orW (ho : op = .binOp .or t x y ty) (hx : ρ x = .int .u64 a.toNat) (hy : ρ y = .int .u64 b.toNat) : vop T ρ H op = some (.int .u64 (a ||| b).toNat, H) := by
  rw [ho]; simp only [vop, hx, hy, vbin, vint, if_true, vb_or, Option.map_some]
theorem v_xorW (ho : op = .binOp .xor t x y ty) (hx : ρ x = .int .u64 a.toNat) (hy : ρ y = .int .u64 b.toNat) : vop T ρ H op = some (.int .u64 (a ^^^ b).toNat, H) := by
  rw [ho]; simp only [vop, hx, hy, vbin, vint, if_true, vb_xor, Option.map_some]
theorem v_andNotW (ho : op = .binOp .andNot t x y ty) (hx : ρ x = .int .u64 a.toNat) (hy : ρ y = .int .u64 b.toNat) : vop T ρ H op = some (.int .u64 (a &&& ~~~b).toNat, H) := by
  rw [ho]; simp only [vop, hx, hy, vbin, vint, if_true, vb_andNot, Option.map_some]
theorem v_addW (ho : op = .binOp .add t x y ty) (hx : ρ x = .int .u64 a.toNat) (hy : ρ y = .int .u64 b.toNat) : vop T ρ H op = some (.int .u64 (a + b).toNat, H) := by
  rw [ho]; simp only [vop, hx, hy, vbin, vint, if_true, wd_wrap_add, Option.map_some]
theorem v_subW (ho : op = .binOp .sub t x y ty) (hx : ρ x = .int .u64 a.toNat) (hy : ρ y = .int .u64 b.toNat) : vop T ρ H op = some (.int .u64 (a - b).toNat, H) := by
  rw [ho]; simp only [vop, hx, hy, vbin, vint, if_true, wd_wrap_sub, Option.map_some]
theorem v_xorU (ho : op = .unOp .xor t x) (hx : ρ x = .int .u64 a.toNat) : vop T ρ H op = some (.int .u64 (~~~a).toNat, H) := by
  rw [ho]; simp only [vop, hx, vun, IntKind.signed, Bool.false_eq_true, if_false]
  rw [show IntKind.u64.max = 18446744073709551615 from rfl, wd_not]; rfl
theorem v_shl1 (ho : op = .binOp .shl t (.const (.int .u64 1)) y ty) (hy : ρ y = .int k m) (hr : ρ (.const (.int .u64 1)) = .int .u64 1) (hm : 0 ≤ m) : vop T ρ H op = some (.int .u64 (1#64 <<< m.toNat).toNat, H) := by
  rw [ho]; simp only [vop, hr, hy, vbin, vshift]
  rw [if_neg (by omega), show IntKind.u64.bits = 64 from rfl, wd_shl1 m hm]; rfl
theorem v_shrW (ho : op = .binOp .shr t x y ty) (hx : ρ x = .int .u64 a.toNat) (hy : ρ y = .int k m) (hm : 0 ≤ m) : vop T ρ H op = some (.int .u64 (a >>> m.toNat).toNat, H) := by
  rw [ho]; simp only [vop, hx, hy, vbin, vshift]
  rw [if_neg (by omega), show IntKind.u64.bits = 64 from rfl, wd_shr a m hm]; rfl
end

theorem wrap_i (n : Int) (h : -9223372036854775808 ≤ n ∧ n < 9223372036854775808) : IntKind.i64.wrap n = n := by
  simp only [IntKind.wrap, IntKind.signed, IntKind.bits]
  simp
  omega
section
variable {T : TypeId → Option VTy} {ρ : Operand → VVal} {H : VHeap} {op : Op} {t ty : TypeId} {x y : Operand} {n m : Int}
theorem v_addI (ho : op = .binOp .add t x y ty) (hx : ρ x = .int .i64 n) (hy : ρ y = .int .i64 m) (h : -9223372036854775808 ≤ n + m ∧ n + m < 9223372036854775808) : vop T ρ H op = some (.int .i64 (n + m), H) := by
  rw [ho]; simp only [vop, hx, hy, vbin, vint, if_true, wrap_i _ h, Option.map_some]
theorem v_subI (ho : op = .binOp .sub t x y ty) (hx : ρ x = .int .i64 n) (hy : ρ y = .int .i64 m) (h : -9223372036854775808 ≤ n - m ∧ n - m < 9223372036854775808) : vop T ρ H op = some (.int .i64 (n - m), H) := by
  rw [ho]; simp only [vop, hx, hy, vbin, vint, if_true, wrap_i _ h, Option.map_some]
theorem v_mulI (ho : op = .binOp .mul t x y ty) (hx : ρ x = .int .i64 n) (hy : ρ y = .int .i64 m) (h : -9223372036854775808 ≤ n * m ∧ n * m < 9223372036854775808) : vop T ρ H op = some (.int .i64 (n * m), H) := by
  rw [ho]; simp only [vop, hx, hy, vbin, vint, if_true, wrap_i _ h, Option.map_some]
theorem v_quo {k : IntKind} (ho : op = .binOp .quo t x y ty) (hx : ρ x = .int k n) (hy : ρ y = .int k m) (h : m ≠ 0) : vop T ρ H op = some (.int k (k.wrap (n.tdiv m)), H) := by
  rw [ho]; simp only [vop, hx, hy, vbin, vint, if_true, if_neg h, Option.map_some]
theorem v_rem {k : IntKind} (ho : op = .binOp .rem t x y ty) (hx : ρ x = .int k n) (hy : ρ y = .int k m) (h : m ≠ 0) : vop T ρ H op = some (.int k (n.tmod m), H) := by
  rw [ho]; simp only [vop, hx, hy, vbin, vint, if_true, if_neg h, Option.map_some]
end

def slotOf (ρ : VEnv) : Operand → Option VVal
  | .tmp i => ρ[i]?
  | _ => none

theorem v_func {T : TypeId → Option VTy} {ρ : VEnv} {H : VHeap} {op : Op} {f : FuncId} {cap : Array Operand} (caps : List VVal) (ho : op = .makeFunc (.func f) #[] cap) (hc : cap.toList.map (slotOf ρ) = caps.map some) : vop T ρ.eval H op = some (.func f [] caps, H) := by
  have key : ∀ (l : List Operand) (cs : List VVal), l.map (slotOf ρ) = cs.map some → l.map ρ.eval = cs := by
    intro l
    induction l with
    | nil => intro cs h; cases cs with | nil => rfl | cons c cs => simp at h
    | cons x l ih =>
      intro cs h
      cases cs with
      | nil => simp at h
      | cons c cs =>
        simp only [List.map_cons, List.cons.injEq] at h ⊢
        refine ⟨?_, ih cs h.2⟩
        have h1 := h.1
        cases x <;> simp only [slotOf, reduceCtorEq] at h1
        simp [VEnv.eval, List.getD_eq_getElem?_getD, h1]
  rw [ho]
  simp only [vop, key _ _ hc]
  rfl


/-! ### Frozen cells -/
section
variable {T : TypeId → Option VTy} {ρ : Operand → VVal} {H : VHeap} {op : Op}
theorem v_idxF {t e : TypeId} {x i : Operand} {y z : VTy} {cs : List VVal} {len es : Nat} {ex : Bool} {k : IntKind} {n : Int} (ho : op = .indexAddr t x i) (hx : ρ x = .fsl cs len es ex) (hi : ρ i = .int k n)
    (hy : T t = some y) (hd : y.desc = .slice e) (hz : T e = some z) (hs : z.size = es) (hn : 0 ≤ n ∧ n < len) : vop T ρ H op = some (.fptr cs (n.toNat * es), H) := by
  rw [ho]; simp only [vop, vindexAddr, hx, hi, hy, hd, hz, hs, hn, and_self, if_true, Option.map_some]
theorem v_idxFA {t e : TypeId} {x i : Operand} {y z : VTy} {cs : List VVal} {len off : Nat} {k : IntKind} {n : Int} (ho : op = .indexAddr t x i) (hx : ρ x = .fptr cs off) (hi : ρ i = .int k n)
    (hy : T t = some y) (hd : y.desc = .array len e) (hz : T e = some z) (hn : 0 ≤ n ∧ n < len) : vop T ρ H op = some (.fptr cs (off + n.toNat * z.size), H) := by
  rw [ho]; simp only [vop, vindexAddr, hx, hi, hy, hd, hz, hn, and_self, if_true, Option.map_some]
theorem v_idxA {t e : TypeId} {x i : Operand} {y z : VTy} {b len off : Nat} {k : IntKind} {n : Int} (ho : op = .indexAddr t x i) (hx : ρ x = .ptr (some (b, off))) (hi : ρ i = .int k n)
    (hy : T t = some y) (hd : y.desc = .array len e) (hz : T e = some z) (hn : 0 ≤ n ∧ n < len) : vop T ρ H op = some (.ptr (some (b, off + n.toNat * z.size)), H) := by
  rw [ho]; simp only [vop, vindexAddr, hx, hi, hy, hd, hz, hn, and_self, if_true, Option.map_some]
theorem v_loadF {t : TypeId} {a : Operand} {y : VTy} {off : Nat} {cs : List VVal} {v : VVal} (ho : op = .load t a) (ha : ρ a = .fptr cs off) (hy : T t = some y) (hd : isAggDesc y.desc = false)
    (hv : cs[off]? = some v) : vop T ρ H op = some (v, H) := by
  rw [ho]; simp only [vop, ha, vload, hy, hd, Bool.false_eq_true, if_false, hv, Option.map_some]
theorem v_loadFA {t : TypeId} {a : Operand} {y : VTy} {off : Nat} {cs vs : List VVal} (ho : op = .load t a) (ha : ρ a = .fptr cs off) (hy : T t = some y) (hd : isAggDesc y.desc = true)
    (hv : cellsAt cs off y.size = some vs) : vop T ρ H op = some (.agg vs, H) := by
  rw [ho]; simp only [vop, ha, vload, hy, hd, if_true, hv, Option.map_some]
end
theorem fget {α : Type} {f : α → VVal} {l : List α} {n : Int} (d : α) (h : 0 ≤ n ∧ n < l.length) : (l.map f)[n.toNat * 1]? = some (f (l.getD n.toNat d)) := by
  have : n.toNat < l.length := by omega
  simp [List.getElem?_eq_getElem this]
theorem fget0 {α : Type} {f : α → VVal} {l : List α} {n : Int} (d : α) (h : 0 ≤ n ∧ n < l.length) : (l.map f)[0 + n.toNat * 1]? = some (f (l.getD n.toNat d)) := by rw [Nat.zero_add]; exact fget d h

/-- numbers, words: slices that nobody writes any more -/
abbrev iI (n : Int) : VVal := .int .i64 n
abbrev iW (w : BitVec 64) : VVal := .int .u64 (w.toNat : Int)
def fzI (l : List Int) : VVal := .fsl (l.map iI) l.length 1 false
def fzW (l : List (BitVec 64)) : VVal := .fsl (l.map iW) l.length 1 false
theorem under_iI {n : Nat} (i : Int) : (iI i).under n = true := rfl
theorem under_iW {n : Nat} (w : BitVec 64) : (iW w).under n = true := rfl

/-! ### Loops, slots told by their numbers -/
def upd (env : VEnv) : List (Nat × VVal) → VEnv
  | [] => env
  | (i, v) :: l => upd (env.set i v) l

section
variable {S : Sys} {H0 H : VHeap} {rd : Option Nat} {env : VEnv} {Q : Post}

theorem B_env {c : Code} {env' : VEnv} (he : env = env') (h : B S H0 rd c env' H Q) : B S H0 rd c env H Q := he ▸ h
theorem B_heap {c : Code} {H' : VHeap} (he : H = H') (h : B S H0 rd c env H' Q) : B S H0 rd c env H Q := he ▸ h
theorem B_clear {c : Code} {env' : VEnv} (mask : List Bool) (he : mclear mask env = env') (h : B S H0 rd c env' H Q) : B S H0 rd c env H Q := B_gh (Gh.clear mask he) h

theorem B_loopE {b : Code} {α : Type} (μ : α → Nat) (W : α → List (Nat × VVal)) (inv : α → VHeap → Prop) (x0 : α) (h0 : env = upd env (W x0)) (hi : inv x0 H)
    (round : ∀ x G, inv x G → B S H0 rd b (upd env (W x)) G (loopK S H0 (fun env' G' => ∃ y, μ y < μ x ∧ env' = upd env (W y) ∧ inv y G') Q)) : B S H0 rd (.loop b) env H Q := by
  refine B_loop μ (fun x e G => e = upd env (W x) ∧ inv x G) (fun x e G h => ?_) x0 ⟨h0, hi⟩
  obtain ⟨rfl, hi⟩ := h
  refine (round x G hi).mono ?_
  intro e v G2 hq
  cases e <;> exact hq

theorem K_loop {next : VEnv → VHeap → Prop} {env' : VEnv} (mask : List Bool) (he : mclear mask env = env') (h : next env' H) : loopK S H0 next Q .normal env H := ⟨env', H, Gh.clear mask he, h⟩
theorem K_loopG {next : VEnv → VHeap → Prop} {env' : VEnv} {H' : VHeap} (mask : List Bool) (he : mclear mask env = env') (g : Gh S H0 env' H env' H') (h : next env' H') : loopK S H0 next Q .normal env H := ⟨env', H', Gh.trans (Gh.clear mask he) g, h⟩
theorem K_loopR {next : VEnv → VHeap → Prop} (h : Q .ret env H) : loopK S H0 next Q .ret env H := h
theorem K_loopX {next : VEnv → VHeap → Prop} {id : Nat} (h : Q (.exit id) env H) : loopK S H0 next Q (.exit id) env H := h
theorem K_seq {b : Code} (h : B S H0 rd b env H Q) : seqK S H0 rd b Q .normal env H := h
theorem K_seqR {b : Code} (h : Q .ret env H) : seqK S H0 rd b Q .ret env H := h
theorem K_seqX {b : Code} {id : Nat} (h : Q (.exit id) env H) : seqK S H0 rd b Q (.exit id) env H := h
theorem K_blk {id : Nat} (h : Q .normal env H) : blkK id Q .normal env H := h
theorem K_blkR {id : Nat} (h : Q .ret env H) : blkK id Q .ret env H := h
theorem K_blkX {id : Nat} (h : Q .normal env H) : blkK id Q (.exit id) env H := by simp only [blkK, if_true]; exact h
theorem K_blkO {id j : Nat} (hj : (j == id) = false) (h : Q (.exit j) env H) : blkK id Q (.exit j) env H := by
  have hne : ¬ j = id := by simpa using hj
  simp only [blkK, if_neg hne]; exact h
theorem J_none (h : Q .normal env H) : jumpTo none env H Q := h
theorem J_ret (h : Q .ret env H) : jumpTo (some .ret) env H Q := h
theorem J_exit {id : Nat} (h : Q (.exit id) env H) : jumpTo (some (.exit id)) env H Q := h

theorem F_body {f : FuncId} {fn : Func} {c : Code} {args : List VVal} {R : VVal → VHeap → Prop} (hf : S.C.fn f = some fn) (hb : fn.body = some c) (env : VEnv) (he : args ++ List.replicate (fn.ntmps - args.length) .skip = env)
    (h : B S H none c env (H ++ []) (fnK S fn H R)) : F S f args H R := F_fn hf hb env he (by rw [List.append_nil] at h; exact h)

/-- the own blocks behind L are forgotten -/
theorem Gh.dropTo {vs : List VVal} {B L X : VHeap} (n : Nat) (hn : L.length = n) (hB : BaseOk H B) (hv : VVal.underL (H.length + n) vs = true) (hL : (L.all fun k => k.under (H.length + n)) = true) : Gh S H vs (B ++ (L ++ X)) vs (B ++ L) := by
  subst hn
  have hL := List.all_eq_true.1 hL
  have hBl := hB.1
  have := Gh.drop (S := S) (H0 := H) (H := B ++ (L ++ X)) (vs := vs) (H.length + L.length) (by omega) (by simp; omega) hv (fun i hi => by
    by_cases h : i < H.length
    · rw [List.getElem?_append_left (by omega)]
      rcases hB.2 i h with h1 | h1
      · exact .inl ⟨h, h1⟩
      · exact .inr fun k hk => VBlk.under_mono (by omega) k (h1 k hk)
    · right
      intro k hk
      rw [List.getElem?_append_right (by omega), List.getElem?_append_left (by omega)] at hk
      exact hL k (List.mem_of_getElem? hk))
  have e : (B ++ (L ++ X)).take (H.length + L.length) = B ++ L := by
    rw [← List.append_assoc]; exact List.take_left' (by simp; omega)
  rw [e] at this; exact this

/-- changes of mind about own blocks, by their places among these -/
theorem Gh.freezeL {H0 : VHeap} {vs vs' : List VVal} {L : VHeap} (i b : Nat) {off len cap es : Nat} {ex : Bool} {cs l : List VVal} (hv : vs[i]? = some (.slice (some (H.length + b, off)) len cap ex es)) (hg : L[b]? = some (.cells cs true)) (hl : cellsAt cs off (len * es) = some l) (hc : len ≤ cap)
    (he : vs.set i (.fsl l len es false) = vs') : Gh S H0 vs (H ++ L) vs' (H ++ L.set b .dead) := by
  have := Gh.freeze (S := S) (H0 := H0) i hv (get_app rfl hg) hl hc he
  rwa [set_app rfl] at this
theorem Gh.freezePtrL {H0 : VHeap} {vs vs' : List VVal} {L : VHeap} (i b : Nat) {off : Nat} {cs : List VVal} (hv : vs[i]? = some (.ptr (some (H.length + b, off)))) (hg : L[b]? = some (.cells cs true)) (he : vs.set i (.fptr cs off) = vs') : Gh S H0 vs (H ++ L) vs' (H ++ L.set b .dead) := by
  have := Gh.freezePtr (S := S) (H0 := H0) i hv (get_app rfl hg) he
  rwa [set_app rfl] at this
theorem Gh.cellL {H0 : VHeap} {vs : List VVal} {L : VHeap} (c j b : Nat) {cs l cs2 : List VVal} {off len cap es : Nat} {ex : Bool} (hc : L[c]? = some (.cells cs2 true)) (hj : cs2[j]? = some (.slice (some (H.length + b, off)) len cap ex es)) (hne : c ≠ b) (hg : L[b]? = some (.cells cs true)) (hl : cellsAt cs off (len * es) = some l) (hcap : len ≤ cap) :
    Gh S H0 vs (H ++ L) vs (H ++ (L.set b .dead).set c (.cells (cs2.set j (.fsl l len es false)) true)) := by
  have := Gh.cell (S := S) (H0 := H0) (vs := vs) (H.length + c) j (get_app rfl hc) hj (by omega) (get_app rfl hg) hl hcap
  rwa [set_app rfl, set_app rfl] at this
theorem Gh.cellPtrL {H0 : VHeap} {vs : List VVal} {L : VHeap} (c j b : Nat) {cs cs2 : List VVal} {off : Nat} (hc : L[c]? = some (.cells cs2 true)) (hj : cs2[j]? = some (.ptr (some (H.length + b, off)))) (hne : c ≠ b) (hg : L[b]? = some (.cells cs true)) :
    Gh S H0 vs (H ++ L) vs (H ++ (L.set b .dead).set c (.cells (cs2.set j (.fptr cs off)) true)) := by
  have := Gh.cellPtr (S := S) (H0 := H0) (vs := vs) (H.length + c) j (get_app rfl hc) hj (by omega) (get_app rfl hg)
  rwa [set_app rfl, set_app rfl] at this

theorem Gh.cellNilL {H0 : VHeap} {vs : List VVal} {L : VHeap} (c j : Nat) {cs2 : List VVal} {es es' : Nat} {ex : Bool} (hc : L[c]? = some (.cells cs2 true)) (hj : cs2[j]? = some (.slice none 0 0 ex es)) :
    Gh S H0 vs (H ++ L) vs (H ++ L.set c (.cells (cs2.set j (.fsl [] 0 es' false)) true)) := by
  have := Gh.cellNil (S := S) (H0 := H0) (vs := vs) (es' := es') (H.length + c) j (get_app rfl hc) hj
  rwa [set_app rfl] at this

/-- the answer is a function that has caught a pointer to an own block: frozen -/
theorem Gh.cap1 {B L : VHeap} {j : Nat} {f : FuncId} {cs : List VVal} (hB : BaseOk H B) (hg : L[j]? = some (.cells cs true)) (hu : VVal.underL H.length cs = true) :
    Gh S H [.func f [] [.ptr (some (B.length + j, 0))]] (B ++ L) [.func f [] [.fptr cs 0]] B := by
  have hg' : (B ++ L)[B.length + j]? = some (.cells cs true) := by rw [List.getElem?_append_right (by omega)]; simpa using hg
  have step : Gh S H [.func f [] [.ptr (some (B.length + j, 0))]] (B ++ L) [.func f [] [.fptr cs 0]] ((B ++ L).set (B.length + j) .dead) := by
    refine fun hl0 => ⟨by rw [List.length_set]; exact hl0, fun w ι xs hb s r => ?_⟩
    simp only [RelL] at r
    obtain ⟨x, xs', rfl, rx, rfl⟩ := r
    simp only [Rel] at rx
    obtain ⟨a', c', rfl, r1, r2⟩ := rx
    obtain ⟨y, r2⟩ := one_rel' r2
    have r3 := r2.2
    simp only [Rel] at r3
    obtain ⟨e, h1, hy⟩ := r3
    obtain ⟨ι', arr, zs, e1, s1, z1, k1, c1⟩ := s.freeze h1 hg'
    refine ⟨ι', Inj.ex_le e1 hl0, s1, .one ?_⟩
    simp only [Rel]
    refine ⟨a', c', rfl, RelL.mono (s.le e1) _ _ r1, ?_⟩
    rw [r2.1, hy]
    refine .one ?_
    simp only [Rel]
    exact ⟨e.r, e.sh, arr, zs, rfl, z1, k1, c1⟩
  refine Gh.trans step ?_
  have e : (B ++ L).set (B.length + j) .dead = B ++ L.set j .dead := by rw [List.set_append_right _ _ (by omega)]; simp
  rw [e]
  exact Gh.back hB (by simp [VVal.underL, VVal.under, hu])
end

section
variable {T : TypeId → Option VTy}
theorem vres_tmp {rs : Array ResultVar} {env : VEnv} {H : VHeap} {t : Nat} {v : VVal} (hr : rs = #[.tmp t]) (hv : env[t]? = some v) : vresults T env H rs = some v := by
  subst hr
  show some (env.getD t .skip) = some v
  rw [List.getD_eq_getElem?_getD, hv]; rfl
theorem vres_tmp2 {rs : Array ResultVar} {env : VEnv} {H : VHeap} {t1 t2 : Nat} {v1 v2 : VVal} (hr : rs = #[.tmp t1, .tmp t2]) (h1 : env[t1]? = some v1) (h2 : env[t2]? = some v2) : vresults T env H rs = some (.tuple [v1, v2]) := by
  subst hr
  show some (VVal.tuple [env.getD t1 .skip, env.getD t2 .skip]) = _
  rw [List.getD_eq_getElem?_getD, List.getD_eq_getElem?_getD, h1, h2]; rfl
theorem vres_tmp3 {rs : Array ResultVar} {env : VEnv} {H : VHeap} {t1 t2 t3 : Nat} {v1 v2 v3 : VVal} (hr : rs = #[.tmp t1, .tmp t2, .tmp t3]) (h1 : env[t1]? = some v1) (h2 : env[t2]? = some v2) (h3 : env[t3]? = some v3) : vresults T env H rs = some (.tuple [v1, v2, v3]) := by
  subst hr
  show some (VVal.tuple [env.getD t1 .skip, env.getD t2 .skip, env.getD t3 .skip]) = _
  rw [List.getD_eq_getElem?_getD, List.getD_eq_getElem?_getD, List.getD_eq_getElem?_getD, h1, h2, h3]; rfl
theorem vres_none {rs : Array ResultVar} {env : VEnv} {H : VHeap} (hr : rs = #[]) : vresults T env H rs = some (.tuple []) := by
  subst hr; rfl

theorem vres_cell {rs : Array ResultVar} {env : VEnv} {H : VHeap} {a : Nat} {t : TypeId} {y : VTy} {b off : Nat} {cs : List VVal} {rw : Bool} {v : VVal} (hr : rs = #[.cell a t]) (ha : env.getD a .skip = .ptr (some (b, off))) (hy : T t = some y) (hd : isAggDesc y.desc = false)
    (hb : H[b]? = some (.cells cs rw)) (hv : cs[off]? = some v) : vresults T env H rs = some v := by
  subst hr
  show vload T H t (env.getD a .skip) = some v
  rw [ha]
  simp only [vload, hy, vread, hb, hd, Bool.false_eq_true, if_false, hv]

theorem vres_cellA {rs : Array ResultVar} {env : VEnv} {H : VHeap} {a : Nat} {t : TypeId} {y : VTy} {b off : Nat} {cs vs : List VVal} {rw : Bool} (hr : rs = #[.cell a t]) (ha : env.getD a .skip = .ptr (some (b, off))) (hy : T t = some y) (hd : isAggDesc y.desc = true)
    (hb : H[b]? = some (.cells cs rw)) (hv : cellsAt cs off y.size = some vs) : vresults T env H rs = some (.agg vs) := by
  subst hr
  show vload T H t (env.getD a .skip) = some (.agg vs)
  rw [ha]
  simp only [vload, hy, vread, hb, hd, if_true, hv, Option.map_some]

theorem vres_cells2 {rs : Array ResultVar} {env : VEnv} {H : VHeap} {a1 a2 : Nat} {t1 t2 : TypeId} {y1 y2 : VTy} {b1 o1 b2 o2 : Nat} {cs1 cs2 : List VVal} {w1 w2 : Bool} {v1 v2 : VVal} (hr : rs = #[.cell a1 t1, .cell a2 t2]) (h1 : env.getD a1 .skip = .ptr (some (b1, o1))) (h2 : env.getD a2 .skip = .ptr (some (b2, o2)))
    (hy1 : T t1 = some y1) (hd1 : isAggDesc y1.desc = false) (hy2 : T t2 = some y2) (hd2 : isAggDesc y2.desc = false) (hb1 : H[b1]? = some (.cells cs1 w1)) (hv1 : cs1[o1]? = some v1) (hb2 : H[b2]? = some (.cells cs2 w2)) (hv2 : cs2[o2]? = some v2) : vresults T env H rs = some (.tuple [v1, v2]) := by
  subst hr
  have e1 : vresult T env H (.cell a1 t1) = some v1 := by
    show vload T H t1 (env.getD a1 .skip) = some v1
    rw [h1]; simp only [vload, hy1, vread, hb1, hd1, Bool.false_eq_true, if_false, hv1]
  have e2 : vresult T env H (.cell a2 t2) = some v2 := by
    show vload T H t2 (env.getD a2 .skip) = some v2
    rw [h2]; simp only [vload, hy2, vread, hb2, hd2, Bool.false_eq_true, if_false, hv2]
  show (List.mapM (vresult T env H) [.cell a1 t1, .cell a2 t2]).map VVal.tuple = _
  simp [List.mapM_cons, e1, e2]
end
end Go.V
