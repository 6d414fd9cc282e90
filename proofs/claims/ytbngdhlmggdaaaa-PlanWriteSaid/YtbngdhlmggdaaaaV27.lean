/- Blocks behind lists of blocks; counters; maps. -/
import Derived.Test.YtbngdhlmggdaaaaV26
set_option autoImplicit false
set_option linter.unusedVariables false
set_option linter.unusedSimpArgs false
namespace Go.V
open Go Go.RowKit

theorem get_end {X : VHeap} {k : VBlk} : (X ++ [k])[X.length]? = some k := by simp
theorem set_end {X : VHeap} {k k' : VBlk} : (X ++ [k]).set X.length k' = X ++ [k'] := by simp
theorem get_cons {X Y : VHeap} {k : VBlk} : (X ++ k :: Y)[X.length]? = some k := by simp
/-- a block behind the list X -/
theorem getE {H X Y : VHeap} {n j i : Nat} {k : VBlk} (hn : H.length = n) (hj : X.length + i = j) (h : Y[i]? = some k) : (H ++ (X ++ Y))[n + j]? = some k := by
  subst hn; subst hj
  rw [List.getElem?_append_right (by omega), List.getElem?_append_right (by omega), show H.length + (X.length + i) - H.length - X.length = i by omega]; exact h
theorem setE {H X Y : VHeap} {n j i : Nat} {k : VBlk} (hn : H.length = n) (hj : X.length + i = j) : (H ++ (X ++ Y)).set (n + j) k = H ++ (X ++ Y.set i k) := by
  subst hn; subst hj
  rw [List.set_append_right _ _ (by omega), List.set_append_right _ _ (by omega), show H.length + (X.length + i) - H.length - X.length = i by omega]
theorem setE0 {H X Y : VHeap} {n j : Nat} {k0 k : VBlk} (hn : H.length = n) (hj : X.length = j) : (H ++ (X ++ k0 :: Y)).set (n + j) k = H ++ (X ++ k :: Y) := by
  rw [setE hn (i := 0) (by omega)]; rfl
theorem getE0 {H X Y : VHeap} {n j : Nat} {k : VBlk} (hn : H.length = n) (hj : X.length = j) : (H ++ (X ++ k :: Y))[n + j]? = some k := getE hn (i := 0) (by omega) rfl
theorem fgetN {α : Type} {f : α → VVal} {l : List α} {k : Nat} (d : α) (h : k < l.length) : (l.map f)[((k : Nat) : Int).toNat * 1]? = some (f (l.getD k d)) := by
  have := fget (f := f) (l := l) (n := (k : Int)) d (by omega)
  rw [Int.toNat_natCast] at this ⊢; exact this
theorem fm_nat {α : Type} {f : α → List VVal} {m : Nat} (hf : ∀ a, (f a).length = m) : ∀ (l : List α) (n : Nat) (d : α), n < l.length → cellsAt (l.flatMap f) (n * m) m = some (f (l.getD n d))
  | a :: l, 0, d, _ => by
    unfold cellsAt
    have h1 := hf a
    rw [if_pos (by rw [List.flatMap_cons, List.length_append]; omega), List.flatMap_cons, Nat.zero_mul, List.drop_zero, List.take_left' h1]; rfl
  | a :: l, n + 1, d, h => by
    have h1 := hf a
    have := fm_nat hf l n d (by simpa using h)
    unfold cellsAt at this ⊢
    have e : (n + 1) * m = m + n * m := by rw [Nat.add_mul, Nat.one_mul, Nat.add_comm]
    rw [List.flatMap_cons, List.length_append, h1, e, ← List.drop_drop, List.drop_left' h1]
    by_cases hh : n * m + m ≤ (l.flatMap f).length
    · rw [if_pos hh] at this; rw [if_pos (by omega)]; exact this
    · rw [if_neg hh] at this; cases this
theorem fm_len {α : Type} {f : α → List VVal} {m : Nat} (hf : ∀ a, (f a).length = m) : ∀ (l : List α), (l.flatMap f).length = l.length * m
  | [] => by simp
  | a :: l => by rw [List.flatMap_cons, List.length_append, hf a, fm_len hf l, List.length_cons, Nat.add_mul, Nat.one_mul, Nat.add_comm]
theorem fm_under {α : Type} {f : α → List VVal} {n : Nat} (hf : ∀ a, VVal.underL n (f a) = true) : ∀ l : List α, VVal.underL n (l.flatMap f) = true
  | [] => rfl
  | a :: l => by rw [List.flatMap_cons]; exact VVal.underL_app (hf a) (fm_under hf l)
theorem fm_one {α : Type} {f : α → List VVal} (hf : ∀ a, (f a).all VVal.one = true) : ∀ l : List α, (l.flatMap f).all VVal.one = true
  | [] => rfl
  | a :: l => by rw [List.flatMap_cons, List.all_append, hf a, fm_one hf l]; rfl
theorem bool_f {b : Bool} (h : ¬ b = true) : b = false := by cases b <;> simp_all
theorem mapI_under (n : Nat) (l : List Int) : VVal.underL n (l.map iI) = true := VVal.underL_map fun _ => rfl
theorem mapW_under (n : Nat) (l : List (BitVec 64)) : VVal.underL n (l.map iW) = true := VVal.underL_map fun _ => rfl
theorem fzI_under (n : Nat) (l : List Int) : (fzI l).under n = true := VVal.underL_map fun _ => rfl
theorem fzW_under (n : Nat) (l : List (BitVec 64)) : (fzW l).under n = true := VVal.underL_map fun _ => rfl
theorem mapI_one (l : List Int) : (l.map iI).all VVal.one = true := by rw [List.all_map]; exact List.all_eq_true.2 fun _ _ => rfl
theorem mapW_one (l : List (BitVec 64)) : (l.map iW).all VVal.one = true := by rw [List.all_map]; exact List.all_eq_true.2 fun _ _ => rfl
theorem map_all {α : Type} {f : α → VVal} {l : List α} : cellsAt (l.map f) 0 (l.length * 1) = some (l.map f) := by
  unfold cellsAt; rw [if_pos (by rw [List.length_map]; omega), List.drop_zero, List.take_of_length_le (by rw [List.length_map]; omega)]
theorem LV.appI {h : Nat} {X : VHeap} {v : VVal} {l : List Int} {w : Int} {n : Nat} (r : LV h 1 X v (l.map iI ++ [iI w]) n) : LV h 1 X v ((l ++ [w]).map iI) n := by rw [List.map_append]; exact r
theorem LV.appW {h : Nat} {X : VHeap} {v : VVal} {l : List (BitVec 64)} {w : BitVec 64} {n : Nat} (r : LV h 1 X v (l.map iW ++ [iW w]) n) : LV h 1 X v ((l ++ [w]).map iW) n := by rw [List.map_append]; exact r
theorem LV.pushI {h : Nat} {X : VHeap} {v : VVal} {l : List Int} {w : Int} (r : LV h 1 X v (l.map iI ++ [iI w]) (l.length + 1)) : LV h 1 X v ((l ++ [w]).map iI) (l ++ [w]).length := by rw [List.map_append, List.length_append]; exact r
theorem LV.pushW {h : Nat} {X : VHeap} {v : VVal} {l : List (BitVec 64)} {w : BitVec 64} (r : LV h 1 X v (l.map iW ++ [iW w]) (l.length + 1)) : LV h 1 X v ((l ++ [w]).map iW) (l ++ [w]).length := by rw [List.map_append, List.length_append]; exact r
/-- pieces of more than one cell -/
theorem LV.pushF {α : Type} {f : α → List VVal} {h es : Nat} {X : VHeap} {v : VVal} {l : List α} {a : α} (r : LV h es X v (l.flatMap f ++ f a) (l.length + 1)) : LV h es X v ((l ++ [a]).flatMap f) (l ++ [a]).length := by
  rw [List.flatMap_append, List.length_append]; simpa using r
theorem mem_getI {l : List Int} {k : Nat} (h : k < l.length) : l.getD k 0 ∈ l := by
  rw [List.getD_eq_getElem?_getD, List.getElem?_eq_getElem h]; simp
theorem mem_getX {α : Type} {l : List α} {k : Nat} {d : α} (h : k < l.length) : l.getD k d ∈ l := by
  rw [List.getD_eq_getElem?_getD, List.getElem?_eq_getElem h]; simp
theorem take_at {α : Type} {l : List α} {k : Nat} {d : α} (h : k < l.length) : l.take (k + 1) = l.take k ++ [l.getD k d] := by
  rw [List.take_add_one, List.getD_eq_getElem?_getD, List.getElem?_eq_getElem h]; simp
theorem set_keep {L : VHeap} {p : Nat} {k : VBlk} (h : L[p]? = some k) : L = L.set p k := by
  apply List.ext_getElem?
  intro i
  rw [List.getElem?_set]
  by_cases e : p = i
  · subst e; rw [h]; rw [if_pos rfl, if_pos (List.getElem?_eq_some_iff.1 h).1]
  · rw [if_neg e]
theorem v_lenM {T : TypeId → Option VTy} {ρ : Operand → VVal} {H : VHeap} {op : Op} {a : Operand} {t kt et : TypeId} {y : VTy} {b : Nat} {es : List (VVal × VVal)} (ho : op = .call { callee := .builtin .len, args := #[a], argTypes := #[t] }) (ha : ρ a = .map (some b)) (hy : T t = some y) (hd : y.desc = .map kt et) (hb : H[b]? = some (.map es)) : vop T ρ H op = some (iI es.length, H) := by
  rw [ho]; simp [vop, vbuiltin, vlen, ha, hy, hd, hb]
/-! short names for what every walk uses -/
theorem qB : (∀ (p : Prop) [Decidable p], (decide p = true) = p) ∧ (∀ (p : Prop) (x : Decidable p), decide p = false ↔ ¬p) ∧ (∀ b : Bool, ((!b) = true) = (b = false)) ∧ (∀ b : Bool, ((!b) = false) = (b = true)) ∧
    (∀ (α : Type) [BEq α] [LawfulBEq α] (a b : α), (a != b) = true ↔ a ≠ b) ∧ (∀ (α : Type) [BEq α] [LawfulBEq α] (a b : α), (a == b) = true ↔ a = b) ∧ (∀ a b : Bool, ((a && b) = true) = (a = true ∧ b = true)) ∧ (∀ a b : Bool, ((a || b) = true) = (a = true ∨ b = true)) ∧
    (∀ b : Bool, (¬b = true) = (b = false)) ∧ (∀ (α : Type) [LE α] (x y : α), x ≥ y ↔ y ≤ x) ∧ (∀ (α : Type) [LT α] (x y : α), x > y ↔ y < x) ∧ (∀ a b : Int, ¬a ≤ b ↔ b < a) ∧ (∀ a b : Int, ¬a < b ↔ b ≤ a) ∧
    (∀ (α : Type) [BEq α] [LawfulBEq α] (a b : α), (a == b) = false ↔ a ≠ b) ∧ (∀ (α : Type) [BEq α] [LawfulBEq α] (a b : α), (a != b) = false ↔ a = b) ∧ (∀ (α : Type) (a b : α), (a ≠ b) = ¬a = b) ∧ (∀ (p : Prop) [Decidable p], ¬¬p ↔ p) ∧
    (∀ a : BitVec 64, (a.toNat : Int) = 0 ↔ a = 0#64) ∧ (∀ a : BitVec 64, (a.toNat : Int) = 1 ↔ a = 1#64) ∧ (∀ a b : BitVec 64, (a.toNat : Int) = b.toNat ↔ a = b) :=
  ⟨fun _ _ => decide_eq_true_eq, fun _ _ => decide_eq_false_iff_not, Bool.not_eq_true', Bool.not_eq_false', fun _ _ _ _ _ => bne_iff_ne, fun _ _ _ _ _ => beq_iff_eq, Bool.and_eq_true, Bool.or_eq_true, Bool.not_eq_true, fun _ _ _ _ => ge_iff_le, fun _ _ _ _ => gt_iff_lt, fun _ _ => Int.not_le, fun _ _ => Int.not_lt,
    fun _ _ _ _ _ => beq_eq_false_iff_ne, fun _ _ _ _ _ => bne_eq_false_iff_eq, fun _ _ _ => ne_eq _ _, fun _ _ => Decidable.not_not, fun _ => wd_zero, fun _ => wd_one, fun _ _ => wd_inj⟩
theorem qN : ∀ n : Nat, (n : Int).toNat = n := Int.toNat_natCast
/-- a mask out of a number -/
def mk : Nat → Nat → List Bool
  | 0, _ => []
  | n + 1, k => Nat.beq (k % 2) 1 :: mk n (k / 2)
/-- what stands at an address: of cells that nobody writes any more, or of a block -/
def LdOk (H : VHeap) (p v : VVal) : Prop := (∃ cs off, p = .fptr cs off ∧ cs[off]? = some v) ∨ ∃ b off cs rw, p = .ptr (some (b, off)) ∧ H[b]? = some (.cells cs rw) ∧ cs[off]? = some v
def LdOkA (H : VHeap) (p : VVal) (n : Nat) (vs : List VVal) : Prop := (∃ cs off, p = .fptr cs off ∧ cellsAt cs off n = some vs) ∨ ∃ b off cs rw, p = .ptr (some (b, off)) ∧ H[b]? = some (.cells cs rw) ∧ cellsAt cs off n = some vs
section
variable {T : TypeId → Option VTy} {ρ : Operand → VVal} {H : VHeap} {op : Op}
theorem v_ld {t : TypeId} {a : Operand} {y : VTy} {p v : VVal} (ho : op = .load t a) (ha : ρ a = p) (hy : T t = some y) (hd : isAggDesc y.desc = false) (h : LdOk H p v) : vop T ρ H op = some (v, H) := by
  rcases h with ⟨cs, off, rfl, h⟩ | ⟨b, off, cs, rw', rfl, h1, h2⟩
  · exact v_loadF ho ha hy hd h
  · exact v_load ho ha hy hd h1 h2
theorem v_ldA {t : TypeId} {a : Operand} {y : VTy} {p : VVal} {n : Nat} {vs : List VVal} (ho : op = .load t a) (ha : ρ a = p) (hy : T t = some y) (hd : isAggDesc y.desc = true) (hn : y.size = n) (h : LdOkA H p n vs) : vop T ρ H op = some (.agg vs, H) := by
  subst hn
  rcases h with ⟨cs, off, rfl, h⟩ | ⟨b, off, cs, rw', rfl, h1, h2⟩
  · exact v_loadFA ho ha hy hd h
  · exact v_loadA ho ha hy hd h1 h2
/-- a place of a slice -/
def IxOk (p : VVal) (es : Nat) (n : Int) (v : VVal) : Prop := (∃ cs len ex, p = .fsl cs len es ex ∧ (0 ≤ n ∧ n < len) ∧ v = .fptr cs (n.toNat * es)) ∨ ∃ b off len cap ex, p = .slice (some (b, off)) len cap ex es ∧ (0 ≤ n ∧ n < len) ∧ v = .ptr (some (b, off + n.toNat * es))
theorem v_ix {t e : TypeId} {x i : Operand} {y z : VTy} {k : IntKind} {n : Int} {p v : VVal} {es : Nat} (ho : op = .indexAddr t x i) (hx : ρ x = p) (hi : ρ i = .int k n) (hy : T t = some y) (hd : y.desc = .slice e) (hz : T e = some z) (hs : z.size = es) (h : IxOk p es n v) : vop T ρ H op = some (v, H) := by
  rcases h with ⟨cs, len, ex, rfl, hn, rfl⟩ | ⟨b, off, len, cap, ex, rfl, hn, rfl⟩
  · exact v_idxF ho hx hi hy hd hz hs hn
  · exact v_idx ho hx hi hy hd hz hs hn
end
end Go.V
