/- Bytes, conversions; lists that grow behind a pointer. -/
import Derived.Test.YtbngdhlmggdaaaaP20
set_option autoImplicit false
set_option linter.unusedVariables false
set_option linter.unusedSimpArgs false
namespace Go.V
open Go Go.RowKit
abbrev iB (b : UInt8) : VVal := .int .u8 (b.toNat : Int)
def fzB (l : List UInt8) : VVal := .fsl (l.map iB) l.length 1 false
theorem mapB_under (n : Nat) (l : List UInt8) : VVal.underL n (l.map iB) = true := VVal.underL_map fun _ => rfl
theorem fzB_under (n : Nat) (l : List UInt8) : (fzB l).under n = true := VVal.underL_map fun _ => rfl
theorem mapB_one (l : List UInt8) : (l.map iB).all VVal.one = true := by rw [List.all_map]; exact List.all_eq_true.2 fun _ _ => rfl
/-- the lowest byte of a number -/
def bI (n : Int) : UInt8 := UInt8.ofNat (n % 256).toNat
def bW (w : BitVec 64) : UInt8 := UInt8.ofNat w.toNat
theorem wrap_bI (n : Int) : IntKind.u8.wrap n = ((bI n).toNat : Int) := by
  have : 0 ≤ n % 256 := Int.emod_nonneg _ (by decide)
  have h2 : n % 256 < 256 := Int.emod_lt_of_pos _ (by decide)
  have e : IntKind.u8.wrap n = n % 256 := by simp [IntKind.wrap, IntKind.bits, IntKind.signed]
  rw [e, bI, UInt8.toNat_ofNat', Nat.mod_eq_of_lt (by omega)]; omega
theorem wrap_bW (w : BitVec 64) : IntKind.u8.wrap (w.toNat : Int) = ((bW w).toNat : Int) := by
  rw [wrap_u8, bW, UInt8.toNat_ofNat']
theorem wrap_ofInt (n : Int) : IntKind.u64.wrap n = ((BitVec.ofInt 64 n).toNat : Int) := by
  have e : IntKind.u64.wrap n = n % 18446744073709551616 := by simp [IntKind.wrap, IntKind.bits, IntKind.signed]
  rw [e, BitVec.toNat_ofInt]
  show n % 18446744073709551616 = ((n % 18446744073709551616).toNat : Int)
  have : 0 ≤ n % 18446744073709551616 := Int.emod_nonneg _ (by decide)
  omega
section
variable {T : TypeId → Option VTy} {ρ : Operand → VVal} {H : VHeap} {op : Op} {s d : TypeId} {x : Operand} {ys yd : VTy} {k : IntKind} {n : Int}
theorem v_cv {j : IntKind} (ho : op = .convert s d x) (hx : ρ x = .int k n) (hs : T s = some ys) (hd : T d = some yd) (hj : yd.desc = .int j) : vop T ρ H op = some (.int j (j.wrap n), H) := by
  rw [ho]; simp only [vop, vconvert, hx, hs, hd, hj]
theorem v_cvI (ho : op = .convert s d x) (hx : ρ x = .int k n) (hs : T s = some ys) (hd : T d = some yd) (hj : yd.desc = .int .i64) (h : -9223372036854775808 ≤ n ∧ n < 9223372036854775808) : vop T ρ H op = some (iI n, H) := by
  rw [v_cv ho hx hs hd hj, wrap_i n h]
theorem v_cvW (ho : op = .convert s d x) (hx : ρ x = .int k n) (hs : T s = some ys) (hd : T d = some yd) (hj : yd.desc = .int .u64) : vop T ρ H op = some (iW (BitVec.ofInt 64 n), H) := by
  rw [v_cv ho hx hs hd hj, wrap_ofInt]
theorem v_cvB (ho : op = .convert s d x) (hx : ρ x = .int k n) (hs : T s = some ys) (hd : T d = some yd) (hj : yd.desc = .int .u8) : vop T ρ H op = some (iB (bI n), H) := by
  rw [v_cv ho hx hs hd hj, wrap_bI]
theorem v_cvWB {w : BitVec 64} (ho : op = .convert s d x) (hx : ρ x = iW w) (hs : T s = some ys) (hd : T d = some yd) (hj : yd.desc = .int .u8) : vop T ρ H op = some (iB (bW w), H) := by
  rw [v_cv ho hx hs hd hj, wrap_bW]
theorem v_cvBW {b : UInt8} (ho : op = .convert s d x) (hx : ρ x = iB b) (hs : T s = some ys) (hd : T d = some yd) (hj : yd.desc = .int .u64) : vop T ρ H op = some (iW (BitVec.ofNat 64 b.toNat), H) := by
  rw [v_cv ho hx hs hd hj]
  have e : IntKind.u64.wrap (b.toNat : Int) = (b.toNat : Int) % 18446744073709551616 := by simp [IntKind.wrap, IntKind.bits, IntKind.signed]
  have := b.toNat_lt
  rw [e]
  have e2 : (BitVec.ofNat 64 b.toNat).toNat = b.toNat := by rw [BitVec.toNat_ofNat]; exact Nat.mod_eq_of_lt (by omega)
  show some (VVal.int .u64 _, H) = some (VVal.int .u64 _, H)
  rw [e2, Int.emod_eq_of_lt (by omega) (by omega)]
/-- a slice of bytes as a slice of bytes of another name -/
theorem v_cvSl {e : TypeId} {z : VTy} {b off len cap es : Nat} {ex : Bool} {cs : List VVal} (ho : op = .convert s s x) (hx : ρ x = .slice (some (b, off)) len cap ex es) (hs : T s = some ys) (hd : ys.desc = .slice e) (hz : T e = some z) (hu : z.desc = .int .u8) (hb : H[b]? = some (.cells cs true)) : vop T ρ H op = some (.slice (some (b, off)) len cap ex es, H) := by
  rw [ho]; simp [vop, vconvert, hx, hs, hd, hz, hu, hb]
theorem v_shrN {t ty : TypeId} {x y : Operand} {a : BitVec 64} (m : Nat) (ho : op = .binOp .shr t x y ty) (hx : ρ x = .int .u64 a.toNat) (hy : ρ y = .int k (m : Nat)) : vop T ρ H op = some (iW (a >>> m), H) := by
  have := v_shrW (T := T) (H := H) ho hx hy (by omega)
  rwa [Int.toNat_natCast] at this
theorem bytesOf_map : ∀ l : List UInt8, bytesOf (l.map iB) = some l
  | [] => rfl
  | b :: l => by
    have := b.toNat_lt
    rw [List.map_cons, bytesOf, bytesOf_map l]
    simp
/-- frozen bytes as a text -/
theorem v_cvS {e : TypeId} {z : VTy} {l : List UInt8} (ho : op = .convert s d x) (hx : ρ x = fzB l) (hs : T s = some ys) (hd : T d = some yd) (h1 : ys.desc = .slice e) (h2 : yd.desc = .string) (hz : T e = some z) (hu : z.desc = .int .u8) : vop T ρ H op = some (.str ⟨l.toArray⟩, H) := by
  rw [ho]; simp only [vop, vconvert, hx, fzB, hs, hd, h1, h2, hz, hu]
  have := map_all (f := iB) (l := l)
  rw [Nat.mul_one] at this
  simp only [this, bytesOf_map, Option.map_some]
theorem v_cvS0 {e : TypeId} {z : VTy} {n c : Nat} {ex : Bool} {es : Nat} (ho : op = .convert s d x) (hx : ρ x = .slice none n c ex es) (hs : T s = some ys) (hd : T d = some yd) (h1 : ys.desc = .slice e) (h2 : yd.desc = .string) (hz : T e = some z) (hu : z.desc = .int .u8) : vop T ρ H op = some (.str ⟨([] : List UInt8).toArray⟩, H) := by
  rw [ho]; simp only [vop, vconvert, hx, hs, hd, h1, h2, hz, hu]; rfl
end
/-- what was exactly so long may be longer -/
theorem Gh.loosen {S : Sys} {H0 H : VHeap} {vs vs' : List VVal} (i : Nat) {b off len cap es : Nat} (hv : vs[i]? = some (.slice (some (b, off)) len cap true es)) (he : vs.set i (.slice (some (b, off)) len cap false es) = vs') : Gh S H0 vs H vs' H := by
  subst he
  intro h
  refine ⟨h, fun w ι xs hb s r => ?_⟩
  obtain ⟨x, hx, rx⟩ := r.get i _ hv
  refine ⟨ι, Inj.ex_refl _ _, s, ?_⟩
  have rx' : Rel ι (.slice (some (b, off)) len cap false es) x := by
    simp only [Rel] at rx ⊢
    obtain ⟨e, c, h1, h2, h3, h4, h5⟩ := rx
    exact ⟨e, c, h1, h2, (fun hf => absurd hf (by decide)), h4, h5⟩
  have := RelL.set i r rx'
  rwa [set_same hx] at this
/-- a list that grows behind a pointer: block j holds it; b blocks lie ahead of these -/
structure RG (b es : Nat) (X : VHeap) (j : Nat) (v : VVal) (cs : List VVal) (n : Nat) : Prop where
  c : X[j]? = some (.cells [v] true)
  l : LV b es X v cs n
  n : vidx v ≠ some (b + j)
/-- what stands in other blocks stays -/
def Kp (b j : Nat) (X : VHeap) (v : VVal) (X' : VHeap) (v' : VVal) : Prop := ∀ i k, X[i]? = some k → i ≠ j → vidx v ≠ some (b + i) → X'[i]? = some k ∧ vidx v' ≠ some (b + i)
theorem Kp.refl (b j : Nat) (X : VHeap) (v : VVal) : Kp b j X v X v := fun _ _ h _ h2 => ⟨h, h2⟩
theorem Kp.trans {b j : Nat} {X X1 X2 : VHeap} {v v1 v2 : VVal} (h1 : Kp b j X v X1 v1) (h2 : Kp b j X1 v1 X2 v2) : Kp b j X v X2 v2 := fun i k h3 h4 h5 => by
  obtain ⟨a, c⟩ := h1 i k h3 h4 h5
  exact h2 i k a h4 c
theorem RG.push {b es : Nat} {X : VHeap} {j : Nat} {v : VVal} {cs new : List VVal} {n k : Nat} (r : RG b es X j v cs n) {Y1 : VHeap} (h1 : Y1.length = X.length) (h2 : ∀ i, vidx v ≠ some (b + i) → Y1[i]? = X[i]?) {m m2 : Nat}
    (h3 : LV b es (Y1 ++ [VBlk.cells new true, VBlk.cells (cs ++ new) true]) (.slice (some (b + (X.length + 1), 0)) m m2 false es) (cs ++ new) k) :
    RG b es ((Y1 ++ [VBlk.cells new true, VBlk.cells (cs ++ new) true]).set j (VBlk.cells [VVal.slice (some (b + (X.length + 1), 0)) m m2 false es] true)) j (.slice (some (b + (X.length + 1), 0)) m m2 false es) (cs ++ new) k ∧
      Kp b j X v ((Y1 ++ [VBlk.cells new true, VBlk.cells (cs ++ new) true]).set j (VBlk.cells [VVal.slice (some (b + (X.length + 1), 0)) m m2 false es] true)) (.slice (some (b + (X.length + 1), 0)) m m2 false es) := by
  have hj : j < X.length := lt_of_get r.c
  refine ⟨⟨?_, ?_, ?_⟩, ?_⟩
  · exact List.getElem?_set_self (by simp; omega)
  · refine LV.frame h3 fun i hi => ?_
    simp only [vidx, Option.some.injEq] at hi
    rw [List.getElem?_set_ne (by omega)]
  · simp only [vidx, ne_eq, Option.some.injEq]; omega
  · intro i k hk hij hv
    have hi : i < X.length := lt_of_get hk
    refine ⟨?_, ?_⟩
    · rw [List.getElem?_set_ne (Ne.symm hij), List.getElem?_append_left (by omega), h2 i hv]; exact hk
    · simp only [vidx, ne_eq, Option.some.injEq]; omega
end Go.V
