/- Proved: Rows.TallyOwnCardSaid, the statement TallyOwn with its card, of the given program at the commit; no conditions beyond those in the statement. -/
import Derived.RangeFuncLeaves
import Derived.RangeFuncCalls
import Derived.Below
import Derived.Laws.Cells
import Derived.Laws.Entries
import Derived.KernelRfl
namespace Go.V
theorem XH0 {P : Prop} (h : P := by first | exact ZI rfl rfl | exact JE (by assumption) | exact getE0 rfl rfl | exact JE (ZI rfl rfl) | exact ZI rfl (by assumption) | assumption | (simp only [List.append_assoc, List.singleton_append, List.cons_append, List.nil_append]; refine getE (i := 0) rfl ?_ rfl; simp; done) | (simp only [List.append_assoc, List.singleton_append, List.cons_append, List.nil_append]; refine getE (i := 1) rfl ?_ rfl; simp; done) | (simp only [List.append_assoc, List.singleton_append, List.cons_append, List.nil_append]; refine getE (i := 2) rfl ?_ rfl; simp; done) | (simp only [List.append_assoc, List.singleton_append, List.cons_append, List.nil_append]; refine getE (i := 3) rfl ?_ rfl; simp; done) | (simp [*]; done)) : P := h
theorem XH1 {P : Prop} (h : P := by first | exact setE0 rfl rfl | (simp only [List.append_assoc, List.singleton_append, List.cons_append, List.nil_append]; refine setE (i := 0) rfl ?_; simp; done) | (simp only [List.append_assoc, List.singleton_append, List.cons_append, List.nil_append]; refine setE (i := 1) rfl ?_; simp; done) | (simp only [List.append_assoc, List.singleton_append, List.cons_append, List.nil_append]; refine setE (i := 2) rfl ?_; simp; done) | (simp only [List.append_assoc, List.singleton_append, List.cons_append, List.nil_append]; refine setE (i := 3) rfl ?_; simp; done) | (refine setB rfl ?_; simp; done) | exact ZO rfl | exact Yl (ZG (by assumption)) | rfl) : P := h
theorem XH2 {P : Prop} (h : P := by first | exact eqIn_ptr1 _ _ hu w | exact eqIn_ptr2 _ _ hu w | exact eqIn_sl1 _ _ _ _ _ _ hu w | exact eqIn_sl2 _ _ _ _ _ _ hu w | exact eqIn_map1 _ _ _ hu w | exact eqIn_map2 _ _ _ hu w | exact eqIn_fn0 _ _ _ hu w | exact eqIn_fn1 _ _ _ _ _ _ hu w | exact eqIn_fn2 _ _ _ _ _ _ hu w) : P := h
theorem XH3 {P : Prop} (h : P := by kernel_rfl) : P := h
theorem XH4 {P : Prop} (h : P := by first | assumption | omega | (simp [*]; done) | (simp at *; omega)) : P := h
theorem XH5 {P : Prop} (h : P := by first | exact Nat.le_of_ble_eq_true rfl | (simp only [List.length_map, List.length_cons, List.length_nil]; omega) | omega | (simp; done) | (simp; omega)) : P := h
theorem XH6 {P : Prop} (h : P := by first | rfl | assumption | exact Jj (α := BitVec 64) 0 (by omega) | exact Jj (α := Int) 0 (by omega) | exact XE (α := BitVec 64) 0 (by omega) | exact XE (α := Int) 0 (by omega) | exact Jj (α := Bool) false (by omega) | exact XE (α := Bool) false (by omega) | (simp [*]; done)) : P := h
theorem XH7 {P : Prop} (h : P := by first | rfl | assumption | exact YT (α := BitVec 64) 0 (by omega) | exact YT (α := Int) 0 (by omega) | exact rul_at (by omega) | exact rul_f2 (by omega) | exact rul_f0 (by omega) | exact rul_f1 (by omega)) : P := h
theorem XH8 {P : Prop} (h : P := by first | exact Nat.le_refl _ | simp) : P := h
theorem XH9 {P : Prop} (h : P := by have h9 := ln_64 w; exact ⟨by omega, Int.lt_of_le_of_lt (Int.ofNat_le.2 (ln_64 _)) (by decide)⟩) : P := h
theorem XH10 {P : Prop} (h : P := by simp [Op.operands]) : P := h
theorem XH11 {P : Prop} (h : P := by have := come_le2 (trn_sub (rows := rows) (n := n) (i := k) (s := (s1.1, s1.2 ||| 1#64 <<< u))); show 64 - YA 64 (trn rows n k (s1.1, s1.2 ||| 1#64 <<< u)).2.2 ≤ n; simp only at this; omega) : P := h
theorem XH12 {P : Prop} (h : P := by rw [List.append_nil]; by_cases hq : s.2 = false ∨ (mxB []) < s.1; (rw [ldS_y hq]; first | rfl | (exfalso; rcases hq with hq | hq <;> first | omega | simp_all)); (first | (rw [ldS_n hq]; done) | (exfalso; exact hq (.inl (by assumption))) | (exfalso; exact hq (.inr (by omega))))) : P := h
theorem XH13 {P : Prop} (h : P := by rw [List.append_nil]; by_cases hq : s.2 = false ∨ (mxB c) < s.1; (rw [ldS_y hq]; first | rfl | (exfalso; rcases hq with hq | hq <;> first | omega | simp_all)); (first | (rw [ldS_n hq]; done) | (exfalso; exact hq (.inl (by assumption))) | (exfalso; exact hq (.inr (by omega))))) : P := h
theorem XH14 {P : Prop} (h : P := by rw [List.length_map]; omega) : P := h
theorem XH15 {P : Prop} (h : P := by first | (simp [VVal.underL, VVal.under, YZ]; done) | (simp [VVal.underL, VVal.under, YZ]; omega)) : P := h
theorem XH16 {P : Prop} (h : P := by rw [YE]; omega) : P := h
theorem XH17 {P : Prop} (h : P := by first | exact ZI rfl rfl | exact JE hp | exact JE hq | exact ZI (YN rfl) rfl | exact ht_q hA | exact ht_p hA | exact ht_s hA) : P := h
theorem XH18 {P : Prop} (h : P := by first | exact ZI rfl rfl | exact JE hp | exact JE hq | exact ZI (Xu rfl) rfl | exact mt_q hqH | exact mt_p hpH hpq) : P := h
theorem XH19 {P : Prop} (h : P := by first | exact Nat.le_refl _ | (simp; done) | exact Nat.le_of_eq (by rw [List.length_append, List.length_append, Xu rfl, Xu rfl])) : P := h
theorem XH20 {P : Prop} (h : P := by first | exact Nat.le_refl _ | (simp; done) | exact Nat.le_of_eq (by rw [List.length_append, List.length_append, YN rfl, YN rfl])) : P := h
theorem XH21 {P : Prop} (h : P := by first | exact ZI rfl rfl | exact ZcR rfl rfl) : P := h
theorem XH22 {P : Prop} (h : P := by rw [List.length_take]; show (_ + 1) * 8 ≤ _ ∧ _ + 1 ≤ _; omega) : P := h
theorem XH23 {P : Prop} (h : P := by rw [List.length_map]; exact (Nat.mul_one _).symm) : P := h
theorem XH24 {P : Prop} (h : P := by rw [Yx]; omega) : P := h
theorem XH25 {P : Prop} (h : P := by first | rw [if_pos (hs.2 (.inr (by assumption)))]; rfl | (by_cases hm : l.getD i 0 ∈ l.take k; (rw [if_pos hm, if_pos (hs.2 (.inl hm))]; rfl); (rw [if_neg hm, if_neg (fun e => (hs.1 e).elim hm (by assumption))]; rfl))) : P := h
theorem XH26 {P : Prop} (h : P := by have := l.1; omega) : P := h
theorem XH27 {P : Prop} (h : P := by first | exact Nat.le_refl _ | assumption | (rw [List.append_nil]; assumption) | simp) : P := h
theorem XH28 {P : Prop} (h : P := by show 0 ≤ (c : Int) ∧ (c : Int) < s1.1.length; omega) : P := h
theorem XH29 {P : Prop} (h : P := by rw [hb, Nat.zero_add]) : P := h
theorem XH30 {P : Prop} (h : P := by show 64 - YA 64 (s1.2 ||| 1#64 <<< c) < n; omega) : P := h
theorem XH31 {P : Prop} (h : P := by rw [List.length_map]; exact h) : P := h
theorem XH32 {P : Prop} (h : P := by first | (have h8 := lst1_prev (l := r.steps) (k := k) (by omega) (by omega); omega) | (have h8 := lst1_0 (l := r.steps) (k := k) (by omega); omega)) : P := h
theorem XH33 {P : Prop} (h : P := by exact turn_in hpq ih H _ (s1.1, s1.2 ||| 1#64 <<< u) hpH hqH k (by omega) hl1 (by show 64 - YA 64 (s1.2 ||| 1#64 <<< u) < n; omega)) : P := h
theorem XH34 {P : Prop} (h : P := by first | exact v_idxFA rfl rfl rfl rfl rfl rfl XH4 | exact v_idxA rfl rfl rfl rfl rfl rfl XH4) : P := h
theorem XH35 {P : Prop} (h : P := by first | exact ZI rfl rfl | exact JE (by assumption) | exact getE0 rfl rfl | exact JE (ZI rfl rfl) | exact ZI rfl (by assumption) | assumption | (simp only [List.append_assoc, List.singleton_append, List.cons_append, List.nil_append]; refine getE (i := 0) rfl ?_ rfl; simp; done) | (simp only [List.append_assoc, List.singleton_append, List.cons_append, List.nil_append]; refine getE (i := 1) rfl ?_ rfl; simp; done) | (simp only [List.append_assoc, List.singleton_append, List.cons_append, List.nil_append]; refine getE (i := 2) rfl ?_ rfl; simp; done) | (simp only [List.append_assoc, List.singleton_append, List.cons_append, List.nil_append]; refine getE (i := 3) rfl ?_ rfl; simp; done) | (simp [*]; done)) : P := h
theorem XH36 {P : Prop} (h : P := by first | rfl | assumption | exact Jj (α := BitVec 64) 0 (by omega) | exact Jj (α := Int) 0 (by omega) | exact XE (α := BitVec 64) 0 (by omega) | exact XE (α := Int) 0 (by omega) | exact Jj (α := Bool) false (by omega) | exact XE (α := Bool) false (by omega) | (simp [*]; done)) : P := h
theorem XH37 {P : Prop} (h : P := by first | rfl | assumption | exact YT (α := BitVec 64) 0 (by omega) | exact YT (α := Int) 0 (by omega) | exact rul_at (by omega) | exact rul_f2 (by omega) | exact rul_f0 (by omega) | exact rul_f1 (by omega)) : P := h
theorem XH38 {P : Prop} (h : P := by first | exact Nat.le_of_ble_eq_true rfl | (simp only [List.length_map, List.length_cons, List.length_nil]; omega) | omega | (simp; done) | (simp; omega)) : P := h
theorem XH39 {P : Prop} (h : P := by first | rfl | assumption | exact YT (α := Nat) 0 (by omega) | exact XE (α := BitVec 64) 0 XH16 | exact Jj (α := BitVec 64) 0 XH16) : P := h
theorem XH40 {P : Prop} (h : P := by first | exact ZI rfl rfl | exact JE hp | exact JE hq | exact ZI (YN rfl) rfl | exact ht_q hA | exact ht_p hA | exact ht_s hA) : P := h
theorem XH41 {P : Prop} (h : P := by first | exact BaseOk.refl _ | exact BaseOk.set (BaseOk.refl _) _ rfl) : P := h
theorem XH42 {P : Prop} (h : P := by first | rfl | assumption | exact YT (α := Nat) 0 (by omega) | exact YT (α := BitVec 64) 0 (by omega) | exact rul_at (by omega)) : P := h
theorem XH43 {P : Prop} (h : P := by first | rfl | assumption | exact XE (α := BitVec 64) 0 XH24 | exact Jj (α := BitVec 64) 0 XH24) : P := h
theorem XH44 {P : Prop} (h : P := by first | exact ZI rfl rfl | exact JE hp | exact JE hq | exact ZI (Xu rfl) rfl | exact mt_q hqH | exact mt_p hpH hpq) : P := h
theorem XH45 {P : Prop} (h : P := by first | rfl | assumption | exact YT (α := BitVec 64) 0 (by omega) | exact YT (α := Int) 0 (by omega) | exact rul_at (by omega)) : P := h
theorem XH46 {P : Prop} (h : P := by first | rfl | assumption | exact YT (α := Int) 0 (by omega) | exact Jj (α := Int) 0 (by omega)) : P := h
theorem XH47 {P : Prop} (h : P := by first | exact .inl ⟨_, _, rfl, by first | rfl | assumption | exact bkC_get (by omega) | exact YT (α := Nat) 0 (by omega)⟩ | exact .inr ⟨_, _, _, _, rfl, XH35, by first | rfl | assumption | exact bkC_get (by omega) | exact YT (α := Nat) 0 (by omega)⟩) : P := h
theorem XH48 {P : Prop} (h : P := by first | exact .inl ⟨_, _, rfl, by first | rfl | assumption | exact YT (α := List Nat) [] (by omega)⟩ | exact .inr ⟨_, _, _, _, rfl, XH35, by first | rfl | assumption | exact YT (α := List Nat) [] (by omega)⟩) : P := h
theorem XH49 {P : Prop} (h : P := by first | rfl | simp [VVal.under, VVal.underL, *]) : P := h
theorem XH50 {P : Prop} (h : P := by first | exact .inl ⟨_, _, rfl, by first | rfl | assumption | exact YT (α := Nat) 0 (by omega)⟩ | exact .inr ⟨_, _, _, _, rfl, XH35, by first | rfl | assumption | exact YT (α := Nat) 0 (by omega)⟩) : P := h
theorem XH51 {P : Prop} (h : P := by first | assumption | omega | (simp [*]; done) | (simp at *; omega)) : P := h
set_option autoImplicit false
set_option linter.unusedVariables false
open Go
inductive VVal where
 | undef
 | bool (b : Bool)
 | int (k : IntKind) (n : Int)
 | str (s : ByteArray)
 | ptr (a : Option (Nat × Nat))
 | slice (a : Option (Nat × Nat)) (len cap : Nat) (ex : Bool) (es : Nat)
 /-- a slice whose cells nobody writes any more (of length 0: nil or not) -/
 | fsl (cs : List VVal) (len es : Nat) (ex : Bool)
 /-- a pointer into such cells -/
 | fptr (cs : List VVal) (off : Nat)
 | map (r : Option Nat)
 | func (f : FuncId) (first captured : List VVal)
 | yield (l : Nat)
 | nilFunc
 | iface (t : TypeId) (v : VVal)
 | nilIface
 | agg (cs : List VVal)
 | tuple (vs : List VVal)
 deriving Inhabited
abbrev VVal.skip : VVal := .tuple []
inductive VBlk where
 | cells (cs : List VVal) (rw : Bool)
 | map (es : List (VVal × VVal))
 | loop (st : LoopState) (pending : Option Code) (fn : FuncId) (tmps : List VVal) (params : List Nat) (assign body : Code)
 | dead
 deriving Inhabited
abbrev Ze := List VBlk
abbrev VEnv := List VVal
structure VTy where
 desc : TypeDesc
 size : Nat
 bytes : Nat
 zero : List VVal
 /-- '==' on it compares cell by cell, each a number or a bool -/
 flat : Bool
def Zk : TypeDesc → Bool
 | .struct _ | .array _ _ => true
 | _ => false
structure Cfg where
 T : TypeId → Option VTy
 /-- the method of that name of a dynamic type, where the receiver is handed on as it is -/
 meth : TypeId → String → Option FuncId
 fn : FuncId → Option Func
mutual
def VVal.under (n : Nat) : VVal → Bool
 | .ptr (some (b, _)) => b < n
 | .slice (some (b, _)) _ _ _ _ => b < n
 | .fsl cs _ _ _ => VVal.underL n cs
 | .fptr cs _ => VVal.underL n cs
 | .map (some r) => r < n
 | .yield l => l < n
 | .func _ fs cs => VVal.underL n fs && VVal.underL n cs
 | .iface _ v => VVal.under n v
 | .agg cs => VVal.underL n cs
 | .tuple cs => VVal.underL n cs
 | _ => true
def VVal.underL (n : Nat) : List VVal → Bool
 | [] => true
 | v :: vs => VVal.under n v && VVal.underL n vs
end
def VBlk.under (n : Nat) : VBlk → Bool
 | .cells cs _ => VVal.underL n cs
 | .map es => es.all fun e => e.1.under n && e.2.under n
 | .loop _ _ _ tmps _ _ _ => VVal.underL n tmps
 | .dead => true
def VVal.ofFlat : Value → VVal
 | .bool b => .bool b
 | .int k n => .int k n
 | .string s => .str s
 | .pointer none => .ptr none
 | .slice none 0 0 => .slice none 0 0 true 0
 | .map none => .map none
 | .nilFunc => .nilFunc
 | .nilIface => .nilIface
 | _ => .undef
def VVal.ofConst : Value → VVal
 | .agg cs => .agg (cs.toList.map VVal.ofFlat)
 | v => VVal.ofFlat v
def VEnv.eval (env : VEnv) : Operand → VVal
 | .tmp t => env.getD t .skip
 | .const v => VVal.ofConst v
 | .global _ => .undef
 | .func f => .func f [] []
def VEnv.put (env : VEnv) (dst : Option Nat) (v : VVal) : VEnv :=
 match dst with
 | some d => env.set d v
 | none => env
def VVal.cells : VVal → Option (List VVal)
 | .agg cs => some cs
 | .undef => none
 | .tuple _ => none
 | v => some [v]
def VVal.one : VVal → Bool
 | .undef | .agg _ | .tuple _ => false
 | _ => true
def vnew (H : Ze) (cs : List VVal) : VVal × Ze := (.ptr (some (H.length, 0)), H ++ [.cells cs true])
def Zo (cs : List VVal) (off n : Nat) : Option (List VVal) :=
 if off + n ≤ cs.length then some ((cs.drop off).take n) else none
def QS (H : Ze) (agg : Bool) (size : Nat) (a : Nat × Nat) : Option VVal :=
 match H[a.1]? with
 | some (.cells cs _) => if agg then (Zo cs a.2 size).map .agg else cs[a.2]?
 | _ => none
def Y4 (T : TypeId → Option VTy) (H : Ze) (t : TypeId) (a : VVal) : Option VVal :=
 match a, T t with
 | .ptr (some p), some y => QS H (Zk y.desc) y.size p
 | .fptr cs off, some y => if Zk y.desc then (Zo cs off y.size).map .agg else cs[off]?
 | _, _ => none
def Zx (cs : List VVal) (off : Nat) (new : List VVal) : List VVal := cs.take off ++ new ++ cs.drop (off + new.length)
def QM (H : Ze) (a : Nat × Nat) (new : List VVal) : Option Ze :=
 match H[a.1]? with
 | some (.cells cs true) => if a.2 + new.length ≤ cs.length then some (H.set a.1 (.cells (Zx cs a.2 new) true)) else none
 | _ => none
def Zbj (T : TypeId → Option VTy) (H : Ze) (t : TypeId) (a v : VVal) : Option Ze :=
 match a, T t, v.cells with
 | .ptr (some p), some y, some cs => if cs.length = y.size ∧ cs.all VVal.one = true then QM H p cs else none
 | _, _, _ => none
def QT (place : Nat → Option (Nat × Nat)) (cells : List VVal) : List (Nat × VVal) → Option (List VVal)
 | [] => some cells
 | (i, v) :: rest =>
  match place i, v.cells with
  | some (off, size), some cs => if cs.length = size ∧ off + size ≤ cells.length then QT place (Zx cells off cs) rest else none
  | _, _ => none
def ZaF (T : TypeId → Option VTy) : List Field → Option (List (Nat × Nat))
 | [] => some []
 | f :: fs => match T f.type, ZaF T fs with
  | some z, some l => some ((f.offset, z.size) :: l)
  | _, _ => none
def vbuild (T : TypeId → Option VTy) (t : TypeId) (parts : List (Nat × VVal)) : Option VVal :=
 match T t with
 | some y =>
  match y.desc with
  | .struct fields => match ZaF T fields.toList with
   | some l => (QT (fun i => l[i]?) y.zero parts).map .agg
   | none => none
  | .array _ elem => match T elem with
   | some z => (QT (fun i => some (i * z.size, z.size)) y.zero parts).map .agg
   | none => none
  | _ => none
 | none => none
def ZH (zero : List VVal) : Nat → List VVal
 | 0 => []
 | n + 1 => zero ++ ZH zero n
def Y6 (T : TypeId → Option VTy) (t : TypeId) : Option (TypeId × VTy) :=
 match T t with
 | some y => match y.desc with
  | .slice e => (T e).map fun z => (e, z)
  | _ => none
 | none => none
def Xo (T : TypeId → Option VTy) (H : Ze) (t : TypeId) (len : Nat) (parts : List (Nat × VVal)) : Option (VVal × Ze) :=
 match Y6 T t with
 | some (_, z) =>
  if len * z.size ≤ 16777216 ∧ z.size = z.zero.length ∧ 0 < z.size then
   (QT (fun i => some (i * z.size, z.size)) (ZH z.zero len) parts).map fun cs =>
    (.slice (some (H.length, 0)) len len true z.size, H ++ [.cells cs true])
  else none
 | none => none
def XS (T : TypeId → Option VTy) (H : Ze) (t : TypeId) (len cap : VVal) : Option (VVal × Ze) :=
 match Y6 T t, len, cap with
 | some (_, z), .int .i64 l, .int .i64 c =>
  if 0 ≤ l ∧ l ≤ c ∧ c * z.bytes ≤ 281474976710656 ∧ c ≤ 9223372036854775807 ∧ z.size = z.zero.length ∧ 0 < z.size then
   some (.slice (some (H.length, 0)) l.toNat c.toNat true z.size, H ++ [.cells (ZH z.zero c.toNat) true])
  else none
 | _, _, _ => none
def QU (op : BinOp) (k : IntKind) (x y : Int) : Int :=
 let a := BitVec.ofInt k.bits x
 let b := BitVec.ofInt k.bits y
 match op with
 | .and => k.wrap (a &&& b).toNat
 | .or => k.wrap (a ||| b).toNat
 | .xor => k.wrap (a ^^^ b).toNat
 | _ => k.wrap (a &&& ~~~b).toNat
def vint (op : BinOp) (k : IntKind) (x y : Int) : Option VVal :=
 match op with
 | .add => some (.int k (k.wrap (x + y)))
 | .sub => some (.int k (k.wrap (x - y)))
 | .mul => some (.int k (k.wrap (x * y)))
 | .quo => if y = 0 then none else some (.int k (k.wrap (x.tdiv y)))
 | .rem => if y = 0 then none else some (.int k (x.tmod y))
 | .and | .or | .xor | .andNot => some (.int k (QU op k x y))
 | .eql => some (.bool (x == y))
 | .neq => some (.bool (x != y))
 | .lss => some (.bool (decide (x < y)))
 | .leq => some (.bool (decide (x ≤ y)))
 | .gtr => some (.bool (decide (x > y)))
 | .geq => some (.bool (decide (x ≥ y)))
 | _ => none
def J8 (op : BinOp) (k : IntKind) (x y : Int) : Option VVal :=
 if y < 0 then none else
 match op with
 | .shl => some (.int k (k.wrap (x * 2 ^ (min y.toNat k.bits))))
 | .shr => some (.int k (x.fdiv (2 ^ (min y.toNat k.bits))))
 | _ => none
def YP : List VVal → List VVal → Option Bool
 | [], [] => some true
 | .int k a :: xs, .int j b :: ys => if k = j then (YP xs ys).map fun r => a == b && r else none
 | _, _ => none
def veq (T : TypeId → Option VTy) (t : TypeId) (x y : VVal) : Option Bool :=
 match T t with
 | none => none
 | some i =>
  match i.desc, x, y with
  | .bool, .bool a, .bool b => some (a == b)
  | .pointer _, .ptr none, .ptr b => some b.isNone
  | .pointer _, .ptr (some _), .ptr none => some false
  | .slice _, .slice none _ _ ex _, .slice none _ _ true _ => some ex
  | .slice _, .slice none _ _ true _, .slice none _ _ false _ => some false
  | .slice _, .slice none _ _ true _, .slice (some _) _ _ _ _ => some false
  | .slice _, .slice (some _) _ _ _ _, .slice none _ _ true _ => some false
  | .slice _, .slice none _ _ true _, .fsl _ len _ _ => if len = 0 then none else some false
  | .slice _, .fsl _ len _ _, .slice none _ _ true _ => if len = 0 then none else some false
  | .pointer _, .ptr none, .fptr _ _ => some false
  | .pointer _, .fptr _ _, .ptr none => some false
  | .map _ _, .map none, .map b => some b.isNone
  | .map _ _, .map (some _), .map none => some false
  | .func _ _ _, .nilFunc, .nilFunc => some true
  | .func _ _ _, .nilFunc, .func _ _ _ => some false
  | .func _ _ _, .func _ _ _, .nilFunc => some false
  | .func _ _ _, .nilFunc, .yield _ => some false
  | .func _ _ _, .yield _, .nilFunc => some false
  | .array _ _, .agg xs, .agg ys => if i.flat = true ∧ xs.length = i.size ∧ ys.length = i.size then YP xs ys else none
  | .struct _, .agg xs, .agg ys => if i.flat = true ∧ xs.length = i.size ∧ ys.length = i.size then YP xs ys else none
  | _, _, _ => none
def vstr (op : BinOp) (x y : ByteArray) : Option VVal :=
 let eq := x.toList == y.toList
 let lt := Op.bytesLess x.toList y.toList
 match op with
 | .add => if x.size + y.size ≤ 4611686018427387904 then some (.str (x ++ y)) else none
 | .eql => some (.bool eq)
 | .neq => some (.bool !eq)
 | .lss => some (.bool lt)
 | .leq => some (.bool (lt || eq))
 | .gtr => some (.bool !(lt || eq))
 | .geq => some (.bool !lt)
 | _ => none
def Zar (T : TypeId → Option VTy) (op : BinOp) (t : TypeId) (x y : VVal) : Option VVal :=
 match x, y with
 | .int k a, .int k' b =>
  match op with
  | .shl | .shr => J8 op k a b
  | _ => if k = k' then vint op k a b else none
 | .str a, .str b => vstr op a b
 | x, y =>
  match op with
  | .eql => (veq T t x y).map .bool
  | .neq => (veq T t x y).map fun b => .bool !b
  | _ => none
def vun (op : UnOp) (x : VVal) : Option VVal :=
 match op, x with
 | .neg, .int k n => some (.int k (k.wrap (0 - n)))
 | .xor, .int k n => some (.int k (QU .xor k (if k.signed then -1 else k.max) n))
 | .not, .bool b => some (.bool !b)
 | _, _ => none
def bytesOf : List VVal → Option (List UInt8)
 | [] => some []
 | .int .u8 n :: vs => (bytesOf vs).map (UInt8.ofNat n.toNat :: ·)
 | _ => none
def Yw (T : TypeId → Option VTy) (H : Ze) (src dst : TypeId) (x : VVal) : Option (VVal × Ze) :=
 match T src, T dst with
 | some s, some d =>
  match s.desc, d.desc, x with
  | _, .int k, .int _ n => some (.int k (k.wrap n), H)
  | _, _, _ => none
 | _, _ => none
def Yp (len cap : Nat) (low high max : Option VVal) : Option (Nat × Nat × Nat) :=
 let bound (v : Option VVal) (dflt y : Nat) : Option Nat :=
  match v with
  | none => some dflt
  | some (.int _ i) => if 0 ≤ i ∧ i ≤ y then some i.toNat else none
  | some _ => none
 match bound max cap cap with
 | none => none
 | some m =>
  match bound high len m with
  | none => none
  | some h =>
   match bound low 0 h with
   | none => none
   | some l => some (l, h, m)
def Jw (T : TypeId → Option VTy) (t : TypeId) (x : VVal) (low high max : Option VVal) : Option VVal :=
 match T t with
 | none => none
 | some y =>
  match y.desc, x with
  | .string, .str s =>
   match max, Yp s.size s.size low high none with
   | none, some (l, h, _) => some (.str (s.extract l h))
   | _, _ => none
  | .slice e, .slice a len cap ex es =>
   match (T e).map (·.size), Yp len cap low high max, (max.isSome && high.isNone) with
   | some z, some (l, h, m), false =>
    if ¬ len ≤ cap then none else
    match a with
    | none => some (.slice none 0 0 ex es)
    | some (b, off) =>
     if z = es ∧ (l < m ∨ (l = 0 ∧ m = 0)) then some (.slice (some (b, off + l * es)) (h - l) (m - l) (ex || max.isSome) es)
     else if z = es ∧ l = m ∧ h = l then (if (ex || max.isSome) = true then some (.slice (some (b, off)) 0 0 true es) else some (.slice none 0 0 false es))
     else none
   | _, _, _ => none
  | .slice e, .fsl cs len es ex =>
   match (T e).map (·.size), Yp len len low high max, (max.isSome && high.isNone) with
   | some z, some (l, h, m), false =>
    if z = es then
     match Zo cs (l * es) ((h - l) * es) with
     | some w => some (.fsl w (h - l) es (if max.isSome then m == h else ex && h == len))
     | none => none
    else none
   | _, _, _ => none
  | _, _ => none
def JT (T : TypeId → Option VTy) (s : TypeId) (a : VVal) (f : Nat) : Option VVal :=
 match T s, a with
 | some y, .ptr (some (b, off)) =>
  match y.desc with
  | .struct fields => match fields[f]? with
   | some fd => match T fd.type with
    | some z => if z.size ≠ 0 then some (.ptr (some (b, off + fd.offset))) else none
    | none => none
   | none => none
  | _ => none
 | some y, .fptr cs off =>
  match y.desc with
  | .struct fields => match fields[f]? with
   | some fd => match T fd.type with
    | some z => if z.size ≠ 0 then some (.fptr cs (off + fd.offset)) else none
    | none => none
   | none => none
  | _ => none
 | _, _ => none
def vpart (T : TypeId → Option VTy) (t : TypeId) (cs : List VVal) (off : Nat) : Option VVal :=
 match T t with
 | some y => if Zk y.desc then (Zo cs off y.size).map .agg else cs[off]?
 | none => none
def vfield (T : TypeId → Option VTy) (t : TypeId) (x : VVal) (f : Nat) : Option VVal :=
 match T t, x with
 | some y, .agg cs =>
  match y.desc with
  | .struct fields => match fields[f]? with
   | some fd => vpart T fd.type cs fd.offset
   | none => none
  | _ => none
 | _, _ => none
def Y9 (T : TypeId → Option VTy) (t : TypeId) (x i : VVal) : Option VVal :=
 match T t, i with
 | some y, .int _ n =>
  match y.desc, x with
  | .array len elem, .ptr (some (b, off)) =>
   match T elem with
   | some z => if 0 ≤ n ∧ n < len then some (.ptr (some (b, off + n.toNat * z.size))) else none
   | none => none
  | .slice elem, .slice (some (b, off)) len _ _ es =>
   match T elem with
   | some z => if z.size = es ∧ 0 ≤ n ∧ n < len then some (.ptr (some (b, off + n.toNat * es))) else none
   | none => none
  | .array len elem, .fptr cs off =>
   match T elem with
   | some z => if 0 ≤ n ∧ n < len then some (.fptr cs (off + n.toNat * z.size)) else none
   | none => none
  | .slice elem, .fsl cs len es _ =>
   match T elem with
   | some z => if z.size = es ∧ 0 ≤ n ∧ n < len then some (.fptr cs (n.toNat * es)) else none
   | none => none
  | _, _ => none
 | _, _ => none
def vindex (T : TypeId → Option VTy) (t : TypeId) (x i : VVal) : Option VVal :=
 match T t, i with
 | some y, .int _ n =>
  match y.desc, x with
  | .array len elem, .agg cs =>
   match T elem with
   | some z => if 0 ≤ n ∧ n < len then vpart T elem cs (n.toNat * z.size) else none
   | none => none
  | .string, .str s => if 0 ≤ n then (s[n.toNat]?).map fun b => .int .u8 b.toNat else none
  | _, _ => none
 | _, _ => none
def vlen (T : TypeId → Option VTy) (H : Ze) (t : TypeId) (x : VVal) : Option VVal :=
 match T t with
 | none => none
 | some y =>
  match y.desc, x with
  | .string, .str s => some (.int .i64 s.size)
  | .array n _, _ => some (.int .i64 n)
  | .pointer e, _ => match T e with
   | some z => (match z.desc with | .array n _ => some (.int .i64 n) | _ => none)
   | none => none
  | .slice _, .slice _ n _ _ _ => some (.int .i64 n)
  | .slice _, .fsl _ n _ _ => some (.int .i64 n)
  | .map _ _, .map none => some (.int .i64 0)
  | .map _ _, .map (some r) => (match H[r]? with | some (.map es) => some (.int .i64 es.length) | _ => none)
  | _, _ => none
def ZU (H : Ze) (es n : Nat) : VVal → Option (List VVal)
 | .slice none _ _ _ _ => some []
 | .slice (some (b, off)) _ _ _ _ => match H[b]? with
  | some (.cells cs _) => Zo cs off (n * es)
  | _ => none
 | .str s => some ((s.extract 0 n).data.toList.map fun c => .int .u8 c.toNat)
 | .fsl cs _ _ _ => Zo cs 0 (n * es)
 | _ => none
def YO : VVal → Option Nat
 | .slice _ n _ _ _ => some n
 | .str s => some s.size
 | .fsl _ n _ _ => some n
 | _ => none
def XJ : TypeDesc → Bool
 | .slice _ | .string => true
 | _ => false
def Yq (T : TypeId → Option VTy) (H : Ze) (argTypes : List TypeId) (s x : VVal) : Option (VVal × Ze) :=
 match argTypes with
 | [t, u] =>
  match Y6 T t, s, YO x with
  | some (_, z), .slice a len cap ex es, some k =>
   match ZU H z.size k x, (T u).map (·.desc) with
   | some new, some du =>
    if new.length = k * z.size ∧ new.all VVal.one = true ∧ 0 < z.size ∧ (len + k) * z.bytes ≤ 140737488355328 ∧ (len + k) ≤ 140737488355328 ∧ XJ du = true then
     match a with
     | none =>
      if len ≠ 0 ∨ cap ≠ 0 then none
      else if k = 0 then some (.slice none 0 0 ex z.size, H)
      else if ex = false then none
      else some (.slice (some (H.length, 0)) k k false z.size, H ++ [.cells new true])
     | some (b, off) =>
      if es = z.size then
       match H[b]? with
       | some (.cells cs rw) =>
        if len + k ≤ cap then
         (if k = 0 then some (s, H)
          else if rw = true ∧ off + len * es ≤ cs.length then
           some (.slice a (len + k) cap ex es, H.set b (.cells (Zx cs (off + len * es) new) true))
          else none)
        else match Zo cs off (len * es) with
         | some old =>
          if ex = true then some (.slice (some (H.length, 0)) (len + k) (len + k) false es, H ++ [.cells (old ++ new) true])
          else if rw = true then some (.slice (some (H.length, 0)) (len + k) (len + k) false es, H.set b .dead ++ [.cells (old ++ new) true])
          else none
         | none => none
       | _ => none
      else none
    else none
   | _, _ => none
  | some (_, z), .fsl fs len es ex, some k =>
   match ZU H z.size k x, (T u).map (·.desc) with
   | some new, some du =>
    if new.length = k * z.size ∧ new.all VVal.one = true ∧ 0 < z.size ∧ (len + k) * z.bytes ≤ 140737488355328 ∧ (len + k) ≤ 140737488355328 ∧ XJ du = true ∧ ex = true ∧ 0 < k ∧ es = z.size then
     match Zo fs 0 (len * es) with
     | some old => some (.slice (some (H.length, 0)) (len + k) (len + k) false es, H ++ [.cells (old ++ new) true])
     | none => none
    else none
   | _, _ => none
  | _, _, _ => none
 | _ => none
def vcopy (T : TypeId → Option VTy) (H : Ze) (t : TypeId) (d x : VVal) : Option (VVal × Ze) :=
 match Y6 T t, d, YO x with
 | some (_, z), .slice a dlen _ _ es, some k =>
  let n := Nat.min k dlen
  match ZU H z.size n x with
  | some new =>
   if new.length = n * z.size ∧ new.all VVal.one = true ∧ 0 < z.size then
    match a with
    | none => if n = 0 then some (.int .i64 n, H) else none
    | some p => if es = z.size then (QM H p new).map fun H' => (.int .i64 n, H') else none
   else none
  | none => none
 | _, _, _ => none
def Zbk (T : TypeId → Option VTy) (H : Ze) (t : TypeId) (x : VVal) : Option (VVal × Ze) :=
 match Y6 T t, x with
 | some (_, z), .slice a len _ _ es =>
  if z.size = z.zero.length ∧ 0 < z.size ∧ z.zero.all VVal.one = true then
   match a with
   | none => if len = 0 then some (.tuple [], H) else none
   | some p => if es = z.size then (QM H p (ZH z.zero len)).map fun H' => (.tuple [], H') else none
  else none
 | _, _ => none
def vmin2 : VVal → VVal → Option VVal
 | .int k x, .int _ y => some (.int k (if y < x then y else x))
 | _, _ => none
def vmax2 : VVal → VVal → Option VVal
 | .int k x, .int _ y => some (.int k (if y > x then y else x))
 | _, _ => none
def vfold (f : VVal → VVal → Option VVal) : List VVal → Option VVal
 | [] => none
 | x :: rest => rest.foldlM f x
def ZaS : VVal → Option VVal
 | .ptr (some a) => some (.ptr (some a))
 | .func f a b => some (.func f a b)
 | .yield l => some (.yield l)
 | .iface t v => some (.iface t v)
 | .fptr cs off => some (.fptr cs off)
 | _ => none
def JS (T : TypeId → Option VTy) (t : TypeId) (x : VVal) : Option VVal :=
 match T t with
 | some y => (match y.desc with | .interface _ => none | _ => some (.iface t x))
 | none => none
def vassert (T : TypeId → Option VTy) (x : VVal) (asserted : TypeId) (commaOk : Bool) : Option VVal :=
 match T asserted, x with
 | some y, .iface t v =>
  (match y.desc with
  | .interface _ => none
  | d => if t = asserted then some (if commaOk then .tuple [v, .bool true] else v)
   else if commaOk then (match Zk d, y.zero with
    | true, z => some (.tuple [.agg z, .bool false])
    | false, [z] => some (.tuple [z, .bool false])
    | _, _ => none)
   else none)
 | _, _ => none
def Zb8 (x : VVal) (i : Nat) : Option VVal :=
 match x with
 | .tuple vs => vs[i]?
 | _ => none
def ZR (T : TypeId → Option VTy) (H : Ze) (b : Builtin) (ats : List TypeId) (args : List VVal) : Option (VVal × Ze) :=
 match b, args with
 | .len, [x] => match ats with | [t] => (vlen T H t x).map (·, H) | _ => none
 | .append, [s, x] => Yq T H ats s x
 | .copy, [d, x] => match ats with | [t, _] => vcopy T H t d x | _ => none
 | .clear, [x] => match ats with | [t] => Zbk T H t x | _ => none
 | .min, xs => (vfold vmin2 xs).map (·, H)
 | .max, xs => (vfold vmax2 xs).map (·, H)
 | _, _ => none
def ZaR : VVal → VVal → Option Bool
 | .int k a, .int j b => if k = j then some (a == b) else none
 | .str a, .str b => some (a == b)
 | .bool a, .bool b => some (a == b)
 | _, _ => none
def Zbt (k : VVal) : List (VVal × VVal) → Option (Option VVal)
 | [] => some none
 | (x, v) :: es => match ZaR k x with
  | some true => some (some v)
  | some false => Zbt k es
  | none => none
def ZaO (k v : VVal) : List (VVal × VVal) → List (VVal × VVal)
 | [] => [(k, v)]
 | (x, u) :: es => if ZaR k x = some true then (k, v) :: es else (x, u) :: ZaO k v es
def ZcJ (T : TypeId → Option VTy) (t : TypeId) (k : VVal) : Bool :=
 match T t, k with
 | some y, .int j _ => (match y.desc with | .int i => i == j | _ => false)
 | some y, .str _ => (match y.desc with | .string => true | _ => false)
 | _, _ => false
def XK (T : TypeId → Option VTy) (H : Ze) (t : TypeId) (x k : VVal) (commaOk : Bool) : Option VVal :=
 match T t with
 | some y => match y.desc with
  | .map kt et =>
   match T et with
   | some z =>
    let zero := if Zk z.desc then VVal.agg z.zero else z.zero.headD .undef
    let ans (r : Option VVal) : VVal := match r with
     | some v => if commaOk then .tuple [v, .bool true] else v
     | none => if commaOk then .tuple [zero, .bool false] else zero
    if ZcJ T kt k = true ∧ (Zk z.desc = true ∨ z.zero.length = 1) then
     match x with
     | .map none => some (ans none)
     | .map (some r) => match H[r]? with
      | some (.map es) => (Zbt k es).map ans
      | _ => none
     | _ => none
    else none
   | none => none
  | _ => none
 | none => none
def Xl (T : TypeId → Option VTy) (H : Ze) (t : TypeId) (x k v : VVal) : Option Ze :=
 match T t with
 | some y => match y.desc, x with
  | .map kt _, .map (some r) =>
   if ZcJ T kt k = true then
    match H[r]? with
    | some (.map es) => match Zbt k es with
     | some _ => some (H.set r (.map (ZaO k v es)))
     | none => none
    | _ => none
   else none
  | _, _ => none
 | none => none
def vop (T : TypeId → Option VTy) (ρ : Operand → VVal) (H : Ze) : Op → Option (VVal × Ze)
 | .move x | .assign x => some (ρ x, H)
 | .pick c a b => match ρ c with
  | .bool t => some (if t then ρ a else ρ b, H)
  | _ => none
 | .alloc t => (T t).map fun y => vnew H y.zero
 | .box _ x => (ρ x).cells.map fun cs => vnew H cs
 | .build t parts => (vbuild T t (parts.toList.map fun p => (p.1, ρ p.2))).map (·, H)
 | .buildSlice t n parts => Xo T H t n (parts.toList.map fun p => (p.1, ρ p.2))
 | .load t a => (Y4 T H t (ρ a)).map (·, H)
 | .store t a x => (Zbj T H t (ρ a) (ρ x)).map (.skip, ·)
 | .nilCheck x => (ZaS (ρ x)).map (·, H)
 | .binOp op t x y _ => (Zar T op t (ρ x) (ρ y)).map (·, H)
 | .unOp op _ x => (vun op (ρ x)).map (·, H)
 | .convert s d x => Yw T H s d (ρ x)
 | .makeFunc (.func f) first cap => some (.func f (first.toList.map ρ) (cap.toList.map ρ), H)
 | .makeSlice t l c => XS T H t (ρ l) (ρ c)
 | .slice t x lo hi mx => (Jw T t (ρ x) (lo.map ρ) (hi.map ρ) (mx.map ρ)).map (·, H)
 | .fieldAddr s x f => (JT T s (ρ x) f).map (·, H)
 | .field t x f => (vfield T t (ρ x) f).map (·, H)
 | .indexAddr t x i => (Y9 T t (ρ x) (ρ i)).map (·, H)
 | .index t x i => (vindex T t (ρ x) (ρ i)).map (·, H)
 | .extract t i => (Zb8 (ρ t) i).map (·, H)
 | .makeMap _ none => some (.map (some H.length), H ++ [.map []])
 | .lookup t x k ok => (XK T H t (ρ x) (ρ k) ok).map (·, H)
 | .mapUpdate t m k x | .insert t m k x => (Xl T H t (ρ m) (ρ k) (ρ x)).map (.skip, ·)
 | .makeInterface t x => (JS T t (ρ x)).map (·, H)
 | .typeAssert x _ t ok => (vassert T (ρ x) t ok).map (·, H)
 | .call { callee := .builtin b, args, argTypes } => ZR T H b argTypes.toList (args.toList.map ρ)
 | _ => none
inductive Cls where
 | calm | look | grow | turn
 deriving DecidableEq
def Qf (T : TypeId → Option VTy) (t : TypeId) : Bool :=
 match T t with
 | some y => (match y.desc with | .int _ => true | _ => false)
 | none => false
def Qe (T : TypeId → Option VTy) (t : TypeId) : Bool :=
 match T t with
 | some y => (match y.desc with | .string => true | _ => false)
 | none => false
theorem QC {T : TypeId → Option VTy} {H H' : Ze} {src dst : TypeId} {x v : VVal} (h : Yw T H src dst x = some (v, H')) : Qf T dst = true ∧ Qe T dst = false := by
 unfold Yw at h
 split at h
 ·rename_i s d hs hd
  split at h
  ·rename_i hk
   unfold Qf Qe
   rw [hd]
   simp only [hk]
   exact ⟨trivial, trivial⟩
  cases h
 cases h
def Yh (T : TypeId → Option VTy) : Op → Cls
 | .move _ | .assign _ | .pick .. | .build .. | .nilCheck _ | .binOp .. | .unOp .. | .makeFunc .. | .slice .. | .fieldAddr .. | .field .. | .indexAddr .. | .index .. | .extract .. | .makeInterface .. | .typeAssert .. => .calm
 | .convert _ dst _ => if Qf T dst then .calm else if Qe T dst then .look else .turn
 | .call { callee := .builtin .min, .. } | .call { callee := .builtin .max, .. } => .calm
 | .call { callee := .builtin .len, .. } => .look
 | .load .. | .lookup .. => .look
 | .alloc _ | .box .. | .buildSlice .. | .makeSlice .. | .makeMap _ none => .grow
 | _ => .turn
inductive Item' where
 | calm
 | look (f : Ze → Option (VVal × Ze)) (v : VVal)
 | grow (id : Nat)
 | turn (H H' : Ze)
def Z7 (ops : Array Oper) (env : VEnv) (g : Option (Nat × Bool)) : Option Bool :=
 match g with
 | none => some true
 | some (j, want) =>
  match (ops[j]?).bind (·.dst) with
  | none => some false
  | some d => match env.getD d .skip with
   | .bool b => some (b == want)
   | .undef => none
   | _ => some false
def X0 (T : TypeId → Option VTy) (o : Op) (ρ : Operand → VVal) (v : VVal) (H H' : Ze) : Item' :=
 match Yh T o with
 | .calm => .calm
 | .look => .look (fun G => vop T ρ G o) v
 | .grow => .grow H.length
 | .turn => .turn H H'
def fine : Item' → Item' → Prop
 | .look f v, .turn H H' => f H = some (v, H) ∧ f H' = some (v, H')
 | .turn H H', .look f v => f H = some (v, H) ∧ f H' = some (v, H')
 | .turn _ _, .turn _ _ => False
 | .turn _ _, .grow _ => False
 | .grow id, .turn H H' => H'[id]? = H[id]?
 | _, _ => True
def JF (bef : Array Nat) : List (Nat × Item') → Prop
 | [] => True
 | x :: rest => (∀ y, y ∈ rest → (bef.getD y.1 0).testBit x.1 = false → fine x.2 y.2) ∧ JF bef rest
def canonGo (T : TypeId → Option VTy) (ops : Array Oper) (bef : Array Nat) : Nat → Nat → List Nat → List Nat
 | 0, _, acc => acc.reverse
 | n + 1, done, acc =>
  let ready (i : Nat) : Bool := !done.testBit i && (bef.getD i 0 &&& done) == bef.getD i 0
  let soft (i : Nat) : Bool := match ops[i]? with | some o => Yh T o.op != .turn | none => true
  match (List.range ops.size).find? (fun i => ready i && soft i) with
  | some i => canonGo T ops bef n (done ||| 2 ^ i) (i :: acc)
  | none => match (List.range ops.size).find? ready with
   | some i => canonGo T ops bef n (done ||| 2 ^ i) (i :: acc)
   | none => acc.reverse
def canon (T : TypeId → Option VTy) (ops : Array Oper) : List Nat := canonGo T ops (Region.before ops) ops.size 0 []
def YM (ops : Array Oper) (o : Oper) : List Nat :=
 o.dst.toList ++ (o.op.operands.toList.filterMap fun x => match x with | .tmp t => some t | _ => none) ++
 (match o.guard with | some (g, _) => ((ops[g]?).bind (·.dst)).toList | none => [])
def tmpsOk (ops : Array Oper) (bef : Array Nat) : Bool :=
 (List.range ops.size).all fun j => (List.range ops.size).all fun i => i == j ||
  match (ops[i]?).bind (·.dst), ops[j]? with
  | some t, some o => !(YM ops o).contains t || (bef.getD (max i j) 0).testBit (min i j)
  | _, _ => true
def ZaG (bef : Array Nat) : List Nat → Bool
 | [] => true
 | x :: rest => rest.all (fun y => !(bef.getD x 0).testBit y) && !(bef.getD x 0).testBit x && !rest.contains x && ZaG bef rest
def ZcK (ops : Array Oper) (bef : Array Nat) : Bool :=
 (List.range ops.size).all fun j => match ops[j]? with
  | some o => bef.getD j 0 == o.after.toList.foldl (fun s e => if Region.binds .any e then s ||| 2 ^ e.on ||| bef.getD e.on 0 else s) 0 && o.after.toList.all (fun e => !Region.binds .any e || decide (e.on < ops.size))
  | none => true
def drawOk (T : TypeId → Option VTy) (ops : Array Oper) : Bool :=
 ZcK ops (Region.before ops) && tmpsOk ops (Region.before ops) && ZaG (Region.before ops) (canon T ops) && (List.range ops.size).all (fun i => (canon T ops).contains i)
def ZZ (meth : TypeId → String → Option FuncId) (ρ : Operand → VVal) : Op → Option (VVal × List VVal)
 | .call { callee := .value f, args, .. } => some (ρ f, args.toList.map ρ)
 | .call { callee := .invoke x name, args, .. } =>
  match ρ x with
  | .iface t v => match meth t name with
   | some f => some (.func f [] [], v :: args.toList.map ρ)
   | none => some (.undef, [])
  | _ => some (.undef, [])
 | _ => none
abbrev YR := VVal → List VVal → Ze → Option (VVal × Ze)
def YL (T : TypeId → Option VTy) (meth : TypeId → String → Option FuncId) (call : YR) (ops : Array Oper) (o : Oper) (env : VEnv) (H : Ze) : Option (VVal × Ze × Item') :=
 match Z7 ops env o.guard with
 | none => none
 | some false => some (.skip, H, .calm)
 | some true =>
  match ZZ meth env.eval o.op with
  | some (f, args) => match call f args H with
   | some (v, H') => some (v, H', .turn H H')
   | none => none
  | none => match vop T env.eval H o.op with
   | some (v, H') => some (v, H', X0 T o.op env.eval v H H')
   | none => none
def Xe (T : TypeId → Option VTy) (meth : TypeId → String → Option FuncId) (call : Nat → YR) (ops : Array Oper) : List Nat → VEnv → Ze → List (Nat × Item') → Option (VEnv × Ze × List (Nat × Item'))
 | [], env, H, tr => some (env, H, tr)
 | i :: rest, env, H, tr =>
  match ops[i]? with
  | none => none
  | some o =>
   match YL T meth (call i) ops o env H with
   | some (v, H', it) => Xe T meth call ops rest (env.put o.dst v) H' (tr ++ [(i, it)])
   | none => none
def VEnv.clear (ts : List Nat) (env : VEnv) : VEnv := ts.foldl (fun e t => e.set t .undef) env
def YI (env : VEnv) (ps : List Nat) (vs : List VVal) : VEnv := (ps.zip vs).foldl (fun e p => e.set p.1 p.2) env
def Y0 (T : TypeId → Option VTy) (env : VEnv) (H : Ze) : ResultVar → Option VVal
 | .tmp t => some (env.getD t .skip)
 | .cell a t => Y4 T H t (env.getD a .skip)
def ZX (T : TypeId → Option VTy) (env : VEnv) (H : Ze) (rs : Array ResultVar) : Option VVal :=
 match rs.toList with
 | [r] => Y0 T env H r
 | rs => (rs.mapM (Y0 T env H)).map .tuple
def Zaf : Exit → Option (Option Code)
 | .normal => some none
 | .ret => some (some .ret)
 | .exit id => some (some (.exit id))
 | _ => none
open Go Go.RowKit
structure Ent where
 r : Nat
 sh : Nat
 lim : Option Nat
structure Inj where
 m : Nat → Option Ent
 z : Nat → Option (Array Value)
 df : List Nat
instance : CoeFun Inj (fun _ => Nat → Option Ent) := ⟨Inj.m⟩
abbrev Inj.zero : Inj := ⟨fun _ => none, fun _ => none, []⟩
mutual
def Rel (ι : Inj) : VVal → Value → Prop
 | .undef, _ => True
 | .bool b, v => v = .bool b
 | .int k n, v => v = .int k n
 | .str s, v => v = .string s
 | .ptr none, v => v = .pointer none
 | .ptr (some (b, off)), v => ∃ e, ι b = some e ∧ v = .pointer (some ⟨e.r, e.sh + off, none⟩)
 | .slice none len cap ex _, v => len = 0 ∧ cap = 0 ∧ (if ex = true then v = .slice none 0 0 else ∃ a c, v = .slice (some a) 0 c)
 | .slice (some (b, off)) len cap ex es, v => ∃ e c, ι b = some e ∧ cap ≤ c ∧ (ex = true → c = cap) ∧ (∀ L, e.lim = some L → off + c * es ≤ L) ∧ v = .slice (some ⟨e.r, e.sh + off, none⟩) len c
 | .fsl cs len es ex, v => ∃ a c xs, v = .slice a len c ∧ len ≤ c ∧ (ex = true → c = len) ∧ (a = none → c = 0) ∧ RelL ι cs xs ∧ (len = 0 ∨ ∃ r off arr, a = some ⟨r, off, none⟩ ∧ ι.z r = some arr ∧ ∀ (i : Nat) x, xs[i]? = some x → arr[off + i]? = some x)
 | .fptr cs off, v => ∃ r sh arr xs, v = .pointer (some ⟨r, sh + off, none⟩) ∧ ι.z r = some arr ∧ RelL ι cs xs ∧ ∀ (i : Nat) x, xs[i]? = some x → arr[sh + i]? = some x
 | .map none, v => v = .map none
 | .map (some r), v => ∃ e, ι r = some e ∧ v = .map (some e.r)
 | .func f a c, v => ∃ a' c', v = .func (.func f) a' c' ∧ RelL ι a a'.toList ∧ RelL ι c c'.toList
 | .yield l, v => ∃ e, ι l = some e ∧ v = .func (.yield e.r) #[] #[]
 | .nilFunc, v => v = .nilFunc
 | .iface t x, v => ∃ y, v = .iface t y ∧ Rel ι x y
 | .nilIface, v => v = .nilIface
 | .agg cs, v => ∃ cs', v = .agg cs' ∧ RelL ι cs cs'.toList
 | .tuple cs, v => ∃ cs', v = .tuple cs' ∧ RelL ι cs cs'.toList
def RelL (ι : Inj) : List VVal → List Value → Prop
 | [], l => l = []
 | x :: xs, l => ∃ y ys, l = y :: ys ∧ Rel ι x y ∧ RelL ι xs ys
end
def MRel (ι : Inj) : List (VVal × VVal) → List MapEntry → Prop
 | [], l => l = []
 | x :: xs, l => ∃ y ys, l = y :: ys ∧ Rel ι x.1 y.key ∧ Rel ι x.2 y.val ∧ MRel ι xs ys
def Inj.le (ι ι' : Inj) : Prop := (∀ b e, ι b = some e → ι' b = some e) ∧ (∀ r a, ι.z r = some a → ι'.z r = some a)
theorem Inj.le_refl (ι : Inj) : ι.le ι := ⟨fun _ _ h => h, fun _ _ h => h⟩
theorem Inj.le_trans {a b c : Inj} (h : a.le b) (k : b.le c) : a.le c := ⟨fun _ _ x => k.1 _ _ (h.1 _ _ x), fun _ _ x => k.2 _ _ (h.2 _ _ x)⟩
def Inj.cut (ι : Inj) (n : Nat) : Inj := ⟨fun b => if b < n then ι b else none, ι.z, ι.df⟩
def Inj.ext (ι : Inj) (n : Nat) (e : Ent) : Inj := ⟨fun b => if b = n then some e else ι b, ι.z, ι.df⟩
theorem Inj.cut_m (ι : Inj) (n b : Nat) : (ι.cut n) b = if b < n then ι b else none := rfl
theorem Inj.ext_m (ι : Inj) (n : Nat) (e : Ent) (b : Nat) : (ι.ext n e) b = if b = n then some e else ι b := rfl
theorem Inj.ext_z (ι : Inj) (n : Nat) (e : Ent) : (ι.ext n e).z = ι.z := rfl
mutual
theorem Rel.mono {ι ι' : Inj} (h : ι.le ι') : ∀ (v : VVal) (x : Value), Rel ι v x → Rel ι' v x
 | .undef, _, _ => trivial
 | .bool _, _, r => r
 | .int _ _, _, r => r
 | .str _, _, r => r
 | .ptr none, _, r => r
 | .ptr (some (_, _)), _, r => by
  simp only [Rel] at r ⊢
  obtain ⟨e, a, b⟩ := r; exact ⟨e, h.1 _ _ a, b⟩
 | .slice none _ _ _ _, _, r => r
 | .slice (some (_, _)) _ _ _ _, _, r => by
  simp only [Rel] at r ⊢
  obtain ⟨e, c, a, b⟩ := r; exact ⟨e, c, h.1 _ _ a, b⟩
 | .fsl cs len es ex, _, r => by
  simp only [Rel] at r ⊢
  obtain ⟨a, c, xs, e, p, q, t, h3, u⟩ := r
  refine ⟨a, c, xs, e, p, q, t, RelL.mono h cs xs h3, u.imp id ?_⟩
  rintro ⟨r, off, arr, h1, h2, h4⟩
  exact ⟨r, off, arr, h1, h.2 _ _ h2, h4⟩
 | .fptr cs off, _, r => by
  simp only [Rel] at r ⊢
  obtain ⟨r, sh, arr, xs, h1, h2, h3, h4⟩ := r
  exact ⟨r, sh, arr, xs, h1, h.2 _ _ h2, RelL.mono h cs xs h3, h4⟩
 | .map none, _, r => r
 | .map (some _), _, r => by
  simp only [Rel] at r ⊢
  obtain ⟨e, a, b⟩ := r; exact ⟨e, h.1 _ _ a, b⟩
 | .func _ a c, _, r => by
  simp only [Rel] at r ⊢
  obtain ⟨a', c', e, p, q⟩ := r
  exact ⟨a', c', e, RelL.mono h _ _ p, RelL.mono h _ _ q⟩
 | .yield _, _, r => by
  simp only [Rel] at r ⊢
  obtain ⟨e, a, b⟩ := r; exact ⟨e, h.1 _ _ a, b⟩
 | .nilFunc, _, r => r
 | .iface _ x, _, r => by
  simp only [Rel] at r ⊢
  obtain ⟨y, e, p⟩ := r; exact ⟨y, e, Rel.mono h x y p⟩
 | .nilIface, _, r => r
 | .agg cs, _, r => by
  simp only [Rel] at r ⊢
  obtain ⟨y, e, p⟩ := r; exact ⟨y, e, RelL.mono h cs _ p⟩
 | .tuple cs, _, r => by
  simp only [Rel] at r ⊢
  obtain ⟨y, e, p⟩ := r; exact ⟨y, e, RelL.mono h cs _ p⟩
theorem RelL.mono {ι ι' : Inj} (h : ι.le ι') : ∀ (vs : List VVal) (xs : List Value), RelL ι vs xs → RelL ι' vs xs
 | [], _, r => r
 | v :: vs, _, r => by
  simp only [RelL] at r ⊢
  obtain ⟨y, ys, e, p, q⟩ := r
  exact ⟨y, ys, e, Rel.mono h v y p, RelL.mono h vs ys q⟩
end
theorem cut_lt {ι : Inj} {n b : Nat} {e : Ent} (h : ι b = some e) (hb : b < n) : (ι.cut n) b = some e := by
 rw [Inj.cut_m, if_pos hb]; exact h
mutual
theorem Rel.cut {ι : Inj} (n : Nat) : ∀ (v : VVal) (x : Value), v.under n = true → Rel ι v x → Rel (ι.cut n) v x
 | .undef, _, _, _ => trivial
 | .bool _, _, _, r => r
 | .int _ _, _, _, r => r
 | .str _, _, _, r => r
 | .ptr none, _, _, r => r
 | .ptr (some (_, _)), _, u, r => by
  simp only [Rel, VVal.under, decide_eq_true_eq] at r u ⊢
  obtain ⟨e, a, b⟩ := r; exact ⟨e, cut_lt a u, b⟩
 | .slice none _ _ _ _, _, _, r => r
 | .slice (some (_, _)) _ _ _ _, _, u, r => by
  simp only [Rel, VVal.under, decide_eq_true_eq] at r u ⊢
  obtain ⟨e, c, a, b⟩ := r; exact ⟨e, c, cut_lt a u, b⟩
 | .fsl cs len es ex, _, u, r => by
  simp only [Rel, VVal.under] at r u ⊢
  obtain ⟨a, c, xs, e, p, q, t, h3, v⟩ := r
  exact ⟨a, c, xs, e, p, q, t, RelL.cut n cs xs u h3, v⟩
 | .fptr cs off, _, u, r => by
  simp only [Rel, VVal.under] at r u ⊢
  obtain ⟨r, sh, arr, xs, h1, h2, h3, h4⟩ := r
  exact ⟨r, sh, arr, xs, h1, h2, RelL.cut n cs xs u h3, h4⟩
 | .map none, _, _, r => r
 | .map (some _), _, u, r => by
  simp only [Rel, VVal.under, decide_eq_true_eq] at r u ⊢
  obtain ⟨e, a, b⟩ := r; exact ⟨e, cut_lt a u, b⟩
 | .func _ a c, _, u, r => by
  simp only [Rel, VVal.under, Bool.and_eq_true] at r u ⊢
  obtain ⟨a', c', e, p, q⟩ := r
  exact ⟨a', c', e, RelL.cut n _ _ u.1 p, RelL.cut n _ _ u.2 q⟩
 | .yield _, _, u, r => by
  simp only [Rel, VVal.under, decide_eq_true_eq] at r u ⊢
  obtain ⟨e, a, b⟩ := r; exact ⟨e, cut_lt a u, b⟩
 | .nilFunc, _, _, r => r
 | .iface _ x, _, u, r => by
  simp only [Rel, VVal.under] at r u ⊢
  obtain ⟨y, e, p⟩ := r; exact ⟨y, e, Rel.cut n x y u p⟩
 | .nilIface, _, _, r => r
 | .agg cs, _, u, r => by
  simp only [Rel, VVal.under] at r u ⊢
  obtain ⟨y, e, p⟩ := r; exact ⟨y, e, RelL.cut n cs _ u p⟩
 | .tuple cs, _, u, r => by
  simp only [Rel, VVal.under] at r u ⊢
  obtain ⟨y, e, p⟩ := r; exact ⟨y, e, RelL.cut n cs _ u p⟩
theorem RelL.cut {ι : Inj} (n : Nat) : ∀ (vs : List VVal) (xs : List Value), VVal.underL n vs = true → RelL ι vs xs → RelL (ι.cut n) vs xs
 | [], _, _, r => r
 | v :: vs, _, u, r => by
  simp only [RelL, VVal.underL, Bool.and_eq_true] at r u ⊢
  obtain ⟨y, ys, e, p, q⟩ := r
  exact ⟨y, ys, e, Rel.cut n v y u.1 p, RelL.cut n vs ys u.2 q⟩
end
theorem MRel.mono {ι ι' : Inj} (h : ι.le ι') : ∀ (vs : List (VVal × VVal)) (xs : List MapEntry), MRel ι vs xs → MRel ι' vs xs
 | [], _, r => r
 | v :: vs, _, r => by
  simp only [MRel] at r ⊢
  obtain ⟨y, ys, e, p, q, s⟩ := r
  exact ⟨y, ys, e, Rel.mono h _ y.key p, Rel.mono h _ y.val q, MRel.mono h vs ys s⟩
theorem MRel.cut {ι : Inj} (n : Nat) : ∀ (vs : List (VVal × VVal)) (xs : List MapEntry), (vs.all fun e => e.1.under n && e.2.under n) = true → MRel ι vs xs → MRel (ι.cut n) vs xs
 | [], _, _, r => r
 | v :: vs, _, u, r => by
  simp only [MRel, List.all_cons, Bool.and_eq_true] at r u ⊢
  obtain ⟨y, ys, e, p, q, s⟩ := r
  exact ⟨y, ys, e, Rel.cut n _ y.key u.1.1 p, Rel.cut n _ y.val u.1.2 q, MRel.cut n vs ys u.2 s⟩
theorem RelL.length {ι : Inj} : ∀ {vs : List VVal} {xs : List Value}, RelL ι vs xs → vs.length = xs.length
 | [], _, r => by simp only [RelL] at r; simp [r]
 | v :: vs, _, r => by
  simp only [RelL] at r
  obtain ⟨y, ys, rfl, _, q⟩ := r
  simp [RelL.length q]
theorem RelL.get {ι : Inj} : ∀ {vs : List VVal} {xs : List Value} (i : Nat) (v : VVal), RelL ι vs xs → vs[i]? = some v → ∃ x, xs[i]? = some x ∧ Rel ι v x
 | [], _, i, v, _, h => by simp at h
 | u :: vs, _, i, v, r, h => by
  simp only [RelL] at r
  obtain ⟨y, ys, rfl, p, q⟩ := r
  cases i with
  | zero => simp at h; subst h; exact ⟨y, by simp, p⟩
  | succ i => simp at h; obtain ⟨x, a, b⟩ := RelL.get i v q h; exact ⟨x, by simpa using a, b⟩
theorem RelL.nil {ι : Inj} : RelL ι [] [] := by simp [RelL]
theorem RelL.cons {ι : Inj} {v : VVal} {x : Value} {vs : List VVal} {xs : List Value} (h : Rel ι v x) (k : RelL ι vs xs) : RelL ι (v :: vs) (x :: xs) := by
 simp only [RelL]; exact ⟨x, xs, rfl, h, k⟩
theorem RelL.one {ι : Inj} {v : VVal} {x : Value} (h : Rel ι v x) : RelL ι [v] [x] := .cons h .nil
theorem RelL.append {ι : Inj} : ∀ {vs : List VVal} {xs : List Value} {us : List VVal} {ys : List Value}, RelL ι vs xs → RelL ι us ys → RelL ι (vs ++ us) (xs ++ ys)
 | [], _, us, ys, r, k => by simp only [RelL] at r; subst r; simpa using k
 | v :: vs, _, us, ys, r, k => by
  simp only [RelL] at r
  obtain ⟨y, zs, rfl, p, q⟩ := r
  exact .cons p (RelL.append q k)
theorem RelL.take {ι : Inj} : ∀ {vs : List VVal} {xs : List Value} (n : Nat), RelL ι vs xs → RelL ι (vs.take n) (xs.take n)
 | [], _, n, r => by simp only [RelL] at r; subst r; simp [RelL]
 | v :: vs, _, n, r => by
  simp only [RelL] at r
  obtain ⟨y, zs, rfl, p, q⟩ := r
  cases n with
  | zero => simp [RelL]
  | succ n => exact .cons p (RelL.take n q)
theorem RelL.drop {ι : Inj} : ∀ {vs : List VVal} {xs : List Value} (n : Nat), RelL ι vs xs → RelL ι (vs.drop n) (xs.drop n)
 | [], _, n, r => by simp only [RelL] at r; subst r; simp [RelL]
 | v :: vs, _, n, r => by
  simp only [RelL] at r
  obtain ⟨y, zs, rfl, p, q⟩ := r
  cases n with
  | zero => exact .cons p q
  | succ n => exact RelL.drop n q
theorem RelL.set {ι : Inj} : ∀ {vs : List VVal} {xs : List Value} (i : Nat) {v : VVal} {x : Value}, RelL ι vs xs → Rel ι v x → RelL ι (vs.set i v) (xs.set i x)
 | [], _, i, v, x, r, _ => by simp only [RelL] at r; subst r; simp [RelL]
 | u :: vs, _, i, v, x, r, k => by
  simp only [RelL] at r
  obtain ⟨y, zs, rfl, p, q⟩ := r
  cases i with
  | zero => exact .cons k q
  | succ n => exact .cons p (RelL.set n q k)
theorem RelL.replicate {ι : Inj} {v : VVal} {x : Value} (h : Rel ι v x) : ∀ n, RelL ι (List.replicate n v) (List.replicate n x)
 | 0 => .nil
 | n + 1 => .cons h (RelL.replicate h n)
theorem RelL.of_get {ι : Inj} : ∀ {vs : List VVal} {xs : List Value}, vs.length = xs.length → (∀ (i : Nat) (v : VVal) (x : Value), vs[i]? = some v → xs[i]? = some x → Rel ι v x) → RelL ι vs xs
 | [], [], _, _ => .nil
 | [], _ :: _, h, _ => by simp at h
 | _ :: _, [], h, _ => by simp at h
 | v :: vs, x :: xs, h, k => .cons (k 0 v x (by simp) (by simp)) (RelL.of_get (by simpa using h) fun i v x a b => k (i + 1) v x (by simpa using a) (by simpa using b))
theorem RelL.map {ι : Inj} {α : Type} (f : α → VVal) (g : α → Value) : ∀ (l : List α), (∀ x, x ∈ l → Rel ι (f x) (g x)) → RelL ι (l.map f) (l.map g)
 | [], _ => .nil
 | a :: l, h => .cons (h a (by simp)) (RelL.map f g l fun x hx => h x (by simp [hx]))
theorem RelL.getD {ι : Inj} {vs : List VVal} {xs : List Value} (h : RelL ι vs xs) (i : Nat) {d : VVal} {d' : Value} (hd : Rel ι d d') : Rel ι (vs.getD i d) (xs.getD i d') := by
 rw [List.getD_eq_getElem?_getD, List.getD_eq_getElem?_getD]
 cases hv : vs[i]? with
 | some v => obtain ⟨x, a, b⟩ := h.get i v hv; rw [a]; exact b
 | none =>
  have : xs[i]? = none := by rw [List.getElem?_eq_none_iff] at hv ⊢; rw [← h.length]; exact hv
  rw [this]; exact hd
theorem Rel.ofFlat (ι : Inj) (v : Value) : Rel ι (VVal.ofFlat v) v := by
 unfold VVal.ofFlat
 split <;> simp [Rel]
theorem Rel.ofConst (ι : Inj) (v : Value) : Rel ι (VVal.ofConst v) v := by
 unfold VVal.ofConst
 split
 ·rename_i cs
  simp only [Rel]
  refine ⟨cs, rfl, ?_⟩
  have := RelL.map (ι := ι) VVal.ofFlat id cs.toList (fun x _ => Rel.ofFlat ι x)
  simpa using this
 exact Rel.ofFlat ι _
theorem Rel.skip (ι : Inj) : Rel ι .skip undef := by
 simp only [Rel]; exact ⟨#[], rfl, .nil⟩
theorem Rel.undef (ι : Inj) (v : Value) : Rel ι .undef v := by simp [Rel]
def VBlk.owns : VBlk → Bool
 | .cells _ rw => rw
 | .dead => false
 | _ => true
def BRel (w0 : World) (ι : Inj) (w : World) (e : Ent) : VBlk → Prop
 | .dead => True
 | .cells cs rw => ∃ arr t fr cs', w.heap[e.r]? = some (.cells arr t fr) ∧ RelL ι cs cs' ∧ (∀ i v, cs'[i]? = some v → arr[e.sh + i]? = some v) ∧
  (if rw = true then w0.heap.size ≤ e.r ∧ e.lim = some (arr.size - e.sh) ∧ e.sh ≤ arr.size ∧ (fr.1 = fr.2 ∨ arr.size ≤ fr.1) else e.r < w0.heap.size ∧ e.lim = none)
 | .map es => ∃ entries clock, w.heap[e.r]? = some (.map entries clock) ∧ w0.heap.size ≤ e.r ∧ MRel ι es entries.toList
 | .loop st p _ tmps ps as body => ∃ l, w.heap[e.r]? = some (.loop l) ∧ w0.heap.size ≤ e.r ∧ l.state = st ∧ l.pending = p ∧ RelL ι tmps l.tmps.toList ∧ l.params.toList = ps ∧ l.assign = as ∧ l.body = body
structure Frz (w0 : World) (ι : Inj) (w : World) : Prop where
 fz : ∀ r arr, ι.z r = some arr → ∃ t fr, w.heap[r]? = some (.cells arr t fr) ∧ (w0.heap.size ≤ r → fr.1 = fr.2 ∨ arr.size ≤ fr.1)
 dn : ι.df.Nodup
 dd : ∀ r, r ∈ ι.df → w.heap[r]? = some (.deferred (some [])) ∧ w0.heap.size ≤ r
structure Sim (w0 : World) (ι : Inj) (H : Ze) (w : World) : Prop where
 below : Below w0.heap.size w0 w
 frz : Frz w0 ι w
 fo : ∀ r arr b e k, ι.z r = some arr → ι b = some e → H[b]? = some k → k.owns = true → e.r ≠ r
 dom : ∀ b e, ι b = some e → b < H.length
 blk : ∀ b e k, ι b = some e → H[b]? = some k → BRel w0 ι w e k
 inj : ∀ b b' e e' k k', ι b = some e → ι b' = some e' → H[b]? = some k → H[b']? = some k' → k.owns = true → k'.owns = true → e.r = e'.r → b = b'
theorem BRel.mono {w0 w : World} {ι ι' : Inj} {e : Ent} {k : VBlk} (h : ι.le ι') (r : BRel w0 ι w e k) : BRel w0 ι' w e k := by
 cases k with
 | dead => trivial
 | cells cs rw =>
  obtain ⟨arr, t, fr, cs', a, b, c⟩ := r
  exact ⟨arr, t, fr, cs', a, RelL.mono h _ _ b, c⟩
 | map es =>
  obtain ⟨en, cl, a, b, c⟩ := r
  exact ⟨en, cl, a, b, MRel.mono h _ _ c⟩
 | loop st p fn tmps ps as body =>
  obtain ⟨l, a, b, c, d, e, f, g, i⟩ := r
  exact ⟨l, a, b, c, d, RelL.mono h _ _ e, f, g, i⟩
theorem BRel.frame {w0 w w' : World} {ι : Inj} {e : Ent} {k : VBlk} (hw : w'.heap[e.r]? = w.heap[e.r]?) (r : BRel w0 ι w e k) : BRel w0 ι w' e k := by
 cases k with
 | dead => trivial
 | cells cs rw =>
  obtain ⟨arr, t, fr, cs', a, b, c⟩ := r
  exact ⟨arr, t, fr, cs', hw.trans a, b, c⟩
 | map es =>
  obtain ⟨en, cl, a, b, c⟩ := r
  exact ⟨en, cl, hw.trans a, b, c⟩
 | loop st p fn tmps ps as body =>
  obtain ⟨l, a, b⟩ := r
  exact ⟨l, hw.trans a, b⟩
theorem BRel.lt {w0 w : World} {ι : Inj} {e : Ent} {k : VBlk} (r : BRel w0 ι w e k) (hk : k ≠ .dead) : e.r < w.heap.size := by
 have lt {i : Nat} {o : Obj} (h : w.heap[i]? = some o) : i < w.heap.size := (Array.getElem?_eq_some_iff.1 h).1
 cases k with
 | dead => exact absurd rfl hk
 | cells cs rw => obtain ⟨arr, t, fr, cs', a, _⟩ := r; exact lt a
 | map es => obtain ⟨en, cl, a, _⟩ := r; exact lt a
 | loop st p fn tmps ps as body => obtain ⟨l, a, _⟩ := r; exact lt a
theorem BRel.ndef {w0 w : World} {ι : Inj} {e : Ent} {k : VBlk} (r : BRel w0 ι w e k) (hk : k.owns = true) {o : Option (List Deferred)} : w.heap[e.r]? ≠ some (.deferred o) := by
 cases k with
 | dead => simp [VBlk.owns] at hk
 | cells cs rw => obtain ⟨arr, t, fr, cs', a, _⟩ := r; rw [a]; simp
 | map es => obtain ⟨en, cl, a, _⟩ := r; rw [a]; simp
 | loop st p fn tmps ps as body => obtain ⟨l, a, _⟩ := r; rw [a]; simp
theorem Frz.keep {w0 w w' : World} {ι ι' : Inj} (s : Frz w0 ι w) (hz : ι'.z = ι.z) (hd : ι'.df = ι.df) (hold : ∀ i, (∃ arr, ι.z i = some arr) ∨ i ∈ ι.df → w'.heap[i]? = w.heap[i]?) : Frz w0 ι' w' := by
 refine ⟨fun r arr h => ?_, by rw [hd]; exact s.dn, fun r h => ?_⟩
 ·rw [hz] at h
  rw [hold r (.inl ⟨arr, h⟩)]; exact s.fz r arr h
 rw [hd] at h
 rw [hold r (.inr h)]; exact s.dd r h
theorem Frz.lt {w0 w : World} {ι : Inj} (s : Frz w0 ι w) {i : Nat} (h : (∃ arr, ι.z i = some arr) ∨ i ∈ ι.df) : i < w.heap.size := by
 rcases h with ⟨arr, h⟩ | h
 ·obtain ⟨t, fr, h, _⟩ := s.fz i arr h; exact (Array.getElem?_eq_some_iff.1 h).1
 exact (Array.getElem?_eq_some_iff.1 (s.dd i h).1).1
theorem Frz.new {w0 w w' : World} {ι ι' : Inj} (s : Frz w0 ι w) (hz : ι'.z = ι.z) (hd : ι'.df = ι.df) (hold : ∀ i, i < w.heap.size → w'.heap[i]? = w.heap[i]?) : Frz w0 ι' w' :=
 s.keep hz hd fun i h => hold i (s.lt h)
theorem BRel.ge {w0 w : World} {ι : Inj} {e : Ent} {k : VBlk} (r : BRel w0 ι w e k) (hk : k.owns = true) : w0.heap.size ≤ e.r := by
 cases k with
 | dead => simp [VBlk.owns] at hk
 | cells cs rw =>
  simp only [VBlk.owns] at hk; subst hk
  obtain ⟨arr, t, fr, cs', a, _, _, c⟩ := r
  exact c.1
 | map es => obtain ⟨en, cl, a, b, _⟩ := r; exact b
 | loop st p fn tmps ps as body => obtain ⟨l, a, b, _⟩ := r; exact b
theorem BRel.ro {w0 w : World} {ι : Inj} {e : Ent} {cs : List VVal} (r : BRel w0 ι w e (.cells cs false)) : e.r < w0.heap.size := by
 obtain ⟨arr, t, fr, cs', a, _, _, c⟩ := r
 exact c.1
theorem owns_or (k : VBlk) : k = .dead ∨ (∃ cs, k = .cells cs false) ∨ k.owns = true := by
 cases k with
 | dead => exact .inl rfl
 | cells cs rw => cases rw with
  | false => exact .inr (.inl ⟨cs, rfl⟩)
  | true => exact .inr (.inr rfl)
 | map es => exact .inr (.inr rfl)
 | loop => exact .inr (.inr rfl)
theorem Sim.owned_ne {w0 w : World} {ι : Inj} {H : Ze} (s : Sim w0 ι H w) {b b' : Nat} {e e' : Ent} {k k' : VBlk} (h : ι b = some e) (h' : ι b' = some e') (g : H[b]? = some k) (g' : H[b']? = some k')
  (ho : k.owns = true) (hne : b ≠ b') (hd : k' ≠ .dead) : e'.r ≠ e.r := by
 intro he
 rcases owns_or k' with hk | ⟨cs, rfl⟩ | hk
 ·exact hd hk
 ·have h1 := (s.blk b' e' _ h' g').ro
  have h2 := (s.blk b e k h g).ge ho
  omega
 exact hne (s.inj b b' e e' k k' h h' g g' ho hk he.symm)
theorem Sim.ndf {w0 w : World} {ι : Inj} {H : Ze} (s : Sim w0 ι H w) {b : Nat} {e : Ent} {k : VBlk} (h : ι b = some e) (g : H[b]? = some k) (ho : k.owns = true) {r : Nat} (hr : r ∈ ι.df) : e.r ≠ r := by
 rintro rfl
 exact (s.blk b e k h g).ndef ho (s.frz.dd _ hr).1
theorem Sim.new {w0 w w' : World} {ι : Inj} {H : Ze} (s : Sim w0 ι H w) (e : Ent) (k : VBlk)
  (hb : Below w0.heap.size w0 w') (hold : ∀ i, i < w.heap.size → w'.heap[i]? = w.heap[i]?) (he : e.r = w.heap.size)
  (hk : BRel w0 (ι.ext H.length e) w' e k) : Sim w0 (ι.ext H.length e) (H ++ [k]) w' ∧ ι.le (ι.ext H.length e) := by
 have hle : ι.le (ι.ext H.length e) := ⟨fun b e' h => by
  have := s.dom b e' h
  rw [Inj.ext_m, if_neg (by omega)]; exact h, fun _ _ h => h⟩
 refine ⟨⟨hb, s.frz.new rfl rfl hold, ?_, ?_, ?_, ?_⟩, hle⟩
 ·intro r arr b e' k' hz h hH ho
  rw [Inj.ext_z] at hz
  have hr := s.frz.lt (.inl ⟨arr, hz⟩)
  by_cases hbn : b = H.length
  ·rw [Inj.ext_m, if_pos hbn] at h; cases h; omega
  rw [Inj.ext_m, if_neg hbn] at h
  have hlt := s.dom b e' h
  rw [List.getElem?_append_left hlt] at hH
  exact s.fo r arr b e' k' hz h hH ho
 ·intro b e' h
  rw [Inj.ext_m] at h
  split at h
  ·subst_vars; simp
  have := s.dom b e' h; simp; omega
 ·intro b e' k' h hH
  by_cases hbn : b = H.length
  ·subst hbn
   simp at hH; subst hH
   rw [Inj.ext_m] at h; simp at h; subst h
   exact hk
  have h0 : ι b = some e' := by rw [Inj.ext_m, if_neg hbn] at h; exact h
  have hlt := s.dom b e' h0
  rw [List.getElem?_append_left hlt] at hH
  have r := s.blk b e' k' h0 hH
  by_cases hd : k' = .dead
  ·subst hd; trivial
  exact (BRel.frame (hold _ (r.lt hd)) r).mono hle
 intro b b' e1 e2 k1 k2 h1 h2 g1 g2 o1 o2 hr
 have aux : ∀ c ec kc, (ι.ext H.length e) c = some ec → (H ++ [k])[c]? = some kc → kc.owns = true → (c = H.length ∧ ec = e) ∨ (c < H.length ∧ ι c = some ec ∧ H[c]? = some kc ∧ ec.r < w.heap.size) := by
  intro c ec kc hc hg ho
  by_cases hcn : c = H.length
  ·subst hcn; rw [Inj.ext_m] at hc; simp at hc; exact .inl ⟨rfl, hc.symm⟩
  have h0 : ι c = some ec := by rw [Inj.ext_m, if_neg hcn] at hc; exact hc
  have hlt := s.dom c ec h0
  rw [List.getElem?_append_left hlt] at hg
  refine .inr ⟨hlt, h0, hg, (s.blk c ec kc h0 hg).lt (fun hd => by subst hd; simp [VBlk.owns] at ho)⟩
 rcases aux b e1 k1 h1 g1 o1 with ⟨rfl, rfl⟩ | ⟨l1, i1, j1, r1⟩ <;> rcases aux b' e2 k2 h2 g2 o2 with ⟨rfl, rfl⟩ | ⟨l2, i2, j2, r2⟩
 ·rfl
 ·omega
 ·omega
 exact s.inj b b' e1 e2 k1 k2 i1 i2 j1 j2 o1 o2 hr
theorem Sim.turn {w0 w w' : World} {ι : Inj} {H : Ze} (s : Sim w0 ι H w) {b : Nat} {e : Ent} {k : VBlk} (h : ι b = some e) (g : H[b]? = some k) (ho : k.owns = true) (k' : VBlk)
  (hb : Below w0.heap.size w0 w') (hold : ∀ i, i < w.heap.size → i ≠ e.r → w'.heap[i]? = w.heap[i]?)
  (hk : BRel w0 ι w' e k') (ho' : k'.owns = true ∨ k' = .dead) : Sim w0 ι (H.set b k') w' := by
 have hbl := s.dom b e h
 have old : ∀ (d : Nat) (kd : VBlk), (H.set b k')[d]? = some kd → kd.owns = true → ∃ kd' : VBlk, H[d]? = some kd' ∧ kd'.owns = true := by
  intro d kd hd ho2
  by_cases hdb : d = b
  ·subst hdb; exact ⟨k, g, ho⟩
  rw [List.getElem?_set_ne (Ne.symm hdb)] at hd; exact ⟨kd, hd, ho2⟩
 refine ⟨hb, s.frz.keep rfl rfl (fun i hi => hold i (s.frz.lt hi) ?_), ?_, ?_, ?_, ?_⟩
 ·rcases hi with ⟨arr, hi⟩ | hi
  ·exact fun hh => s.fo i arr b e k hi h g ho hh.symm
  exact fun hh => s.ndf h g ho hi hh.symm
 ·intro r arr c ec kc hz hc hg hoc
  obtain ⟨kc', a1, b1⟩ := old c kc hg hoc
  exact s.fo r arr c ec kc' hz hc a1 b1
 ·intro c ec hc; simpa using s.dom c ec hc
 ·intro c ec kc hc hg
  by_cases hcb : c = b
  ·subst hcb
   rw [h] at hc; cases hc
   rw [List.getElem?_set_self hbl] at hg; cases hg
   exact hk
  rw [List.getElem?_set_ne (Ne.symm hcb)] at hg
  have r := s.blk c ec kc hc hg
  by_cases hd : kc = .dead
  ·subst hd; trivial
  exact BRel.frame (hold _ (r.lt hd) (s.owned_ne h hc g hg ho (Ne.symm hcb) hd)) r
 intro c c' e1 e2 k1 k2 h1 h2 g1 g2 o1 o2 hr
 obtain ⟨k1', a1, b1⟩ := old c k1 g1 o1
 obtain ⟨k2', a2, b2⟩ := old c' k2 g2 o2
 exact s.inj c c' e1 e2 k1' k2' h1 h2 a1 a2 b1 b2 hr
theorem Sim.same {w0 w w' : World} {ι : Inj} {H : Ze} (s : Sim w0 ι H w) (hb : Below w0.heap.size w0 w') (hold : ∀ i, i < w.heap.size → w'.heap[i]? = w.heap[i]?) : Sim w0 ι H w' :=
 ⟨hb, s.frz.new rfl rfl hold, s.fo, s.dom, fun b e k h g => by
  have r := s.blk b e k h g
  by_cases hd : k = .dead
  ·subst hd; trivial
  exact BRel.frame (hold _ (r.lt hd)) r, s.inj⟩
theorem Sim.drew {w0 w : World} {ι : Inj} {H : Ze} (s : Sim w0 ι H w) : Sim w0 ι H w.drew := s.same s.below.drew fun _ _ => rfl
def Inj.ex (n : Nat) (ι ι' : Inj) : Prop := (∀ b, b < n → ι' b = ι b) ∧ (∀ r a, ι.z r = some a → ι'.z r = some a) ∧ ι'.df = ι.df
theorem Inj.ex_refl (n : Nat) (ι : Inj) : Inj.ex n ι ι := ⟨fun _ _ => rfl, fun _ _ h => h, rfl⟩
theorem Inj.ex_trans {n m : Nat} {a b c : Inj} (h : Inj.ex n a b) (k : Inj.ex m b c) (hnm : n ≤ m) : Inj.ex n a c := ⟨fun i hi => (k.1 i (by omega)).trans (h.1 i hi), fun _ _ x => k.2.1 _ _ (h.2.1 _ _ x), k.2.2.trans h.2.2⟩
theorem Inj.ex_le {n m : Nat} {a b : Inj} (h : Inj.ex m a b) (hnm : n ≤ m) : Inj.ex n a b := ⟨fun i hi => h.1 i (by omega), h.2⟩
theorem Sim.le {w0 w : World} {ι ι' : Inj} {H : Ze} (s : Sim w0 ι H w) (h : Inj.ex H.length ι ι') : ι.le ι' := ⟨fun b e hb => (h.1 b (s.dom b e hb)).trans hb, h.2.1⟩
theorem Zag (ι : Inj) (n : Nat) (e : Ent) : Inj.ex n ι (ι.ext n e) := ⟨fun b hb => by rw [Inj.ext_m, if_neg (by omega)], fun _ _ h => h, rfl⟩
mutual
theorem Rel.under {ι : Inj} {n : Nat} (hd : ∀ b e, ι b = some e → b < n) : ∀ (v : VVal) (x : Value), Rel ι v x → v.under n = true
 | .undef, _, _ => rfl
 | .bool _, _, _ => rfl
 | .int _ _, _, _ => rfl
 | .str _, _, _ => rfl
 | .ptr none, _, _ => rfl
 | .ptr (some (b, _)), _, r => by
  simp only [Rel, VVal.under, decide_eq_true_eq] at r ⊢
  obtain ⟨e, a, _⟩ := r; exact hd _ _ a
 | .slice none _ _ _ _, _, _ => rfl
 | .slice (some (b, _)) _ _ _ _, _, r => by
  simp only [Rel, VVal.under, decide_eq_true_eq] at r ⊢
  obtain ⟨e, c, a, _⟩ := r; exact hd _ _ a
 | .fsl cs _ _ _, _, r => by
  simp only [Rel, VVal.under] at r ⊢
  obtain ⟨a, c, xs, _, _, _, _, h3, _⟩ := r
  exact RelL.under hd cs xs h3
 | .fptr cs _, _, r => by
  simp only [Rel, VVal.under] at r ⊢
  obtain ⟨_, _, _, xs, _, _, h3, _⟩ := r
  exact RelL.under hd cs xs h3
 | .map none, _, _ => rfl
 | .map (some _), _, r => by
  simp only [Rel, VVal.under, decide_eq_true_eq] at r ⊢
  obtain ⟨e, a, _⟩ := r; exact hd _ _ a
 | .func _ a c, _, r => by
  simp only [Rel, VVal.under, Bool.and_eq_true] at r ⊢
  obtain ⟨a', c', e, p, q⟩ := r
  exact ⟨RelL.under hd _ _ p, RelL.under hd _ _ q⟩
 | .yield _, _, r => by
  simp only [Rel, VVal.under, decide_eq_true_eq] at r ⊢
  obtain ⟨e, a, _⟩ := r; exact hd _ _ a
 | .nilFunc, _, _ => rfl
 | .iface _ x, _, r => by
  simp only [Rel, VVal.under] at r ⊢
  obtain ⟨y, e, p⟩ := r; exact Rel.under hd x y p
 | .nilIface, _, _ => rfl
 | .agg cs, _, r => by
  simp only [Rel, VVal.under] at r ⊢
  obtain ⟨y, e, p⟩ := r; exact RelL.under hd cs _ p
 | .tuple cs, _, r => by
  simp only [Rel, VVal.under] at r ⊢
  obtain ⟨y, e, p⟩ := r; exact RelL.under hd cs _ p
theorem RelL.under {ι : Inj} {n : Nat} (hd : ∀ b e, ι b = some e → b < n) : ∀ (vs : List VVal) (xs : List Value), RelL ι vs xs → VVal.underL n vs = true
 | [], _, _ => rfl
 | v :: vs, _, r => by
  simp only [RelL, VVal.underL, Bool.and_eq_true] at r ⊢
  obtain ⟨y, ys, e, p, q⟩ := r
  exact ⟨Rel.under hd v y p, RelL.under hd vs ys q⟩
end
theorem MRel.under {ι : Inj} {n : Nat} (hd : ∀ b e, ι b = some e → b < n) : ∀ (vs : List (VVal × VVal)) (xs : List MapEntry), MRel ι vs xs → (vs.all fun e => e.1.under n && e.2.under n) = true
 | [], _, _ => rfl
 | v :: vs, _, r => by
  simp only [MRel, List.all_cons, Bool.and_eq_true] at r ⊢
  obtain ⟨y, ys, e, p, q, t⟩ := r
  exact ⟨⟨Rel.under hd _ y.key p, Rel.under hd _ y.val q⟩, MRel.under hd vs ys t⟩
theorem BRel.under {w0 w : World} {ι : Inj} {n : Nat} (hd : ∀ b e, ι b = some e → b < n) {e : Ent} {k : VBlk} (r : BRel w0 ι w e k) : k.under n = true := by
 cases k with
 | dead => rfl
 | cells cs rw => obtain ⟨arr, t, fr, cs', a, b, _⟩ := r; exact RelL.under hd _ _ b
 | map es => obtain ⟨en, cl, a, b, c⟩ := r; exact MRel.under hd _ _ c
 | loop st p fn tmps ps as body =>
  obtain ⟨l, a, b, c, d, e', f, g, i⟩ := r
  exact RelL.under hd _ _ e'
theorem BRel.cut {w0 w : World} {ι : Inj} {n : Nat} {e : Ent} {k : VBlk} (u : k.under n = true) (r : BRel w0 ι w e k) : BRel w0 (ι.cut n) w e k := by
 cases k with
 | dead => trivial
 | cells cs rw => obtain ⟨arr, t, fr, cs', a, b, c⟩ := r; exact ⟨arr, t, fr, cs', a, RelL.cut n _ _ u b, c⟩
 | map es => obtain ⟨en, cl, a, b, c⟩ := r; exact ⟨en, cl, a, b, MRel.cut n _ _ u c⟩
 | loop st p fn tmps ps as body =>
  obtain ⟨l, a, b, c, d, e', f, g, i⟩ := r
  exact ⟨l, a, b, c, d, RelL.cut n _ _ u e', f, g, i⟩
theorem Sim.cut {w0 w : World} {ι : Inj} {H : Ze} (s : Sim w0 ι H w) {m : Nat} (hm : m ≤ H.length) (hu : ∀ i k e, i < m → ι i = some e → H[i]? = some k → k.under m = true) : Sim w0 (ι.cut m) (H.take m) w := by
 have get : ∀ {b e}, (ι.cut m) b = some e → b < m ∧ ι b = some e := by
  intro b e h
  rw [Inj.cut_m] at h
  split at h
  ·exact ⟨‹_›, h⟩
  cases h
 have tk : ∀ {b : Nat} {k : VBlk}, b < m → (H.take m)[b]? = some k → H[b]? = some k := by
  intro b k hb g
  rw [List.getElem?_take, if_pos hb] at g; exact g
 refine ⟨s.below, ⟨s.frz.fz, s.frz.dn, s.frz.dd⟩, ?_, ?_, ?_, ?_⟩
 ·intro r arr b e k hz h g ho
  obtain ⟨hb, h⟩ := get h
  exact s.fo r arr b e k hz h (tk hb g) ho
 ·intro b e h
  obtain ⟨hb, h⟩ := get h
  simp; omega
 ·intro b e k h g
  obtain ⟨hb, h⟩ := get h
  exact BRel.cut (hu b k e hb h (tk hb g)) (s.blk b e k h (tk hb g))
 intro b b' e e' k k' h h' g g' o o' hr
 obtain ⟨hb, h⟩ := get h
 obtain ⟨hb', h'⟩ := get h'
 exact s.inj b b' e e' k k' h h' (tk hb g) (tk hb' g') o o' hr
theorem Sim.under {w0 w : World} {ι : Inj} {H : Ze} (s : Sim w0 ι H w) {b : Nat} {e : Ent} {k : VBlk} (h : ι b = some e) (g : H[b]? = some k) : k.under H.length = true := (s.blk b e k h g).under s.dom
end Go.V
