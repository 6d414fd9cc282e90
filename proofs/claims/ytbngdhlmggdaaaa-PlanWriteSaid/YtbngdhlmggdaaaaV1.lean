/- The virtual machine: values, heaps, operations and the big-step interpreter `run`. Plain definitions, no facts of any program. -/
import Derived.RangeFuncLeaves
import Derived.RangeFuncCalls
import Derived.Below
import Derived.Laws.Cells
import Derived.Laws.Entries
import Derived.KernelRfl
set_option autoImplicit false
set_option linter.unusedVariables false
namespace Go.V
open Go

inductive VVal where
  | undef
  | bool (b : Bool)
  | int (k : IntKind) (n : Int)
  | str (s : ByteArray)
  | ptr (a : Option (Nat × Nat))
  | slice (a : Option (Nat × Nat)) (len cap : Nat) (ex : Bool) (es : Nat)
  /-- a slice whose cells nobody writes any more (of length 0: nil or not) -/
  | fsl (cs : List VVal) (len es : Nat) (ex : Bool)
  /-- a pointer into such cells -/
  | fptr (cs : List VVal) (off : Nat)
  | map (r : Option Nat)
  | func (f : FuncId) (first captured : List VVal)
  | yield (l : Nat)
  | nilFunc
  | iface (t : TypeId) (v : VVal)
  | nilIface
  | agg (cs : List VVal)
  | tuple (vs : List VVal)
  deriving Inhabited

/-- what a slot holds before it is written, and behind an operation that was passed over -/
abbrev VVal.skip : VVal := .tuple []

inductive VBlk where
  | cells (cs : List VVal) (rw : Bool)
  | map (es : List (VVal × VVal))
  | loop (st : LoopState) (pending : Option Code) (fn : FuncId) (tmps : List VVal) (params : List Nat) (assign body : Code)
  | dead
  deriving Inhabited

abbrev VHeap := List VBlk
abbrev VEnv := List VVal

/-- what the machine knows of a type -/
structure VTy where
  desc : TypeDesc
  size : Nat
  bytes : Nat
  zero : List VVal
  /-- '==' on it compares cell by cell, each a number or a bool -/
  flat : Bool

def isAggDesc : TypeDesc → Bool
  | .struct _ | .array _ _ => true
  | _ => false

structure Cfg where
  T : TypeId → Option VTy
  /-- the method of that name of a dynamic type, where the receiver is handed on as it is -/
  meth : TypeId → String → Option FuncId
  fn : FuncId → Option Func

/-! ### Numbers of blocks in values -/
mutual
def VVal.under (n : Nat) : VVal → Bool
  | .ptr (some (b, _)) => b < n
  | .slice (some (b, _)) _ _ _ _ => b < n
  | .fsl cs _ _ _ => VVal.underL n cs
  | .fptr cs _ => VVal.underL n cs
  | .map (some r) => r < n
  | .yield l => l < n
  | .func _ fs cs => VVal.underL n fs && VVal.underL n cs
  | .iface _ v => VVal.under n v
  | .agg cs => VVal.underL n cs
  | .tuple cs => VVal.underL n cs
  | _ => true
def VVal.underL (n : Nat) : List VVal → Bool
  | [] => true
  | v :: vs => VVal.under n v && VVal.underL n vs
end

def VBlk.under (n : Nat) : VBlk → Bool
  | .cells cs _ => VVal.underL n cs
  | .map es => es.all fun e => e.1.under n && e.2.under n
  | .loop _ _ _ tmps _ _ _ => VVal.underL n tmps
  | .dead => true

/-! ### Constants and operands -/
def VVal.ofFlat : Value → VVal
  | .bool b => .bool b
  | .int k n => .int k n
  | .string s => .str s
  | .pointer none => .ptr none
  | .slice none 0 0 => .slice none 0 0 true 0
  | .map none => .map none
  | .nilFunc => .nilFunc
  | .nilIface => .nilIface
  | _ => .undef
def VVal.ofConst : Value → VVal
  | .agg cs => .agg (cs.toList.map VVal.ofFlat)
  | v => VVal.ofFlat v

def VEnv.eval (env : VEnv) : Operand → VVal
  | .tmp t => env.getD t .skip
  | .const v => VVal.ofConst v
  | .global _ => .undef
  | .func f => .func f [] []

def VEnv.put (env : VEnv) (dst : Option Nat) (v : VVal) : VEnv :=
  match dst with
  | some d => env.set d v
  | none => env

/-! ### Operations -/
def VVal.cells : VVal → Option (List VVal)
  | .agg cs => some cs
  | .undef => none
  | .tuple _ => none
  | v => some [v]

/-- may it be stored in one cell? (the value that it stands for is surely that of one cell) -/
def VVal.one : VVal → Bool
  | .undef | .agg _ | .tuple _ => false
  | _ => true

def vnew (H : VHeap) (cs : List VVal) : VVal × VHeap := (.ptr (some (H.length, 0)), H ++ [.cells cs true])

/-- the cells of `n` from `off` on -/
def cellsAt (cs : List VVal) (off n : Nat) : Option (List VVal) :=
  if off + n ≤ cs.length then some ((cs.drop off).take n) else none

def vread (H : VHeap) (agg : Bool) (size : Nat) (a : Nat × Nat) : Option VVal :=
  match H[a.1]? with
  | some (.cells cs _) => if agg then (cellsAt cs a.2 size).map .agg else cs[a.2]?
  | _ => none

def vload (T : TypeId → Option VTy) (H : VHeap) (t : TypeId) (a : VVal) : Option VVal :=
  match a, T t with
  | .ptr (some p), some y => vread H (isAggDesc y.desc) y.size p
  | .fptr cs off, some y => if isAggDesc y.desc then (cellsAt cs off y.size).map .agg else cs[off]?
  | _, _ => none

/-- `cs` with `new` laid over it from `off` on (in bounds) -/
def splice (cs : List VVal) (off : Nat) (new : List VVal) : List VVal := cs.take off ++ new ++ cs.drop (off + new.length)

def vwrite (H : VHeap) (a : Nat × Nat) (new : List VVal) : Option VHeap :=
  match H[a.1]? with
  | some (.cells cs true) => if a.2 + new.length ≤ cs.length then some (H.set a.1 (.cells (splice cs a.2 new) true)) else none
  | _ => none

def vstore (T : TypeId → Option VTy) (H : VHeap) (t : TypeId) (a v : VVal) : Option VHeap :=
  match a, T t, v.cells with
  | .ptr (some p), some y, some cs => if cs.length = y.size ∧ cs.all VVal.one = true then vwrite H p cs else none
  | _, _, _ => none

/-- parts laid into zero cells -/
def vfill (place : Nat → Option (Nat × Nat)) (cells : List VVal) : List (Nat × VVal) → Option (List VVal)
  | [] => some cells
  | (i, v) :: rest =>
    match place i, v.cells with
    | some (off, size), some cs => if cs.length = size ∧ off + size ≤ cells.length then vfill place (splice cells off cs) rest else none
    | _, _ => none

def vplaces (T : TypeId → Option VTy) : List Field → Option (List (Nat × Nat))
  | [] => some []
  | f :: fs => match T f.type, vplaces T fs with
    | some z, some l => some ((f.offset, z.size) :: l)
    | _, _ => none

def vbuild (T : TypeId → Option VTy) (t : TypeId) (parts : List (Nat × VVal)) : Option VVal :=
  match T t with
  | some y =>
    match y.desc with
    | .struct fields => match vplaces T fields.toList with
      | some l => (vfill (fun i => l[i]?) y.zero parts).map .agg
      | none => none
    | .array _ elem => match T elem with
      | some z => (vfill (fun i => some (i * z.size, z.size)) y.zero parts).map .agg
      | none => none
    | _ => none
  | none => none

def repeatCells (zero : List VVal) : Nat → List VVal
  | 0 => []
  | n + 1 => zero ++ repeatCells zero n

def velem (T : TypeId → Option VTy) (t : TypeId) : Option (TypeId × VTy) :=
  match T t with
  | some y => match y.desc with
    | .slice e => (T e).map fun z => (e, z)
    | _ => none
  | none => none

def vbuildSlice (T : TypeId → Option VTy) (H : VHeap) (t : TypeId) (len : Nat) (parts : List (Nat × VVal)) : Option (VVal × VHeap) :=
  match velem T t with
  | some (_, z) =>
    if len * z.size ≤ 16777216 ∧ z.size = z.zero.length ∧ 0 < z.size then
      (vfill (fun i => some (i * z.size, z.size)) (repeatCells z.zero len) parts).map fun cs =>
        (.slice (some (H.length, 0)) len len true z.size, H ++ [.cells cs true])
    else none
  | none => none

def vmakeSlice (T : TypeId → Option VTy) (H : VHeap) (t : TypeId) (len cap : VVal) : Option (VVal × VHeap) :=
  match velem T t, len, cap with
  | some (_, z), .int .i64 l, .int .i64 c =>
    if 0 ≤ l ∧ l ≤ c ∧ c * z.bytes ≤ 281474976710656 ∧ c ≤ 9223372036854775807 ∧ z.size = z.zero.length ∧ 0 < z.size then
      some (.slice (some (H.length, 0)) l.toNat c.toNat true z.size, H ++ [.cells (repeatCells z.zero c.toNat) true])
    else none
  | _, _, _ => none

def vbits (op : BinOp) (k : IntKind) (x y : Int) : Int :=
  let a := BitVec.ofInt k.bits x
  let b := BitVec.ofInt k.bits y
  match op with
  | .and => k.wrap (a &&& b).toNat
  | .or => k.wrap (a ||| b).toNat
  | .xor => k.wrap (a ^^^ b).toNat
  | _ => k.wrap (a &&& ~~~b).toNat

def vint (op : BinOp) (k : IntKind) (x y : Int) : Option VVal :=
  match op with
  | .add => some (.int k (k.wrap (x + y)))
  | .sub => some (.int k (k.wrap (x - y)))
  | .mul => some (.int k (k.wrap (x * y)))
  | .quo => if y = 0 then none else some (.int k (k.wrap (x.tdiv y)))
  | .rem => if y = 0 then none else some (.int k (x.tmod y))
  | .and | .or | .xor | .andNot => some (.int k (vbits op k x y))
  | .eql => some (.bool (x == y))
  | .neq => some (.bool (x != y))
  | .lss => some (.bool (decide (x < y)))
  | .leq => some (.bool (decide (x ≤ y)))
  | .gtr => some (.bool (decide (x > y)))
  | .geq => some (.bool (decide (x ≥ y)))
  | _ => none

def vshift (op : BinOp) (k : IntKind) (x y : Int) : Option VVal :=
  if y < 0 then none else
  match op with
  | .shl => some (.int k (k.wrap (x * 2 ^ (min y.toNat k.bits))))
  | .shr => some (.int k (x.fdiv (2 ^ (min y.toNat k.bits))))
  | _ => none

/-- cells that are numbers: the same? -/
def flatEq : List VVal → List VVal → Option Bool
  | [], [] => some true
  | .int k a :: xs, .int j b :: ys => if k = j then (flatEq xs ys).map fun r => a == b && r else none
  | _, _ => none

def veq (T : TypeId → Option VTy) (t : TypeId) (x y : VVal) : Option Bool :=
  match T t with
  | none => none
  | some i =>
    match i.desc, x, y with
    | .bool, .bool a, .bool b => some (a == b)
    | .pointer _, .ptr none, .ptr b => some b.isNone
    | .pointer _, .ptr (some _), .ptr none => some false
    | .slice _, .slice none _ _ ex _, .slice none _ _ true _ => some ex
    | .slice _, .slice none _ _ true _, .slice none _ _ false _ => some false
    | .slice _, .slice none _ _ true _, .slice (some _) _ _ _ _ => some false
    | .slice _, .slice (some _) _ _ _ _, .slice none _ _ true _ => some false
    | .slice _, .slice none _ _ true _, .fsl _ len _ _ => if len = 0 then none else some false
    | .slice _, .fsl _ len _ _, .slice none _ _ true _ => if len = 0 then none else some false
    | .pointer _, .ptr none, .fptr _ _ => some false
    | .pointer _, .fptr _ _, .ptr none => some false
    | .map _ _, .map none, .map b => some b.isNone
    | .map _ _, .map (some _), .map none => some false
    | .func _ _ _, .nilFunc, .nilFunc => some true
    | .func _ _ _, .nilFunc, .func _ _ _ => some false
    | .func _ _ _, .func _ _ _, .nilFunc => some false
    | .func _ _ _, .nilFunc, .yield _ => some false
    | .func _ _ _, .yield _, .nilFunc => some false
    | .array _ _, .agg xs, .agg ys => if i.flat = true ∧ xs.length = i.size ∧ ys.length = i.size then flatEq xs ys else none
    | .struct _, .agg xs, .agg ys => if i.flat = true ∧ xs.length = i.size ∧ ys.length = i.size then flatEq xs ys else none
    | _, _, _ => none

def vstr (op : BinOp) (x y : ByteArray) : Option VVal :=
  let eq := x.toList == y.toList
  let lt := Op.bytesLess x.toList y.toList
  match op with
  | .add => if x.size + y.size ≤ 4611686018427387904 then some (.str (x ++ y)) else none
  | .eql => some (.bool eq)
  | .neq => some (.bool !eq)
  | .lss => some (.bool lt)
  | .leq => some (.bool (lt || eq))
  | .gtr => some (.bool !(lt || eq))
  | .geq => some (.bool !lt)
  | _ => none

def vbin (T : TypeId → Option VTy) (op : BinOp) (t : TypeId) (x y : VVal) : Option VVal :=
  match x, y with
  | .int k a, .int k' b =>
    match op with
    | .shl | .shr => vshift op k a b
    | _ => if k = k' then vint op k a b else none
  | .str a, .str b => vstr op a b
  | x, y =>
    match op with
    | .eql => (veq T t x y).map .bool
    | .neq => (veq T t x y).map fun b => .bool !b
    | _ => none

def vun (op : UnOp) (x : VVal) : Option VVal :=
  match op, x with
  | .neg, .int k n => some (.int k (k.wrap (0 - n)))
  | .xor, .int k n => some (.int k (vbits .xor k (if k.signed then -1 else k.max) n))
  | .not, .bool b => some (.bool !b)
  | _, _ => none

/-- the bytes of cells -/
def bytesOf : List VVal → Option (List UInt8)
  | [] => some []
  | .int .u8 n :: vs => (bytesOf vs).map (UInt8.ofNat n.toNat :: ·)
  | _ => none

def vconvert (T : TypeId → Option VTy) (H : VHeap) (src dst : TypeId) (x : VVal) : Option (VVal × VHeap) :=
  match T src, T dst with
  | some s, some d =>
    match s.desc, d.desc, x with
    | _, .int k, .int _ n => some (.int k (k.wrap n), H)
    | .string, .string, .str b => some (.str b, H)
    | .slice e, .string, x =>
      match T e, x with
      | some z, .slice none _ _ _ _ => (match z.desc with | .int .u8 => some (.str .empty, H) | _ => none)
      | some z, .slice (some (b, off)) len _ _ 1 =>
        (match z.desc, H[b]? with
        | .int .u8, some (.cells cs _) => match cellsAt cs off len with
          | some l => (bytesOf l).map fun r => (.str ⟨r.toArray⟩, H)
          | none => none
        | _, _ => none)
      | some z, .fsl cs len 1 _ =>
        (match z.desc with
        | .int .u8 => match cellsAt cs 0 len with
          | some l => (bytesOf l).map fun r => (.str ⟨r.toArray⟩, H)
          | none => none
        | _ => none)
      | _, _ => none
    | .slice e, .slice e', .slice (some (b, off)) len cap ex es =>
      match T e' with
      | some z => (match z.desc, H[b]? with
        | .int .u8, some (.cells _ true) => if src = dst then some (x, H) else none
        | _, _ => none)
      | none => none
    | .string, .slice e, .str b =>
      match T e with
      | some z => (match z.desc with
        | .int .u8 => if b.size ≤ 140737488355328 then some (.slice (some (H.length, 0)) b.size b.size false 1, H ++ [.cells (b.data.toList.map fun c => .int .u8 c.toNat) true]) else none
        | _ => none)
      | none => none
    | _, _, _ => none
  | _, _ => none

/-- the bounds of x[low:high:max], where len and cap are what they are held against -/
def vbounds (len cap : Nat) (low high max : Option VVal) : Option (Nat × Nat × Nat) :=
  let bound (v : Option VVal) (dflt y : Nat) : Option Nat :=
    match v with
    | none => some dflt
    | some (.int _ i) => if 0 ≤ i ∧ i ≤ y then some i.toNat else none
    | some _ => none
  match bound max cap cap with
  | none => none
  | some m =>
    match bound high len m with
    | none => none
    | some h =>
      match bound low 0 h with
      | none => none
      | some l => some (l, h, m)

def vslice (T : TypeId → Option VTy) (t : TypeId) (x : VVal) (low high max : Option VVal) : Option VVal :=
  match T t with
  | none => none
  | some y =>
    match y.desc, x with
    | .string, .str s =>
      match max, vbounds s.size s.size low high none with
      | none, some (l, h, _) => some (.str (s.extract l h))
      | _, _ => none
    | .slice e, .slice a len cap ex es =>
      match (T e).map (·.size), vbounds len cap low high max, (max.isSome && high.isNone) with
      | some z, some (l, h, m), false =>
        if ¬ len ≤ cap then none else
        match a with
        | none => some (.slice none 0 0 ex es)
        | some (b, off) =>
          if z = es ∧ (l < m ∨ (l = 0 ∧ m = 0)) then some (.slice (some (b, off + l * es)) (h - l) (m - l) (ex || max.isSome) es)
          else if z = es ∧ l = m ∧ h = l then (if (ex || max.isSome) = true then some (.slice (some (b, off)) 0 0 true es) else some (.slice none 0 0 false es))
          else none
      | _, _, _ => none
    | .slice e, .fsl cs len es ex =>
      match (T e).map (·.size), vbounds len len low high max, (max.isSome && high.isNone) with
      | some z, some (l, h, m), false =>
        if z = es then
          match cellsAt cs (l * es) ((h - l) * es) with
          | some w => some (.fsl w (h - l) es (if max.isSome then m == h else ex && h == len))
          | none => none
        else none
      | _, _, _ => none
    | _, _ => none

def vfieldAddr (T : TypeId → Option VTy) (s : TypeId) (a : VVal) (f : Nat) : Option VVal :=
  match T s, a with
  | some y, .ptr (some (b, off)) =>
    match y.desc with
    | .struct fields => match fields[f]? with
      | some fd => match T fd.type with
        | some z => if z.size ≠ 0 then some (.ptr (some (b, off + fd.offset))) else none
        | none => none
      | none => none
    | _ => none
  | some y, .fptr cs off =>
    match y.desc with
    | .struct fields => match fields[f]? with
      | some fd => match T fd.type with
        | some z => if z.size ≠ 0 then some (.fptr cs (off + fd.offset)) else none
        | none => none
      | none => none
    | _ => none
  | _, _ => none

def vpart (T : TypeId → Option VTy) (t : TypeId) (cs : List VVal) (off : Nat) : Option VVal :=
  match T t with
  | some y => if isAggDesc y.desc then (cellsAt cs off y.size).map .agg else cs[off]?
  | none => none

def vfield (T : TypeId → Option VTy) (t : TypeId) (x : VVal) (f : Nat) : Option VVal :=
  match T t, x with
  | some y, .agg cs =>
    match y.desc with
    | .struct fields => match fields[f]? with
      | some fd => vpart T fd.type cs fd.offset
      | none => none
    | _ => none
  | _, _ => none

def vindexAddr (T : TypeId → Option VTy) (t : TypeId) (x i : VVal) : Option VVal :=
  match T t, i with
  | some y, .int _ n =>
    match y.desc, x with
    | .array len elem, .ptr (some (b, off)) =>
      match T elem with
      | some z => if 0 ≤ n ∧ n < len then some (.ptr (some (b, off + n.toNat * z.size))) else none
      | none => none
    | .slice elem, .slice (some (b, off)) len _ _ es =>
      match T elem with
      | some z => if z.size = es ∧ 0 ≤ n ∧ n < len then some (.ptr (some (b, off + n.toNat * es))) else none
      | none => none
    | .array len elem, .fptr cs off =>
      match T elem with
      | some z => if 0 ≤ n ∧ n < len then some (.fptr cs (off + n.toNat * z.size)) else none
      | none => none
    | .slice elem, .fsl cs len es _ =>
      match T elem with
      | some z => if z.size = es ∧ 0 ≤ n ∧ n < len then some (.fptr cs (n.toNat * es)) else none
      | none => none
    | _, _ => none
  | _, _ => none

def vindex (T : TypeId → Option VTy) (t : TypeId) (x i : VVal) : Option VVal :=
  match T t, i with
  | some y, .int _ n =>
    match y.desc, x with
    | .array len elem, .agg cs =>
      match T elem with
      | some z => if 0 ≤ n ∧ n < len then vpart T elem cs (n.toNat * z.size) else none
      | none => none
    | .string, .str s => if 0 ≤ n then (s[n.toNat]?).map fun b => .int .u8 b.toNat else none
    | _, _ => none
  | _, _ => none

def vlen (T : TypeId → Option VTy) (H : VHeap) (t : TypeId) (x : VVal) : Option VVal :=
  match T t with
  | none => none
  | some y =>
    match y.desc, x with
    | .string, .str s => some (.int .i64 s.size)
    | .array n _, _ => some (.int .i64 n)
    | .pointer e, _ => match T e with
      | some z => (match z.desc with | .array n _ => some (.int .i64 n) | _ => none)
      | none => none
    | .slice _, .slice _ n _ _ _ => some (.int .i64 n)
    | .slice _, .fsl _ n _ _ => some (.int .i64 n)
    | .map _ _, .map none => some (.int .i64 0)
    | .map _ _, .map (some r) => (match H[r]? with | some (.map es) => some (.int .i64 es.length) | _ => none)
    | _, _ => none

/-- the cells that are appended or copied: of a slice or of a string -/
def srcCells (H : VHeap) (es n : Nat) : VVal → Option (List VVal)
  | .slice none _ _ _ _ => some []
  | .slice (some (b, off)) _ _ _ _ => match H[b]? with
    | some (.cells cs _) => cellsAt cs off (n * es)
    | _ => none
  | .str s => some ((s.extract 0 n).data.toList.map fun c => .int .u8 c.toNat)
  | .fsl cs _ _ _ => cellsAt cs 0 (n * es)
  | _ => none

def srcLen : VVal → Option Nat
  | .slice _ n _ _ _ => some n
  | .str s => some s.size
  | .fsl _ n _ _ => some n
  | _ => none

def isSeq : TypeDesc → Bool
  | .slice _ | .string => true
  | _ => false

def vappend (T : TypeId → Option VTy) (H : VHeap) (argTypes : List TypeId) (s x : VVal) : Option (VVal × VHeap) :=
  match argTypes with
  | [t, u] =>
    match velem T t, s, srcLen x with
    | some (_, z), .slice a len cap ex es, some k =>
      match srcCells H z.size k x, (T u).map (·.desc) with
      | some new, some du =>
        if new.length = k * z.size ∧ new.all VVal.one = true ∧ 0 < z.size ∧ (len + k) * z.bytes ≤ 140737488355328 ∧ (len + k) ≤ 140737488355328 ∧ isSeq du = true then
          match a with
          | none =>
            if len ≠ 0 ∨ cap ≠ 0 then none
            else if k = 0 then some (.slice none 0 0 ex z.size, H)
            else if ex = false then none
            else some (.slice (some (H.length, 0)) k k false z.size, H ++ [.cells new true])
          | some (b, off) =>
            if es = z.size then
              match H[b]? with
              | some (.cells cs rw) =>
                if len + k ≤ cap then
                  (if k = 0 then some (s, H)
                   else if rw = true ∧ off + len * es ≤ cs.length then
                    some (.slice a (len + k) cap ex es, H.set b (.cells (splice cs (off + len * es) new) true))
                   else none)
                else match cellsAt cs off (len * es) with
                  | some old =>
                    if ex = true then some (.slice (some (H.length, 0)) (len + k) (len + k) false es, H ++ [.cells (old ++ new) true])
                    else if rw = true then some (.slice (some (H.length, 0)) (len + k) (len + k) false es, H.set b .dead ++ [.cells (old ++ new) true])
                    else none
                  | none => none
              | _ => none
            else none
        else none
      | _, _ => none
    | some (_, z), .fsl fs len es ex, some k =>
      match srcCells H z.size k x, (T u).map (·.desc) with
      | some new, some du =>
        if new.length = k * z.size ∧ new.all VVal.one = true ∧ 0 < z.size ∧ (len + k) * z.bytes ≤ 140737488355328 ∧ (len + k) ≤ 140737488355328 ∧ isSeq du = true ∧ ex = true ∧ 0 < k ∧ es = z.size then
          match cellsAt fs 0 (len * es) with
          | some old => some (.slice (some (H.length, 0)) (len + k) (len + k) false es, H ++ [.cells (old ++ new) true])
          | none => none
        else none
      | _, _ => none
    | _, _, _ => none
  | _ => none

def vcopy (T : TypeId → Option VTy) (H : VHeap) (t : TypeId) (d x : VVal) : Option (VVal × VHeap) :=
  match velem T t, d, srcLen x with
  | some (_, z), .slice a dlen _ _ es, some k =>
    let n := Nat.min k dlen
    match srcCells H z.size n x with
    | some new =>
      if new.length = n * z.size ∧ new.all VVal.one = true ∧ 0 < z.size then
        match a with
        | none => if n = 0 then some (.int .i64 n, H) else none
        | some p => if es = z.size then (vwrite H p new).map fun H' => (.int .i64 n, H') else none
      else none
    | none => none
  | _, _, _ => none

def vclear (T : TypeId → Option VTy) (H : VHeap) (t : TypeId) (x : VVal) : Option (VVal × VHeap) :=
  match velem T t, x with
  | some (_, z), .slice a len _ _ es =>
    if z.size = z.zero.length ∧ 0 < z.size ∧ z.zero.all VVal.one = true then
      match a with
      | none => if len = 0 then some (.tuple [], H) else none
      | some p => if es = z.size then (vwrite H p (repeatCells z.zero len)).map fun H' => (.tuple [], H') else none
    else none
  | _, _ => none

def vmin2 : VVal → VVal → Option VVal
  | .int k x, .int _ y => some (.int k (if y < x then y else x))
  | _, _ => none
def vmax2 : VVal → VVal → Option VVal
  | .int k x, .int _ y => some (.int k (if y > x then y else x))
  | _, _ => none

def vfold (f : VVal → VVal → Option VVal) : List VVal → Option VVal
  | [] => none
  | x :: rest => rest.foldlM f x

def vnilCheck : VVal → Option VVal
  | .ptr (some a) => some (.ptr (some a))
  | .func f a b => some (.func f a b)
  | .yield l => some (.yield l)
  | .iface t v => some (.iface t v)
  | .fptr cs off => some (.fptr cs off)
  | _ => none

def vmakeIface (T : TypeId → Option VTy) (t : TypeId) (x : VVal) : Option VVal :=
  match T t with
  | some y => (match y.desc with | .interface _ => none | _ => some (.iface t x))
  | none => none

def vassert (T : TypeId → Option VTy) (x : VVal) (asserted : TypeId) (commaOk : Bool) : Option VVal :=
  match T asserted, x with
  | some y, .iface t v =>
    (match y.desc with
    | .interface _ => none
    | d => if t = asserted then some (if commaOk then .tuple [v, .bool true] else v)
        else if commaOk then (match isAggDesc d, y.zero with
          | true, z => some (.tuple [.agg z, .bool false])
          | false, [z] => some (.tuple [z, .bool false])
          | _, _ => none)
        else none)
  | _, _ => none

def vextract (x : VVal) (i : Nat) : Option VVal :=
  match x with
  | .tuple vs => vs[i]?
  | _ => none

def vbuiltin (T : TypeId → Option VTy) (H : VHeap) (b : Builtin) (ats : List TypeId) (args : List VVal) : Option (VVal × VHeap) :=
  match b, args with
  | .len, [x] => match ats with | [t] => (vlen T H t x).map (·, H) | _ => none
  | .append, [s, x] => vappend T H ats s x
  | .copy, [d, x] => match ats with | [t, _] => vcopy T H t d x | _ => none
  | .clear, [x] => match ats with | [t] => vclear T H t x | _ => none
  | .min, xs => (vfold vmin2 xs).map (·, H)
  | .max, xs => (vfold vmax2 xs).map (·, H)
  | _, _ => none

/-! Maps: keys are numbers, strings or bools -/
def keyEq : VVal → VVal → Option Bool
  | .int k a, .int j b => if k = j then some (a == b) else none
  | .str a, .str b => some (a == b)
  | .bool a, .bool b => some (a == b)
  | _, _ => none

/-- the value that stands under the key; the outer none: that is not known -/
def mget (k : VVal) : List (VVal × VVal) → Option (Option VVal)
  | [] => some none
  | (x, v) :: es => match keyEq k x with
    | some true => some (some v)
    | some false => mget k es
    | none => none

def mput (k v : VVal) : List (VVal × VVal) → List (VVal × VVal)
  | [] => [(k, v)]
  | (x, u) :: es => if keyEq k x = some true then (k, v) :: es else (x, u) :: mput k v es

def keyOk (T : TypeId → Option VTy) (t : TypeId) (k : VVal) : Bool :=
  match T t, k with
  | some y, .int j _ => (match y.desc with | .int i => i == j | _ => false)
  | some y, .str _ => (match y.desc with | .string => true | _ => false)
  | _, _ => false

def vlookup (T : TypeId → Option VTy) (H : VHeap) (t : TypeId) (x k : VVal) (commaOk : Bool) : Option VVal :=
  match T t with
  | some y => match y.desc with
    | .map kt et =>
      match T et with
      | some z =>
        let zero := if isAggDesc z.desc then VVal.agg z.zero else z.zero.headD .undef
        let ans (r : Option VVal) : VVal := match r with
          | some v => if commaOk then .tuple [v, .bool true] else v
          | none => if commaOk then .tuple [zero, .bool false] else zero
        if keyOk T kt k = true ∧ (isAggDesc z.desc = true ∨ z.zero.length = 1) then
          match x with
          | .map none => some (ans none)
          | .map (some r) => match H[r]? with
            | some (.map es) => (mget k es).map ans
            | _ => none
          | _ => none
        else none
      | none => none
    | _ => none
  | none => none

def vmapUpdate (T : TypeId → Option VTy) (H : VHeap) (t : TypeId) (x k v : VVal) : Option VHeap :=
  match T t with
  | some y => match y.desc, x with
    | .map kt _, .map (some r) =>
      if keyOk T kt k = true then
        match H[r]? with
        | some (.map es) => match mget k es with
          | some _ => some (H.set r (.map (mput k v es)))
          | none => none
        | _ => none
      else none
    | _, _ => none
  | none => none

/-- every operation but calls of functions -/
def vop (T : TypeId → Option VTy) (ρ : Operand → VVal) (H : VHeap) : Op → Option (VVal × VHeap)
  | .move x | .assign x => some (ρ x, H)
  | .pick c a b => match ρ c with
    | .bool t => some (if t then ρ a else ρ b, H)
    | _ => none
  | .alloc t => (T t).map fun y => vnew H y.zero
  | .box _ x => (ρ x).cells.map fun cs => vnew H cs
  | .build t parts => (vbuild T t (parts.toList.map fun p => (p.1, ρ p.2))).map (·, H)
  | .buildSlice t n parts => vbuildSlice T H t n (parts.toList.map fun p => (p.1, ρ p.2))
  | .load t a => (vload T H t (ρ a)).map (·, H)
  | .store t a x => (vstore T H t (ρ a) (ρ x)).map (.skip, ·)
  | .nilCheck x => (vnilCheck (ρ x)).map (·, H)
  | .binOp op t x y _ => (vbin T op t (ρ x) (ρ y)).map (·, H)
  | .unOp op _ x => (vun op (ρ x)).map (·, H)
  | .convert s d x => vconvert T H s d (ρ x)
  | .makeFunc (.func f) first cap => some (.func f (first.toList.map ρ) (cap.toList.map ρ), H)
  | .makeSlice t l c => vmakeSlice T H t (ρ l) (ρ c)
  | .slice t x lo hi mx => (vslice T t (ρ x) (lo.map ρ) (hi.map ρ) (mx.map ρ)).map (·, H)
  | .fieldAddr s x f => (vfieldAddr T s (ρ x) f).map (·, H)
  | .field t x f => (vfield T t (ρ x) f).map (·, H)
  | .indexAddr t x i => (vindexAddr T t (ρ x) (ρ i)).map (·, H)
  | .index t x i => (vindex T t (ρ x) (ρ i)).map (·, H)
  | .extract t i => (vextract (ρ t) i).map (·, H)
  | .makeMap _ none => some (.map (some H.length), H ++ [.map []])
  | .lookup t x k ok => (vlookup T H t (ρ x) (ρ k) ok).map (·, H)
  | .mapUpdate t m k x | .insert t m k x => (vmapUpdate T H t (ρ m) (ρ k) (ρ x)).map (.skip, ·)
  | .makeInterface t x => (vmakeIface T t (ρ x)).map (·, H)
  | .typeAssert x _ t ok => (vassert T (ρ x) t ok).map (·, H)
  | .call { callee := .builtin b, args, argTypes } => vbuiltin T H b argTypes.toList (args.toList.map ρ)
  | _ => none

/-! ### Regions -/
/-- what an operation is to the heap: nothing at all · a look at it · one new block, without a look · whatever else -/
inductive Cls where
  | calm | look | grow | turn
  deriving DecidableEq

def isIntTy (T : TypeId → Option VTy) (t : TypeId) : Bool :=
  match T t with
  | some y => (match y.desc with | .int _ => true | _ => false)
  | none => false

def isStrTy (T : TypeId → Option VTy) (t : TypeId) : Bool :=
  match T t with
  | some y => (match y.desc with | .string => true | _ => false)
  | none => false

def clsOf (T : TypeId → Option VTy) : Op → Cls
  | .move _ | .assign _ | .pick .. | .build .. | .nilCheck _ | .binOp .. | .unOp .. | .makeFunc .. | .slice .. | .fieldAddr .. | .field .. | .indexAddr .. | .index .. | .extract .. | .makeInterface .. | .typeAssert .. => .calm
  | .convert _ dst _ => if isIntTy T dst then .calm else if isStrTy T dst then .look else .turn
  | .call { callee := .builtin .min, .. } | .call { callee := .builtin .max, .. } => .calm
  | .call { callee := .builtin .len, .. } => .look
  | .load .. | .lookup .. => .look
  | .alloc _ | .box .. | .buildSlice .. | .makeSlice .. | .makeMap _ none => .grow
  | _ => .turn

/-- what an operation did: for the look at an order that is left open -/
inductive Item' where
  | calm
  | look (f : VHeap → Option (VVal × VHeap)) (v : VVal)
  | grow (id : Nat)
  | turn (H H' : VHeap)

/-- is the operation carried out? none: that is not known -/
def vwanted (ops : Array Oper) (env : VEnv) (g : Option (Nat × Bool)) : Option Bool :=
  match g with
  | none => some true
  | some (j, want) =>
    match (ops[j]?).bind (·.dst) with
    | none => some false
    | some d => match env.getD d .skip with
      | .bool b => some (b == want)
      | .undef => none
      | _ => some false

def itemOf (T : TypeId → Option VTy) (o : Op) (ρ : Operand → VVal) (v : VVal) (H H' : VHeap) : Item' :=
  match clsOf T o with
  | .calm => .calm
  | .look => .look (fun G => vop T ρ G o) v
  | .grow => .grow H.length
  | .turn => .turn H H'

/-- two operations that Go may carry out in either order (the first one came first here): does it make no difference? -/
def fine : Item' → Item' → Prop
  | .look f v, .turn H H' => f H = some (v, H) ∧ f H' = some (v, H')
  | .turn H H', .look f v => f H = some (v, H) ∧ f H' = some (v, H')
  | .turn _ _, .turn _ _ => False
  | .turn _ _, .grow _ => False
  | .grow id, .turn H H' => H'[id]? = H[id]?
  | _, _ => True

def fineAll (bef : Array Nat) : List (Nat × Item') → Prop
  | [] => True
  | x :: rest => (∀ y, y ∈ rest → (bef.getD y.1 0).testBit x.1 = false → fine x.2 y.2) ∧ fineAll bef rest

/-- the order in which a region that leaves its order open is gone through here: what may turn the heap comes as late as may be -/
def canonGo (T : TypeId → Option VTy) (ops : Array Oper) (bef : Array Nat) : Nat → Nat → List Nat → List Nat
  | 0, _, acc => acc.reverse
  | n + 1, done, acc =>
    let ready (i : Nat) : Bool := !done.testBit i && (bef.getD i 0 &&& done) == bef.getD i 0
    let soft (i : Nat) : Bool := match ops[i]? with | some o => clsOf T o.op != .turn | none => true
    match (List.range ops.size).find? (fun i => ready i && soft i) with
    | some i => canonGo T ops bef n (done ||| 2 ^ i) (i :: acc)
    | none => match (List.range ops.size).find? ready with
      | some i => canonGo T ops bef n (done ||| 2 ^ i) (i :: acc)
      | none => acc.reverse

def canon (T : TypeId → Option VTy) (ops : Array Oper) : List Nat := canonGo T ops (Region.before ops) ops.size 0 []

/-- the slots that an operation looks at or writes -/
def namesOf (ops : Array Oper) (o : Oper) : List Nat :=
  o.dst.toList ++ (o.op.operands.toList.filterMap fun x => match x with | .tmp t => some t | _ => none) ++
  (match o.guard with | some (g, _) => ((ops[g]?).bind (·.dst)).toList | none => [])

/-- of two operations that share a slot which one of them writes, one is ahead of the other -/
def tmpsOk (ops : Array Oper) (bef : Array Nat) : Bool :=
  (List.range ops.size).all fun j => (List.range ops.size).all fun i => i == j ||
    match (ops[i]?).bind (·.dst), ops[j]? with
    | some t, some o => !(namesOf ops o).contains t || (bef.getD (max i j) 0).testBit (min i j)
    | _, _ => true

/-- whatever is ahead of another one comes ahead of it -/
def orderOk (bef : Array Nat) : List Nat → Bool
  | [] => true
  | x :: rest => rest.all (fun y => !(bef.getD x 0).testBit y) && !(bef.getD x 0).testBit x && !rest.contains x && orderOk bef rest

/-- what is ahead of an operation: its own edges and what is ahead of those -/
def befOk (ops : Array Oper) (bef : Array Nat) : Bool :=
  (List.range ops.size).all fun j => match ops[j]? with
    | some o => bef.getD j 0 == o.after.toList.foldl (fun s e => if Region.binds .any e then s ||| 2 ^ e.on ||| bef.getD e.on 0 else s) 0 && o.after.toList.all (fun e => !Region.binds .any e || decide (e.on < ops.size))
    | none => true

def drawOk (T : TypeId → Option VTy) (ops : Array Oper) : Bool :=
  befOk ops (Region.before ops) && tmpsOk ops (Region.before ops) && orderOk (Region.before ops) (canon T ops) && (List.range ops.size).all (fun i => (canon T ops).contains i)

/-- what is called, and with what; none: it is no call of a function -/
def calleeOf (meth : TypeId → String → Option FuncId) (ρ : Operand → VVal) : Op → Option (VVal × List VVal)
  | .call { callee := .value f, args, .. } => some (ρ f, args.toList.map ρ)
  | .call { callee := .invoke x name, args, .. } =>
    match ρ x with
    | .iface t v => match meth t name with
      | some f => some (.func f [] [], v :: args.toList.map ρ)
      | none => some (.undef, [])
    | _ => some (.undef, [])
  | _ => none

abbrev Caller := VVal → List VVal → VHeap → Option (VVal × VHeap)

/-- one operation: its value, the heap behind it, what it did -/
def runOp (T : TypeId → Option VTy) (meth : TypeId → String → Option FuncId) (call : Caller) (ops : Array Oper) (o : Oper) (env : VEnv) (H : VHeap) : Option (VVal × VHeap × Item') :=
  match vwanted ops env o.guard with
  | none => none
  | some false => some (.skip, H, .calm)
  | some true =>
    match calleeOf meth env.eval o.op with
    | some (f, args) => match call f args H with
      | some (v, H') => some (v, H', .turn H H')
      | none => none
    | none => match vop T env.eval H o.op with
      | some (v, H') => some (v, H', itemOf T o.op env.eval v H H')
      | none => none

def runOps (T : TypeId → Option VTy) (meth : TypeId → String → Option FuncId) (call : Nat → Caller) (ops : Array Oper) : List Nat → VEnv → VHeap → List (Nat × Item') → Option (VEnv × VHeap × List (Nat × Item'))
  | [], env, H, tr => some (env, H, tr)
  | i :: rest, env, H, tr =>
    match ops[i]? with
    | none => none
    | some o =>
      match runOp T meth (call i) ops o env H with
      | some (v, H', it) => runOps T meth call ops rest (env.put o.dst v) H' (tr ++ [(i, it)])
      | none => none

/-! ### Slots that are forgotten at a loop's head -/
def VEnv.clear (ts : List Nat) (env : VEnv) : VEnv := ts.foldl (fun e t => e.set t .undef) env

def setParams (env : VEnv) (ps : List Nat) (vs : List VVal) : VEnv := (ps.zip vs).foldl (fun e p => e.set p.1 p.2) env

def vresult (T : TypeId → Option VTy) (env : VEnv) (H : VHeap) : ResultVar → Option VVal
  | .tmp t => some (env.getD t .skip)
  | .cell a t => vload T H t (env.getD a .skip)

def vresults (T : TypeId → Option VTy) (env : VEnv) (H : VHeap) (rs : Array ResultVar) : Option VVal :=
  match rs.toList with
  | [r] => vresult T env H r
  | rs => (rs.mapM (vresult T env H)).map .tuple

def jumpOf : Exit → Option (Option Code)
  | .normal => some none
  | .ret => some (some .ret)
  | .exit id => some (some (.exit id))
  | _ => none
end Go.V
