/- Proved: Rows.TallyOwnCardSaid, the statement TallyOwn with its card, of the given program at the commit; no conditions beyond those in the statement. -/
import Derived.Test.YtccgigdjkghieaaDoorC12x1
import Derived.Deep.AppendSrc
import Derived.Laws.Bits
set_option autoImplicit false
set_option linter.unusedVariables false
set_option linter.unusedSimpArgs false
namespace Go.V
open Go Go.RowKit
structure TyOk (P : Program) (t : TypeId) (y : VTy) : Prop where
 und : P.underlying t = some y.desc
 info : ∃ i z, P.info? t = some i ∧ i.size = y.size ∧ i.bytes = y.bytes ∧ i.zero = some z ∧ RelL Inj.zero y.zero z.cells.toList ∧
  (Zk y.desc = true → ∃ cs, z = .agg cs) ∧ (Zk y.desc = false → z.cells = #[z])
 zlen : y.zero.length = y.size
 flat : y.flat = true → P.eqGuardType P.depth t = false ∧ ∀ (w : World) (xs ys : List VVal) (xs' ys' : Array Value) (r : Bool), RelL Inj.zero xs xs'.toList → RelL Inj.zero ys ys'.toList →
  xs.length = y.size → ys.length = y.size → YP xs ys = some r → (Op.equal t (.agg xs') (.agg ys')).run P w = .ok r w
def TOk (P : Program) (T : TypeId → Option VTy) : Prop := ∀ t y, T t = some y → TyOk P t y
section
variable {P : Program} {T : TypeId → Option VTy}
theorem TyOk.run_und {t : TypeId} {y : VTy} (h : TyOk P t y) (w : World) : (underlying t).run P w = .ok y.desc w := run_underlying h.und w
theorem TyOk.run_info {t : TypeId} {y : VTy} (h : TyOk P t y) : ∃ i z, P.info? t = some i ∧ (∀ w : World, (typeInfo t).run P w = .ok i w) ∧ i.size = y.size ∧ i.bytes = y.bytes ∧ i.zero = some z ∧
  (∀ w : World, (sizeOf t).run P w = .ok y.size w) ∧ (∀ w : World, (zeroValue t).run P w = .ok z w) ∧ (∀ ι, RelL ι y.zero z.cells.toList) ∧
  (Zk y.desc = true → ∃ cs, z = .agg cs) ∧ (Zk y.desc = false → z.cells = #[z]) := by
 obtain ⟨i, z, a, b, c, d, e, f, g⟩ := h.info
 refine ⟨i, z, a, fun w => by simp [typeInfo, a], b, c, d, fun w => by simp [sizeOf, typeInfo, a, b], fun w => by simp [zeroValue, typeInfo, a, d], fun ι => ?_, f, g⟩
 exact RelL.mono ⟨fun b e h => (by cases h), fun b e h => (by cases h)⟩ _ _ e
theorem TyOk.run_size {t : TypeId} {y : VTy} (h : TyOk P t y) (w : World) : (sizeOf t).run P w = .ok y.size w := by
 obtain ⟨i, z, _, _, _, _, _, a, _⟩ := h.run_info; exact a w
theorem TyOk.run_agg {t : TypeId} {y : VTy} (h : TyOk P t y) (w : World) : (isAgg t).run P w = .ok (Zk y.desc) w := by
 unfold isAgg
 simp only [Sem.run_bind, h.run_und, Result.andThen_ok]
 cases y.desc <;> rfl
def Ops (ι : Inj) (ρ : Operand → VVal) (ρ' : Operand → Value) (o : Op) : Prop := ∀ x, x ∈ o.operands → Rel ι (ρ x) (ρ' x)
theorem Za0 {ι : Inj} {v : VVal} {x : Value} {cs : List VVal} (h : Rel ι v x) (hc : v.cells = some cs) : RelL ι cs x.cells.toList := by
 cases v <;> simp only [VVal.cells, Option.some.injEq, reduceCtorEq] at hc
 case agg l => subst hc; simp only [Rel] at h; obtain ⟨cs', rfl, h⟩ := h; exact h
 all_goals subst hc
 case bool => simp only [Rel] at h; subst h; exact .one (by simp [Rel])
 case int => simp only [Rel] at h; subst h; exact .one (by simp [Rel])
 case str => simp only [Rel] at h; subst h; exact .one (by simp [Rel])
 case ptr a =>
  have : x.cells = #[x] := by
   cases a with
   | none => simp only [Rel] at h; subst h; rfl
   | some p => obtain ⟨b, off⟩ := p; simp only [Rel] at h; obtain ⟨e, _, rfl⟩ := h; rfl
  rw [this]; exact .one h
 case slice a l c ex es =>
  have : x.cells = #[x] := by
   cases a with
   | none =>
    simp only [Rel] at h; obtain ⟨_, _, h⟩ := h
    split at h
    ·subst h; rfl
    obtain ⟨_, _, rfl⟩ := h; rfl
   | some p => obtain ⟨b, off⟩ := p; simp only [Rel] at h; obtain ⟨e, _, _, _, _, _, rfl⟩ := h; rfl
  rw [this]; exact .one h
 case fsl fc fl fe fx =>
  have : x.cells = #[x] := by
   simp only [Rel] at h; obtain ⟨_, _, _, rfl, _⟩ := h; rfl
  rw [this]; exact .one h
 case fptr fc fo =>
  have : x.cells = #[x] := by
   simp only [Rel] at h; obtain ⟨_, _, _, _, rfl, _⟩ := h; rfl
  rw [this]; exact .one h
 case map r =>
  have : x.cells = #[x] := by
   cases r with
   | none => simp only [Rel] at h; subst h; rfl
   | some p => simp only [Rel] at h; obtain ⟨e, _, rfl⟩ := h; rfl
  rw [this]; exact .one h
 case func f a c =>
  have : x.cells = #[x] := by simp only [Rel] at h; obtain ⟨_, _, rfl, _⟩ := h; rfl
  rw [this]; exact .one h
 case yield l =>
  have : x.cells = #[x] := by simp only [Rel] at h; obtain ⟨_, _, rfl⟩ := h; rfl
  rw [this]; exact .one h
 case nilFunc => simp only [Rel] at h; subst h; exact .one (by simp [Rel])
 case iface t v =>
  have : x.cells = #[x] := by simp only [Rel] at h; obtain ⟨_, rfl, _⟩ := h; rfl
  rw [this]; exact .one h
 case nilIface => simp only [Rel] at h; subst h; exact .one (by simp [Rel])
theorem one_rel {ι : Inj} {v : VVal} {x : Value} (h : Rel ι v x) (ho : v.one = true) : x.oneCell' = true := by
 cases v <;> simp only [VVal.one, reduceCtorEq] at ho
 case ptr a => cases a with
  | none => simp only [Rel] at h; subst h; rfl
  | some p => obtain ⟨b, off⟩ := p; simp only [Rel] at h; obtain ⟨e, _, rfl⟩ := h; rfl
 case slice a l c ex es => cases a with
  | none =>
   simp only [Rel] at h; obtain ⟨_, _, h⟩ := h
   split at h
   ·subst h; rfl
   obtain ⟨_, _, rfl⟩ := h; rfl
  | some p => obtain ⟨b, off⟩ := p; simp only [Rel] at h; obtain ⟨e, _, _, _, _, _, rfl⟩ := h; rfl
 case fsl => simp only [Rel] at h; obtain ⟨_, _, _, rfl, _⟩ := h; rfl
 case fptr => simp only [Rel] at h; obtain ⟨_, _, _, _, rfl, _⟩ := h; rfl
 case map r => cases r with
  | none => simp only [Rel] at h; subst h; rfl
  | some p => simp only [Rel] at h; obtain ⟨e, _, rfl⟩ := h; rfl
 case func => simp only [Rel] at h; obtain ⟨_, _, rfl, _⟩ := h; rfl
 case yield => simp only [Rel] at h; obtain ⟨_, _, rfl⟩ := h; rfl
 case iface => simp only [Rel] at h; obtain ⟨_, rfl, _⟩ := h; rfl
 all_goals (simp only [Rel] at h; subst h; rfl)
theorem Yi {ι : Inj} {cs l : List VVal} {cs' : List Value} {off n : Nat} (h : RelL ι cs cs') (hc : Zo cs off n = some l) :
  RelL ι l ((cs'.drop off).take n) ∧ l.length = n ∧ off + n ≤ cs.length := by
 unfold Zo at hc
 split at hc
 ·cases hc
  refine ⟨(h.drop off).take n, by simp; omega, ‹_›⟩
 cases hc
theorem Sim.cell {w0 w : World} {ι : Inj} {H : Ze} (s : Sim w0 ι H w) {b : Nat} {e : Ent} {cs : List VVal} {rw : Bool} (h : ι b = some e) (g : H[b]? = some (.cells cs rw)) {i : Nat} {v : VVal} (hv : cs[i]? = some v) :
  ∃ x, w.cell? ⟨e.r, e.sh + i, none⟩ = some x ∧ Rel ι v x := by
 obtain ⟨arr, t, fr, cs', ha, hr, hc, _⟩ := s.blk b e _ h g
 obtain ⟨x, hx, rx⟩ := hr.get i v hv
 refine ⟨x, ?_, rx⟩
 simp [World.cell?, ha, hc i x hx]
theorem Sim.cells {w0 w : World} {ι : Inj} {H : Ze} (s : Sim w0 ι H w) {b : Nat} {e : Ent} {cs : List VVal} {rw : Bool} (h : ι b = some e) (g : H[b]? = some (.cells cs rw)) {off n : Nat} {l : List VVal} (hv : Zo cs off n = some l) :
  ∃ xs : List Value, RelL ι l xs ∧ xs.length = n ∧ (∀ j v, xs[j]? = some v → w.cell? ((⟨e.r, e.sh + off, none⟩ : Addr).add j) = some v) := by
 obtain ⟨arr, t, fr, cs', ha, hr, hc, _⟩ := s.blk b e _ h g
 obtain ⟨h1, h2, h3⟩ := Yi hr hv
 have hl : ((cs'.drop off).take n).length = n := by rw [← h1.length]; exact h2
 refine ⟨_, h1, hl, fun j v hj => ?_⟩
 have hjn : j < n := by have := (List.getElem?_eq_some_iff.1 hj).1; omega
 rw [List.getElem?_take, if_pos hjn, List.getElem?_drop] at hj
 rw [Addr.add_lit]
 have := hc _ _ hj
 simp only [World.cell?, ha]
 rw [Nat.add_assoc]
 simpa using this
theorem Sim.loadCells {w0 w : World} {ι : Inj} {H : Ze} (s : Sim w0 ι H w) {b : Nat} {e : Ent} {cs : List VVal} {rw : Bool} (h : ι b = some e) (g : H[b]? = some (.cells cs rw)) {off n : Nat} {l : List VVal} (hv : Zo cs off n = some l) :
  ∃ xs : List Value, RelL ι l xs ∧ xs.length = n ∧ (loadCells ⟨e.r, e.sh + off, none⟩ n).run P w = .ok xs.toArray w := by
 obtain ⟨xs, a, b, c⟩ := s.cells h g hv
 refine ⟨xs, a, b, ?_⟩
 have := run_loadCells_list (P := P) w _ xs c
 rw [b] at this
 exact this
theorem Jq {w0 w : World} {ι : Inj} {H : Ze} (s : Sim w0 ι H w) {r sh : Nat} {arr : Array Value} {cs l : List VVal} {xs : List Value} (h1 : ι.z r = some arr) (h2 : RelL ι cs xs) (h3 : ∀ (i : Nat) x, xs[i]? = some x → arr[sh + i]? = some x) {off n : Nat} (hv : Zo cs off n = some l) :
  ∃ ys : List Value, RelL ι l ys ∧ ys.length = n ∧ (∀ j v, ys[j]? = some v → arr[sh + off + j]? = some v ∧ w.cell? ((⟨r, sh + off, none⟩ : Addr).add j) = some v) := by
 obtain ⟨t, fr, ha, _⟩ := s.frz.fz r arr h1
 obtain ⟨p1, p2, p3⟩ := Yi h2 hv
 have hl : ((xs.drop off).take n).length = n := by rw [← p1.length]; exact p2
 refine ⟨_, p1, hl, fun j v hj => ?_⟩
 have hjn : j < n := by have := (List.getElem?_eq_some_iff.1 hj).1; omega
 rw [List.getElem?_take, if_pos hjn, List.getElem?_drop] at hj
 rw [Addr.add_lit]
 have := h3 _ _ hj
 simp only [World.cell?, ha]
 rw [Nat.add_assoc]
 exact ⟨this, by simpa using this⟩
theorem Qi (op : BinOp) (k : IntKind) (x y : Int) (w : World) (ho : op = .and ∨ op = .or ∨ op = .xor ∨ op = .andNot) : (Op.intBits op k x y).run P w = .ok (.int k (QU op k x y)) w := by
 rcases ho with rfl | rfl | rfl | rfl <;> rfl
def VVal.val : VVal → Value
 | .bool b => .bool b
 | .int k n => .int k n
 | .str s => .string s
 | _ => .nilFunc
def VVal.plain : VVal → Bool
 | .bool _ | .int _ _ | .str _ => true
 | _ => false
theorem VVal.rel_val {v : VVal} (h : v.plain = true) (ι : Inj) : Rel ι v v.val := by
 cases v <;> simp [VVal.plain] at h <;> simp [Rel, VVal.val]
theorem vint_run {op : BinOp} {k : IntKind} {x y : Int} {v : VVal} (t : TypeId) (w : World) (h : vint op k x y = some v) (h1 : op ≠ .shl) (h2 : op ≠ .shr) :
  (binOp op t (.int k x) (.int k y)).run P w = .ok v.val w ∧ v.plain = true := by
 cases op <;> simp only [vint, Option.some.injEq, reduceCtorEq] at h
 case quo =>
  split at h
  ·cases h
  cases h; exact ⟨by simp [binOp, Op.intDiv, *, VVal.val], rfl⟩
 case rem =>
  split at h
  ·cases h
  cases h; exact ⟨by simp [binOp, Op.intDiv, *, VVal.val], rfl⟩
 case and => subst h; exact ⟨by simp only [binOp]; rw [if_neg (by simp)]; exact Qi _ _ _ _ _ (by simp), rfl⟩
 case or => subst h; exact ⟨by simp only [binOp]; rw [if_neg (by simp)]; exact Qi _ _ _ _ _ (by simp), rfl⟩
 case xor => subst h; exact ⟨by simp only [binOp]; rw [if_neg (by simp)]; exact Qi _ _ _ _ _ (by simp), rfl⟩
 case andNot => subst h; exact ⟨by simp only [binOp]; rw [if_neg (by simp)]; exact Qi _ _ _ _ _ (by simp), rfl⟩
 all_goals subst h
 all_goals exact ⟨by simp [binOp, Op.intArith, Op.intCmp, VVal.val], rfl⟩
theorem ZbQ {op : BinOp} {k k' : IntKind} {x y : Int} {v : VVal} (t : TypeId) (w : World) (h : J8 op k x y = some v) (ho : op = .shl ∨ op = .shr) :
  (binOp op t (.int k x) (.int k' y)).run P w = .ok v.val w ∧ v.plain = true := by
 unfold J8 at h
 split at h
 ·cases h
 rename_i hy
 rcases ho with rfl | rfl <;> simp only [Option.some.injEq] at h <;> subst h <;> exact ⟨by simp [binOp, Op.shift, hy, VVal.val], rfl⟩
theorem vstr_run {op : BinOp} {x y : ByteArray} {v : VVal} (t : TypeId) (w : World) (h : vstr op x y = some v) :
  (binOp op t (.string x) (.string y)).run P w = .ok v.val w ∧ v.plain = true := by
 cases op <;> simp only [vstr, Option.some.injEq, reduceCtorEq] at h
 case add =>
  split at h
  ·cases h
   refine ⟨?_, rfl⟩
   have : ¬ (IntKind.max .i64 < (x.size : Int) + (y.size : Int)) := by
    show ¬ ((2 : Int) ^ 63 - 1 < _)
    omega
   simp only [binOp, Op.stringOp]
   rw [if_neg (by simpa using this)]
   rfl
  cases h
 all_goals subst h
 all_goals exact ⟨by simp [binOp, Op.stringOp, VVal.val], rfl⟩
theorem Zcl {ι ι' : Inj} : ∀ {xs ys : List VVal} {r : Bool} {xs' ys' : List Value}, YP xs ys = some r → RelL ι xs xs' → RelL ι ys ys' → RelL ι' xs xs' ∧ RelL ι' ys ys'
 | [], [], _, _, _, _, h1, h2 => by simp only [RelL] at h1 h2; subst h1; subst h2; exact ⟨.nil, .nil⟩
 | [], _ :: _, _, _, _, h, _, _ => by simp [YP] at h
 | x :: xs, [], _, _, _, h, _, _ => by cases x <;> simp [YP] at h
 | x :: xs, y :: ys, r, xs', ys', h, h1, h2 => by
  simp only [RelL] at h1 h2
  obtain ⟨x', xt, rfl, rx, rxs⟩ := h1
  obtain ⟨y', yt, rfl, ry, rys⟩ := h2
  cases x <;> cases y <;> simp only [YP, reduceCtorEq] at h
  split at h
  ·simp only [Option.map_eq_some_iff] at h
   obtain ⟨q, hq, _⟩ := h
   obtain ⟨a, b⟩ := Zcl (ι' := ι') hq rxs rys
   simp only [Rel] at rx ry; subst rx; subst ry
   exact ⟨.cons (by simp [Rel]) a, .cons (by simp [Rel]) b⟩
  cases h
def eqKind : Value → Bool
 | .pointer _ | .slice .. | .map _ | .func .. | .nilFunc | .bool _ => true
 | _ => false
theorem eqGuard_kind {op : BinOp} {t : TypeId} {o1 o2 : Operand} {x y : Value} (h : eqKind x = true) : eqGuard op t o1 o2 x y = pure () := by
 cases x <;> simp [eqKind] at h <;> cases op <;> rfl
theorem YC {t : TypeId} {x y : Value} {b : Bool} {w : World} (hk : eqKind x = true) (h : (Op.equal t x y).run P w = .ok b w) :
  (Op.equal t x y).run P w = .ok b w ∧ (∀ op o1 o2, (eqGuard op t o1 o2 x y).run P w = .ok () w) ∧ (∀ k n, x ≠ .int k n) ∧ (∀ s, x ≠ .string s) ∧ (∀ k n, x ≠ .float k n) ∧ (∀ k n m, x ≠ .complex k n m) := by
 refine ⟨h, fun op o1 o2 => by rw [eqGuard_kind hk]; rfl, ?_, ?_, ?_, ?_⟩ <;> intros <;> rintro rfl <;> simp [eqKind] at hk
theorem aggPack {t : TypeId} {xs ys : Array Value} {b : Bool} {w : World} (hg : P.eqGuardType P.depth t = false) (h : (Op.equal t (.agg xs) (.agg ys)).run P w = .ok b w) :
  (Op.equal t (.agg xs) (.agg ys)).run P w = .ok b w ∧ (∀ op o1 o2, (eqGuard op t o1 o2 (.agg xs) (.agg ys)).run P w = .ok () w) ∧ (∀ k n, Value.agg xs ≠ .int k n) ∧ (∀ s, Value.agg xs ≠ .string s) ∧ (∀ k n, Value.agg xs ≠ .float k n) ∧ (∀ k n m, Value.agg xs ≠ .complex k n m) := by
 refine ⟨h, fun op o1 o2 => ?_, by simp, by simp, by simp, by simp⟩
 cases op <;> simp [eqGuard, hg]
theorem eqIn_bool {t : TypeId} (a b : Bool) (hu : P.underlying t = some (.bool)) (w : World) : (Op.equal t (.bool a) (.bool b)).run P w = .ok (a == b) w := by
 have h : ∀ d, (Op.equalIn (d + 1) t (.bool a) (.bool b)).run P w = .ok (a == b) w := fun d => by
  unfold Op.equalIn
  simp [run_underlying hu]
 exact h 9999
theorem eqIn_ptr1 {t : TypeId} (e : TypeId) (b : Option Addr) (hu : P.underlying t = some (.pointer e)) (w : World) : (Op.equal t (.pointer none) (.pointer b)).run P w = .ok (b.isNone) w := by
 have h : ∀ d, (Op.equalIn (d + 1) t (.pointer none) (.pointer b)).run P w = .ok (b.isNone) w := fun d => by
  unfold Op.equalIn
  simp [run_underlying hu]
 exact h 9999
theorem eqIn_ptr2 {t : TypeId} (e : TypeId) (b : Addr) (hu : P.underlying t = some (.pointer e)) (w : World) : (Op.equal t (.pointer (some b)) (.pointer none)).run P w = .ok (false) w := by
 have h : ∀ d, (Op.equalIn (d + 1) t (.pointer (some b)) (.pointer none)).run P w = .ok (false) w := fun d => by
  unfold Op.equalIn
  simp [run_underlying hu]
 exact h 9999
theorem eqIn_sl1 {t : TypeId} (e : TypeId) (l c l' c' : Nat) (b : Option Addr) (hu : P.underlying t = some (.slice e)) (w : World) : (Op.equal t (.slice none l c) (.slice b l' c')).run P w = .ok (b.isNone) w := by
 have h : ∀ d, (Op.equalIn (d + 1) t (.slice none l c) (.slice b l' c')).run P w = .ok (b.isNone) w := fun d => by
  unfold Op.equalIn
  simp [run_underlying hu]
 exact h 9999
theorem eqIn_sl2 {t : TypeId} (e : TypeId) (l c l' c' : Nat) (b : Addr) (hu : P.underlying t = some (.slice e)) (w : World) : (Op.equal t (.slice (some b) l c) (.slice none l' c')).run P w = .ok (false) w := by
 have h : ∀ d, (Op.equalIn (d + 1) t (.slice (some b) l c) (.slice none l' c')).run P w = .ok (false) w := fun d => by
  unfold Op.equalIn
  simp [run_underlying hu]
 exact h 9999
theorem eqIn_map1 {t : TypeId} (k e : TypeId) (b : Option Nat) (hu : P.underlying t = some (.map k e)) (w : World) : (Op.equal t (.map none) (.map b)).run P w = .ok (b.isNone) w := by
 have h : ∀ d, (Op.equalIn (d + 1) t (.map none) (.map b)).run P w = .ok (b.isNone) w := fun d => by
  unfold Op.equalIn
  simp [run_underlying hu]
 exact h 9999
theorem eqIn_map2 {t : TypeId} (k e : TypeId) (b : Nat) (hu : P.underlying t = some (.map k e)) (w : World) : (Op.equal t (.map (some b)) (.map none)).run P w = .ok (false) w := by
 have h : ∀ d, (Op.equalIn (d + 1) t (.map (some b)) (.map none)).run P w = .ok (false) w := fun d => by
  unfold Op.equalIn
  simp [run_underlying hu]
 exact h 9999
theorem eqIn_fn0 {t : TypeId} (p q : Array TypeId) (v : Bool) (hu : P.underlying t = some (.func p q v)) (w : World) : (Op.equal t .nilFunc .nilFunc).run P w = .ok (true) w := by
 have h : ∀ d, (Op.equalIn (d + 1) t .nilFunc .nilFunc).run P w = .ok (true) w := fun d => by
  unfold Op.equalIn
  simp [run_underlying hu]
 exact h 9999
theorem eqIn_fn1 {t : TypeId} (p q : Array TypeId) (v : Bool) (f : Fn) (a c : Array Value) (hu : P.underlying t = some (.func p q v)) (w : World) : (Op.equal t .nilFunc (.func f a c)).run P w = .ok (false) w := by
 have h : ∀ d, (Op.equalIn (d + 1) t .nilFunc (.func f a c)).run P w = .ok (false) w := fun d => by
  unfold Op.equalIn
  simp [run_underlying hu]
 exact h 9999
theorem eqIn_fn2 {t : TypeId} (p q : Array TypeId) (v : Bool) (f : Fn) (a c : Array Value) (hu : P.underlying t = some (.func p q v)) (w : World) : (Op.equal t (.func f a c) .nilFunc).run P w = .ok (false) w := by
 have h : ∀ d, (Op.equalIn (d + 1) t (.func f a c) .nilFunc).run P w = .ok (false) w := fun d => by
  unfold Op.equalIn
  simp [run_underlying hu]
 exact h 9999
theorem veq_run (hT : TOk P T) {t : TypeId} {x y : VVal} {x' y' : Value} {b : Bool} {ι : Inj} (w : World) (hx : Rel ι x x') (hy : Rel ι y y') (h : veq T t x y = some b) :
  (Op.equal t x' y').run P w = .ok b w ∧ (∀ op o1 o2, (eqGuard op t o1 o2 x' y').run P w = .ok () w) ∧ (∀ k n, x' ≠ .int k n) ∧ (∀ s, x' ≠ .string s) ∧ (∀ k n, x' ≠ .float k n) ∧ (∀ k n m, x' ≠ .complex k n m) := by
 unfold veq at h
 split at h
 ·cases h
 rename_i i hi
 have ht := hT t i hi
 have hu := ht.und
 split at h <;> rename_i hd <;> (try rw [hd] at hu)
 ·simp only [Rel] at hx hy; subst hx; subst hy; cases h
  exact YC rfl (eqIn_bool _ _ hu w)
 ·simp only [Rel] at hx; subst hx
  rename_i bb
  cases bb with
  | none =>
   simp only [Rel] at hy; subst hy; cases h
   exact YC rfl XH2
  | some p =>
   obtain ⟨b0, off⟩ := p
   simp only [Rel] at hy; obtain ⟨e, _, rfl⟩ := hy; cases h
   exact YC rfl XH2
 ·rename_i p
  obtain ⟨b0, off⟩ := p
  simp only [Rel] at hx hy; subst hy; obtain ⟨e, _, rfl⟩ := hx; cases h
  exact YC rfl XH2
 ·simp only [Rel, if_true] at hx hy
  obtain ⟨_, _, hx⟩ := hx
  obtain ⟨_, _, rfl⟩ := hy
  cases h
  cases b
  ·simp only [if_false, Bool.false_eq_true] at hx
   obtain ⟨a, c, rfl⟩ := hx
   exact YC rfl XH2
  simp only [if_true] at hx
  subst hx
  exact YC rfl XH2
 ·simp only [Rel, if_true, if_false, Bool.false_eq_true] at hx hy
  obtain ⟨_, _, rfl⟩ := hx
  obtain ⟨_, _, a, c, rfl⟩ := hy
  cases h
  exact YC rfl XH2
 ·rename_i p _ _ _ _
  obtain ⟨b0, off⟩ := p
  simp only [Rel, if_true] at hx hy
  obtain ⟨_, _, rfl⟩ := hx
  obtain ⟨e, c, _, _, _, _, rfl⟩ := hy
  cases h
  exact YC rfl XH2
 ·rename_i p _ _ _ _ _ _ _
  obtain ⟨b0, off⟩ := p
  simp only [Rel, if_true] at hx hy
  obtain ⟨_, _, rfl⟩ := hy
  obtain ⟨e, c, _, _, _, _, rfl⟩ := hx
  cases h
  exact YC rfl XH2
 ·simp only [Rel, if_true] at hx hy
  obtain ⟨_, _, rfl⟩ := hx
  obtain ⟨a, c, xs, rfl, _, _, _, _, hh⟩ := hy
  split at h
  ·cases h
  rename_i hl
  cases h
  rcases hh with hh | ⟨r, off, arr, rfl, _⟩
  ·exact absurd hh hl
  exact YC rfl (eqIn_sl1 _ _ _ _ _ _ hu w)
 ·simp only [Rel, if_true] at hx hy
  obtain ⟨_, _, rfl⟩ := hy
  obtain ⟨a, c, xs, rfl, _, _, _, _, hh⟩ := hx
  split at h
  ·cases h
  rename_i hl
  cases h
  rcases hh with hh | ⟨r, off, arr, rfl, _⟩
  ·exact absurd hh hl
  exact YC rfl (eqIn_sl2 _ _ _ _ _ _ hu w)
 ·simp only [Rel] at hx hy
  subst hx
  obtain ⟨_, _, _, _, rfl, _⟩ := hy
  cases h
  exact YC rfl (eqIn_ptr1 _ _ hu w)
 ·simp only [Rel] at hx hy
  subst hy
  obtain ⟨_, _, _, _, rfl, _⟩ := hx
  cases h
  exact YC rfl (eqIn_ptr2 _ _ hu w)
 ·simp only [Rel] at hx; subst hx
  rename_i bb
  cases bb with
  | none =>
   simp only [Rel] at hy; subst hy; cases h
   exact YC rfl XH2
  | some p =>
   simp only [Rel] at hy; obtain ⟨e, _, rfl⟩ := hy; cases h
   exact YC rfl XH2
 ·simp only [Rel] at hx hy; subst hy; obtain ⟨e, _, rfl⟩ := hx; cases h
  exact YC rfl XH2
 ·simp only [Rel] at hx hy; subst hy; subst hx; cases h
  exact YC rfl XH2
 ·simp only [Rel] at hx hy; subst hx; obtain ⟨a', c', rfl, _⟩ := hy; cases h
  exact YC rfl XH2
 ·simp only [Rel] at hx hy; subst hy; obtain ⟨a', c', rfl, _⟩ := hx; cases h
  exact YC rfl XH2
 ·simp only [Rel] at hx hy; subst hx; obtain ⟨e, _, rfl⟩ := hy; cases h
  exact YC rfl XH2
 ·simp only [Rel] at hx hy; subst hy; obtain ⟨e, _, rfl⟩ := hx; cases h
  exact YC rfl XH2
 ·split at h
  ·rename_i hc
   simp only [Rel] at hx hy
   obtain ⟨xs', rfl, rx⟩ := hx
   obtain ⟨ys', rfl, ry⟩ := hy
   obtain ⟨p, q⟩ := Zcl (ι' := Inj.zero) h rx ry
   exact aggPack (ht.flat hc.1).1 ((ht.flat hc.1).2 w _ _ _ _ _ p q hc.2.1 hc.2.2 h)
  cases h
 ·split at h
  ·rename_i hc
   simp only [Rel] at hx hy
   obtain ⟨xs', rfl, rx⟩ := hx
   obtain ⟨ys', rfl, ry⟩ := hy
   obtain ⟨p, q⟩ := Zcl (ι' := Inj.zero) h rx ry
   exact aggPack (ht.flat hc.1).1 ((ht.flat hc.1).2 w _ _ _ _ _ p q hc.2.1 hc.2.2 h)
  cases h
 cases h
theorem vbin_run (hT : TOk P T) {op : BinOp} {t : TypeId} {x y v : VVal} {x' y' : Value} {ι : Inj} (w : World) (o1 o2 : Operand) (hx : Rel ι x x') (hy : Rel ι y y') (h : Zar T op t x y = some v) :
  (do eqGuard op t o1 o2 x' y'; binOp op t x' y' : Sem Value).run P w = .ok v.val w ∧ v.plain = true := by
 unfold Zar at h
 split at h
 ·simp only [Rel] at hx hy; subst hx; subst hy
  rename_i k a k' b
  have hg : (eqGuard op t o1 o2 (.int k a) (.int k' b)) = pure () := by cases op <;> rfl
  simp only [hg, pure_bind]
  split at h
  ·exact ZbQ t w h (.inl rfl)
  ·exact ZbQ t w h (.inr rfl)
  split at h
  ·subst_vars; exact vint_run t w h ‹_› ‹_›
  cases h
 ·simp only [Rel] at hx hy; subst hx; subst hy
  rename_i a b
  have hg : (eqGuard op t o1 o2 (.string a) (.string b)) = pure () := by cases op <;> rfl
  simp only [hg, pure_bind]
  exact vstr_run t w h
 split at h
 ·simp only [Option.map_eq_some_iff] at h
  obtain ⟨r, hr, rfl⟩ := h
  obtain ⟨e1, e2, e3, e4, e5, e6⟩ := veq_run hT w hx hy hr
  refine ⟨?_, rfl⟩
  simp only [Sem.run_bind, e2, Result.andThen_ok]
  have : binOp .eql t x' y' = (do pure (.bool (← Op.equal t x' y'))) := by
   unfold binOp
   split <;> simp_all
  simp [this, e1, VVal.val]
 ·simp only [Option.map_eq_some_iff] at h
  obtain ⟨r, hr, rfl⟩ := h
  obtain ⟨e1, e2, e3, e4, e5, e6⟩ := veq_run hT w hx hy hr
  refine ⟨?_, rfl⟩
  simp only [Sem.run_bind, e2, Result.andThen_ok]
  have : binOp .neq t x' y' = (do pure (.bool (!(← Op.equal t x' y')))) := by
   unfold binOp
   split <;> simp_all
  simp [this, e1, VVal.val]
 cases h
theorem ZbT {ι : Inj} {cs new : List VVal} {cs' new' : List Value} {off : Nat} (h : RelL ι cs cs') (k : RelL ι new new') : RelL ι (Zx cs off new) (cs'.take off ++ new' ++ cs'.drop (off + new'.length)) := by
 unfold Zx
 rw [← k.length]
 exact (((h.take off).append k).append (h.drop _))
theorem foldl_set_eq (cells : Array Value) (off : Nat) (vs : List Value) : ∀ (j : Nat), off + j + vs.length ≤ cells.size →
  ((vs.zipIdx j).foldl (fun cs (c, j) => cs.setIfInBounds (off + j) c) cells).toList = cells.toList.take (off + j) ++ vs ++ cells.toList.drop (off + j + vs.length) := by
 induction vs generalizing cells with
 | nil => intro j _; simp
 | cons v vs ih =>
  intro j hj
  simp only [List.zipIdx_cons, List.foldl_cons]
  have hs : off + j < cells.size := by simp at hj; omega
  rw [ih _ (j + 1) (by simp at hj ⊢; omega)]
  simp only [Array.toList_setIfInBounds, List.length_cons]
  have hl : off + j < cells.toList.length := by simpa using hs
  rw [show off + (j + 1) = off + j + 1 from by omega]
  rw [List.take_set, List.drop_set_of_lt (by omega)]
  have h1 : (cells.toList.take (off + j + 1)).set (off + j) v = cells.toList.take (off + j) ++ [v] := by
   rw [List.take_succ_eq_append_getElem hl]
   rw [List.set_append_right _ _ (by simp; omega)]
   have hm : off + j - min (off + j) cells.size = 0 := by omega
   simp [hm]
  rw [h1]
  simp [Nat.add_assoc, Nat.add_comm 1]
theorem Jl {ι : Inj} {place : Nat → Option (Nat × Nat)} {place' : Nat → Option (Nat × Nat)} (hp : ∀ i p, place i = some p → place' i = some p) :
  ∀ {parts : List (Nat × VVal)} {parts' : List (Nat × Value)} {cells l : List VVal} {cells' : Array Value}, QT place cells parts = some l → RelL ι cells cells'.toList →
   parts.map (·.1) = parts'.map (·.1) → RelL ι (parts.map (·.2)) (parts'.map (·.2)) → ∃ l', Instr.fill place' cells' parts' = some l' ∧ RelL ι l l'.toList
 | [], parts', cells, l, cells', h, hc, h1, h2 => by
  have : parts' = [] := by simpa using h1.symm
  subst this
  simp only [QT, Option.some.injEq] at h; subst h
  exact ⟨cells', rfl, hc⟩
 | (i, v) :: rest, parts', cells, l, cells', h, hc, h1, h2 => by
  cases parts' with
  | nil => simp at h1
  | cons p rest' =>
   obtain ⟨i', v'⟩ := p
   simp only [List.map_cons, List.cons.injEq] at h1
   obtain ⟨rfl, h1⟩ := h1
   simp only [List.map_cons, RelL] at h2
   obtain ⟨y, ys, he, rv, rs⟩ := h2
   simp only [List.cons.injEq] at he
   obtain ⟨rfl, rfl⟩ := he
   simp only [QT] at h
   split at h
   ·rename_i off size cs hpl hcs
    split at h
    ·rename_i hcond
     have rc := Za0 rv hcs
     have hcl : cs.length = v'.cells.size := by rw [rc.length]; simp
     have hlen := hc.length
     have hsz : cells.length = cells'.size := by rw [hlen]; simp
     have hf := foldl_set_eq cells' off v'.cells.toList 0 (by simp; omega)
     have hrel : RelL ι (Zx cells off cs) ((v'.cells.zipIdx.foldl (fun cs (c, j) => cs.setIfInBounds (off + j) c) cells')).toList := by
      rw [← Array.foldl_toList, Array.toList_zipIdx]
      rw [hf]
      exact ZbT hc rc
     obtain ⟨l', hl', rl'⟩ := Jl hp h hrel h1 rs
     refine ⟨l', ?_, rl'⟩
     simp only [Instr.fill, hp _ _ hpl]
     rw [if_neg (by simp; omega)]
     exact hl'
    cases h
   cases h
theorem Zc4 {ι : Inj} {ρ : Operand → VVal} {ρ' : Operand → Value} (parts : Array (Nat × Operand)) (h : ∀ x, x ∈ parts.toList.map (·.2) → Rel ι (ρ x) (ρ' x)) :
  (parts.toList.map fun p => (p.1, ρ p.2)).map (·.1) = ((parts.map fun (i, x) => (i, ρ' x)).toList).map (·.1) ∧
  RelL ι ((parts.toList.map fun p => (p.1, ρ p.2)).map (·.2)) (((parts.map fun (i, x) => (i, ρ' x)).toList).map (·.2)) := by
 constructor
 ·simp
 have := RelL.map (ι := ι) (fun p : Nat × Operand => ρ p.2) (fun p => ρ' p.2) parts.toList (fun p hp => h p.2 (List.mem_map.2 ⟨p, hp, rfl⟩))
 simpa [Function.comp_def] using this
theorem Za9 (hT : TOk P T) : ∀ (fs : List Field) (l : List (Nat × Nat)) (w : World), ZaF T fs = some l → (fs.mapM fun f => Prod.mk f.offset <$> sizeOf f.type).run P w = .ok l w
 | [], l, w, h => by simp only [ZaF, Option.some.injEq] at h; subst h; rfl
 | f :: fs, l, w, h => by
  simp only [ZaF] at h
  split at h
  ·rename_i z l' hz hl
   cases h
   have := Za9 hT fs l' w hl
   simp [List.mapM_cons, (hT _ _ hz).run_size, this]
  cases h
theorem zero_agg {t : TypeId} {y : VTy} (h : TyOk P t y) (ha : Zk y.desc = true) : ∃ cs, (∀ w : World, (zeroValue t).run P w = .ok (.agg cs) w) ∧ ∀ ι, RelL ι y.zero cs.toList := by
 obtain ⟨i, z, _, _, _, _, _, _, e, f, g, _⟩ := h.run_info
 obtain ⟨cs, rfl⟩ := g ha
 exact ⟨cs, e, f⟩
theorem vbuild_run (hT : TOk P T) {t : TypeId} {parts : List (Nat × VVal)} {parts' : Array (Nat × Value)} {v : VVal} {ι : Inj} (w : World) (h : vbuild T t parts = some v)
  (h1 : parts.map (·.1) = parts'.toList.map (·.1)) (h2 : RelL ι (parts.map (·.2)) (parts'.toList.map (·.2))) : ∃ x, (Instr.build t parts').run P w = .ok x w ∧ Rel ι v x := by
 unfold vbuild at h
 split at h
 ·rename_i y hy
  have ht := hT t y hy
  split at h
  ·rename_i fields hd
   obtain ⟨cs, hz, rz⟩ := zero_agg ht (by rw [hd]; rfl)
   split at h
   ·rename_i l hl
    simp only [Option.map_eq_some_iff] at h
    obtain ⟨cells, hf, rfl⟩ := h
    have hu := ht.run_und; rw [hd] at hu
    have hpl := fun w => Za9 hT fields.toList l w hl
    obtain ⟨l', hl', rl'⟩ := Jl (place' := fun i => l.toArray[i]?) (fun i p hp => by simpa using hp) hf (rz ι) h1 h2
    refine ⟨.agg l', ?_, by simp only [Rel]; exact ⟨l', rfl, rl'⟩⟩
    simp [Instr.build, hu, hz, Value.cells, Array.mapM_eq_mapM_toList, hpl]
    simp at hl'
    simp [hl']
   cases h
  ·rename_i n elem hd
   obtain ⟨cs, hz, rz⟩ := zero_agg ht (by rw [hd]; rfl)
   split at h
   ·rename_i z hz'
    simp only [Option.map_eq_some_iff] at h
    obtain ⟨cells, hf, rfl⟩ := h
    have hu := ht.run_und; rw [hd] at hu
    obtain ⟨l', hl', rl'⟩ := Jl (place' := fun i => some (i * z.size, z.size)) (fun i p hp => hp) hf (rz ι) h1 h2
    refine ⟨.agg l', ?_, by simp only [Rel]; exact ⟨l', rfl, rl'⟩⟩
    simp [Instr.build, hu, hz, Value.cells, (hT _ _ hz').run_size, hl']
   cases h
  cases h
 cases h
theorem ZcU (hT : TOk P T) {t : TypeId} {cs : List VVal} {cs' : Array Value} {off : Nat} {v : VVal} {ι : Inj} (w : World) (h : vpart T t cs off = some v) (hc : RelL ι cs cs'.toList) :
  ∃ x, (part t cs' off).run P w = .ok x w ∧ Rel ι v x := by
 unfold vpart at h
 split at h
 ·rename_i y hy
  have ht := hT t y hy
  split at h
  ·rename_i ha
   simp only [Option.map_eq_some_iff] at h
   obtain ⟨l, hl, rfl⟩ := h
   obtain ⟨r, h1, h2⟩ := Yi hc hl
   refine ⟨.agg (cs'.extract off (off + y.size)), by simp [part, ht.run_agg, ha, ht.run_size], ?_⟩
   simp only [Rel]
   refine ⟨_, rfl, ?_⟩
   have : (cs'.extract off (off + y.size)).toList = (cs'.toList.drop off).take y.size := by
    rw [Array.toList_extract]; simp [List.extract_eq_take_drop]
   rw [this]; exact r
  rename_i ha
  obtain ⟨x, hx, rx⟩ := hc.get _ _ h
  have hx' : cs'[off]? = some x := by simpa using hx
  exact ⟨x, by simp [part, ht.run_agg, ha, hx'], rx⟩
 cases h
theorem Zdk {ι : Inj} {v : VVal} {k : IntKind} {n : Int} {x : Value} (h : Rel ι (.int k n) x) : x = .int k n := by simpa [Rel] using h
theorem ZbN (hT : TOk P T) {s : TypeId} {a v : VVal} {a' : Value} {f : Nat} {ι : Inj} (w : World) (h : JT T s a f = some v) (ha : Rel ι a a') :
  ∃ x, (Instr.fieldAt s a' f).run P w = .ok x w ∧ Rel ι v x := by
 unfold JT at h
 split at h
 ·rename_i y b off hy
  have ht := hT s y hy
  split at h
  ·rename_i fields hd
   have hu := ht.run_und; rw [hd] at hu
   split at h
   ·rename_i fd hfd
    split at h
    ·rename_i z hz
     split at h
     ·cases h
      simp only [Rel] at ha
      obtain ⟨e, he, rfl⟩ := ha
      refine ⟨.pointer (some ⟨e.r, e.sh + (off + fd.offset), none⟩), ?_, by simp only [Rel]; exact ⟨e, he, rfl⟩⟩
      simp [Instr.fieldAt, hu, hfd, Instr.sureAddr, fieldPlace, (hT _ _ hz).run_size, *, Addr.add_lit, Nat.add_assoc]
     cases h
    cases h
   cases h
  cases h
 ·rename_i y cs off hy
  have ht := hT s y hy
  split at h
  ·rename_i fields hd
   have hu := ht.run_und; rw [hd] at hu
   split at h
   ·rename_i fd hfd
    split at h
    ·rename_i z hz
     split at h
     ·cases h
      simp only [Rel] at ha
      obtain ⟨r, sh, arr, xs, rfl, h1, h2, h3⟩ := ha
      refine ⟨.pointer (some ⟨r, sh + (off + fd.offset), none⟩), ?_, by simp only [Rel]; exact ⟨r, sh, arr, xs, rfl, h1, h2, h3⟩⟩
      simp [Instr.fieldAt, hu, hfd, Instr.sureAddr, fieldPlace, (hT _ _ hz).run_size, *, Addr.add_lit, Nat.add_assoc]
     cases h
    cases h
   cases h
  cases h
 cases h
theorem vfield_run (hT : TOk P T) {t : TypeId} {x v : VVal} {x' : Value} {f : Nat} {ι : Inj} (w : World) (h : vfield T t x f = some v) (hx : Rel ι x x') :
  ∃ z, (Instr.field t x' f).run P w = .ok z w ∧ Rel ι v z := by
 unfold vfield at h
 split at h
 ·rename_i y cs hy
  have ht := hT t y hy
  split at h
  ·rename_i fields hd
   have hu := ht.run_und; rw [hd] at hu
   split at h
   ·rename_i fd hfd
    simp only [Rel] at hx
    obtain ⟨cs', rfl, hc⟩ := hx
    obtain ⟨z, hz, rz⟩ := ZcU hT w h hc
    exact ⟨z, by simp [Instr.field, hu, hfd, asAgg, hz], rz⟩
   cases h
  cases h
 cases h
theorem ZbM (hT : TOk P T) {t : TypeId} {x i v : VVal} {x' i' : Value} {ι : Inj} (w : World) (h : Y9 T t x i = some v) (hx : Rel ι x x') (hi : Rel ι i i') :
  ∃ z, (Instr.indexAt t x' i').run P w = .ok z w ∧ Rel ι v z := by
 unfold Y9 at h
 split at h
 ·rename_i y k n hy
  have ht := hT t y hy
  have hi' := Zdk (v := .undef) hi; subst hi'
  split at h
  ·rename_i len elem b off hd
   have hu := ht.und; rw [hd] at hu
   split at h
   ·rename_i z hz
    split at h
    ·rename_i hb
     cases h
     simp only [Rel] at hx
     obtain ⟨e, he, rfl⟩ := hx
     refine ⟨.pointer (some ⟨e.r, e.sh + (off + n.toNat * z.size), none⟩), ?_, by simp only [Rel]; exact ⟨e, he, rfl⟩⟩
     simp [Instr.indexAt, asIntOf, run_underlying hu, Instr.sureAddr, (hT _ _ hz).run_size, hb, Addr.add_lit, Nat.add_assoc]
    cases h
   cases h
  ·rename_i elem b off len cap ex es hd
   have hu := ht.und; rw [hd] at hu
   split at h
   ·rename_i z hz
    split at h
    ·rename_i hb
     cases h
     simp only [Rel] at hx
     obtain ⟨e, c, he, _, _, _, rfl⟩ := hx
     refine ⟨.pointer (some ⟨e.r, e.sh + (off + n.toNat * es), none⟩), ?_, by simp only [Rel]; exact ⟨e, he, rfl⟩⟩
     simp [Instr.indexAt, asIntOf, run_underlying hu, (hT _ _ hz).run_size, hb.2, hb.1, Addr.add_lit, Nat.add_assoc]
    cases h
   cases h
  ·rename_i len elem cs off hd
   have hu := ht.und; rw [hd] at hu
   split at h
   ·rename_i z hz
    split at h
    ·rename_i hb
     cases h
     simp only [Rel] at hx
     obtain ⟨r, sh, arr, xs, rfl, h1, h2, h3⟩ := hx
     refine ⟨.pointer (some ⟨r, sh + (off + n.toNat * z.size), none⟩), ?_, by simp only [Rel]; exact ⟨r, sh, arr, xs, rfl, h1, h2, h3⟩⟩
     simp [Instr.indexAt, asIntOf, run_underlying hu, Instr.sureAddr, (hT _ _ hz).run_size, hb, Addr.add_lit, Nat.add_assoc]
    cases h
   cases h
  ·rename_i elem cs len es ex hd
   have hu := ht.und; rw [hd] at hu
   split at h
   ·rename_i z hz
    split at h
    ·rename_i hb
     cases h
     simp only [Rel] at hx
     obtain ⟨a, c, xs, rfl, _, _, _, h2, hh⟩ := hx
     rcases hh with hh | ⟨r, off, arr, rfl, h1, h3⟩
     ·omega
     refine ⟨.pointer (some ⟨r, off + n.toNat * es, none⟩), ?_, by simp only [Rel]; exact ⟨r, off, arr, xs, rfl, h1, h2, h3⟩⟩
     simp [Instr.indexAt, asIntOf, run_underlying hu, (hT _ _ hz).run_size, hb.2, hb.1, Addr.add_lit, Nat.add_assoc]
    cases h
   cases h
  cases h
 cases h
theorem vindex_run (hT : TOk P T) {t : TypeId} {x i v : VVal} {x' i' : Value} {ι : Inj} (w : World) (h : vindex T t x i = some v) (hx : Rel ι x x') (hi : Rel ι i i') :
  ∃ z, (Instr.index t x' i').run P w = .ok z w ∧ Rel ι v z := by
 unfold vindex at h
 split at h
 ·rename_i y k n hy
  have ht := hT t y hy
  have hi' := Zdk (v := .undef) hi; subst hi'
  split at h
  ·rename_i len elem cs hd
   have hu := ht.und; rw [hd] at hu
   split at h
   ·rename_i z hz
    split at h
    ·rename_i hb
     simp only [Rel] at hx
     obtain ⟨cs', rfl, hc⟩ := hx
     obtain ⟨q, hq, rq⟩ := ZcU hT w h hc
     refine ⟨q, ?_, rq⟩
     simp [Instr.index, asIntOf, run_underlying hu, (hT _ _ hz).run_size, hb, hq]
    cases h
   cases h
  ·rename_i s hd
   have hu := ht.und; rw [hd] at hu
   split at h
   ·rename_i hb
    simp only [Option.map_eq_some_iff] at h
    obtain ⟨c, hc, rfl⟩ := h
    simp only [Rel] at hx; subst hx
    exact ⟨.int .u8 c.toNat, by simp [Instr.index, asIntOf, run_underlying hu, hb, hc], by simp [Rel]⟩
   cases h
  cases h
 cases h
end
open Go Go.RowKit
section
variable {P : Program} {T : TypeId → Option VTy}
theorem QX {k : IntKind} {n : Int} {y : Nat} {code : BoundsCode} (w : World) (h : 0 ≤ n ∧ n ≤ y) : (Instr.sliceBound (.int k n) y code).run P w = .ok n.toNat w := by
 simp [Instr.sliceBound, asIntOf, h.1, h.2]
theorem Q7 {v : Option VVal} {d y r : Nat} (h : (match v with | none => some d | some (.int _ i) => if 0 ≤ i ∧ i ≤ (y : Int) then some i.toNat else none | some _ => none) = some r) :
  (v = none ∧ r = d) ∨ ∃ k n, v = some (VVal.int k n) ∧ 0 ≤ n ∧ n ≤ (y : Int) ∧ r = n.toNat := by
 split at h
 ·cases h; exact .inl ⟨rfl, rfl⟩
 ·split at h
  ·rename_i k n hc; cases h; exact .inr ⟨k, n, rfl, hc.1, hc.2, rfl⟩
  cases h
 cases h
inductive ORel (ι : Inj) : Option VVal → Option Value → Prop
 | no : ORel ι none none
 | so {v : VVal} {x : Value} : Rel ι v x → ORel ι (some v) (some x)
theorem ORel.int {ι : Inj} {k : IntKind} {n : Int} {o : Option Value} (h : ORel ι (some (VVal.int k n)) o) : o = some (.int k n) := by
 cases h with
 | so r => simp only [Rel] at r; rw [r]
theorem ORel.nil {ι : Inj} {o : Option Value} (h : ORel ι none o) : o = none := by cases h; rfl
theorem Xp {ι : Inj} {isSlice : Bool} {len cap cap' : Nat} {lo hi mx : Option VVal} {lo' hi' mx' : Option Value} {l h m : Nat} (w : World)
  (hb : Yp len cap lo hi mx = some (l, h, m)) (r1 : ORel ι lo lo') (r2 : ORel ι hi hi') (r3 : ORel ι mx mx') (hc : cap ≤ cap') (hn : ¬ (mx.isSome = true ∧ hi.isNone = true)) (hl : len ≤ cap) :
  (Instr.sliceBounds isSlice len cap' lo' hi' mx').run P w = .ok (l, h, if mx.isSome = true then m else cap') w ∧ l ≤ h ∧ h ≤ m ∧ m ≤ cap ∧ (mx.isSome = false → m = cap) := by
 unfold Yp at hb
 simp only at hb
 split at hb
 ·cases hb
 rename_i m0 hm0
 split at hb
 ·cases hb
 rename_i h0 hh0
 split at hb
 ·cases hb
 rename_i l0 hl0
 simp only [Option.some.injEq, Prod.mk.injEq] at hb
 obtain ⟨rfl, rfl, rfl⟩ := hb
 rcases Q7 hm0 with ⟨rfl, rfl⟩ | ⟨k3, n3, rfl, a3, b3, rfl⟩ <;>
  rcases Q7 hh0 with ⟨rfl, rfl⟩ | ⟨k2, n2, rfl, a2, b2, rfl⟩ <;>
   rcases Q7 hl0 with ⟨rfl, rfl⟩ | ⟨k1, n1, rfl, a1, b1, rfl⟩ <;>
    (first | (have e3 := r3.nil; subst e3) | (have e3 := r3.int; subst e3)) <;>
    (first | (have e2 := r2.nil; subst e2) | (have e2 := r2.int; subst e2)) <;>
    (first | (have e1 := r1.nil; subst e1) | (have e1 := r1.int; subst e1))
 all_goals first
  | exact absurd ⟨rfl, rfl⟩ hn
  | (refine ⟨?_, by omega, by omega, by omega, by simp⟩
     cases isSlice <;> simp [Instr.sliceBounds, QX, *] <;>
     (repeat first | rw [QX w ⟨by omega, by omega⟩] | simp))
theorem vslice_run (hT : TOk P T) {ι : Inj} {t : TypeId} {x v : VVal} {x' : Value} {lo hi mx : Option VVal} {lo' hi' mx' : Option Value} (w : World)
  (h : Jw T t x lo hi mx = some v) (hx : Rel ι x x') (r1 : ORel ι lo lo') (r2 : ORel ι hi hi') (r3 : ORel ι mx mx') : ∃ z, (Instr.sliceAt t x' lo' hi' mx').run P w = .ok z w ∧ Rel ι v z := by
 unfold Jw at h
 split at h
 ·cases h
 rename_i y hy
 have ht := hT t y hy
 split at h
 ·rename_i s hd
  have hu := ht.und; rw [hd] at hu
  simp only [Rel] at hx; subst hx
  split at h
  ·rename_i l hh m hb
   cases h
   obtain ⟨a, _⟩ := Xp (P := P) (isSlice := false) (cap' := s.size) w hb r1 r2 .no (Nat.le_refl _) (by simp) (Nat.le_refl _)
   have e3 := r3.nil; subst e3
   refine ⟨.string (s.extract l hh), ?_, by simp [Rel]⟩
   simp [Instr.sliceAt, Instr.slice, run_underlying hu, a]
  cases h
 ·rename_i e a len cap ex es hd
  have hu := ht.und; rw [hd] at hu
  split at h
  ·rename_i z l hh m hz hb hn
   split at h
   ·cases h
   rename_i hlc
   have hlc : len ≤ cap := Nat.le_of_not_lt (fun q => hlc (by omega))
   have hn' : ¬ (mx.isSome = true ∧ hi.isNone = true) := by
    rintro ⟨p, q⟩; simp [p, q] at hn
   simp only [Option.map_eq_some_iff] at hz
   obtain ⟨ze, hze, rfl⟩ := hz
   have hsz := (hT _ _ hze).run_size
   split at h
   ·cases h
    simp only [Rel] at hx
    obtain ⟨rfl, rfl, hx⟩ := hx
    by_cases hex : ex = true
    ·subst hex
     rw [if_pos rfl] at hx; subst hx
     obtain ⟨a, b, c, d, _⟩ := Xp (P := P) (isSlice := true) (cap' := 0) w hb r1 r2 r3 (Nat.le_refl _) hn' hlc
     have hl0 : l = 0 := by omega
     have hh0 : hh = 0 := by omega
     have hm0 : m = 0 := by omega
     subst hl0; subst hh0; subst hm0
     refine ⟨.slice none 0 0, ?_, by simp [Rel]⟩
     simp [Instr.sliceAt, Instr.slice, run_underlying hu, a, hsz]
    rw [if_neg hex] at hx
    obtain ⟨ad, c, rfl⟩ := hx
    obtain ⟨a, b, cc, d, _⟩ := Xp (P := P) (isSlice := true) (cap' := c) w hb r1 r2 r3 (by omega) hn' hlc
    have hl0 : l = 0 := by omega
    have hh0 : hh = 0 := by omega
    have hm0 : m = 0 := by omega
    subst hl0; subst hh0; subst hm0
    refine ⟨.slice (some ad) 0 (if mx.isSome = true then 0 else c), ?_, ?_⟩
    ·simp [Instr.sliceAt, Instr.slice, run_underlying hu, a, hsz, Addr.add]
    simp only [Rel]; exact ⟨trivial, trivial, by rw [if_neg hex]; exact ⟨_, _, rfl⟩⟩
   rename_i b off
   simp only [Rel] at hx
   obtain ⟨en, c, hen, hcc, hcx, hlim, rfl⟩ := hx
   obtain ⟨a, p, q, r, s⟩ := Xp (P := P) (isSlice := true) (cap' := c) w hb r1 r2 r3 hcc hn' hlc
   generalize hm' : (if mx.isSome = true then m else c) = m' at a
   have hmm : m ≤ m' ∧ m' ≤ c ∧ ((ex || mx.isSome) = true → m' = m) := by
    by_cases hmx : mx.isSome = true
    ·rw [if_pos hmx] at hm'; subst hm'; exact ⟨Nat.le_refl _, by omega, fun _ => rfl⟩
    rw [if_neg hmx] at hm'; subst hm'
    have hmc := s (by simpa using hmx)
    refine ⟨by omega, Nat.le_refl _, fun hh => ?_⟩
    have : ex = true := by simpa [hmx] using hh
    rw [hmc]; exact hcx this
   have hrun : (Instr.sliceAt t (.slice (some ⟨en.r, en.sh + off, none⟩) len c) lo' hi' mx').run P w =
     .ok (.slice (some (if m' = l then ⟨en.r, en.sh + off, none⟩ else (⟨en.r, en.sh + off, none⟩ : Addr).add (l * ze.size))) (hh - l) (m' - l)) w := by
    simp [Instr.sliceAt, Instr.slice, run_underlying hu, a, hsz]
    split <;> rfl
   have hmul : ∀ L, en.lim = some L → off + l * es + (m' - l) * es ≤ L := by
    intro L hL
    have h1 := hlim L hL
    have h2 : l * es + (m' - l) * es = m' * es := by rw [← Nat.add_mul]; congr 1; omega
    have h3 : m' * es ≤ c * es := Nat.mul_le_mul_right _ hmm.2.1
    omega
   refine ⟨_, hrun, ?_⟩
   split at h
   ·rename_i hc1
    obtain ⟨hes, hc1⟩ := hc1
    cases h
    simp only [Rel]
    refine ⟨en, m' - l, hen, by omega, fun hh' => by have := hmm.2.2 hh'; omega, hmul, ?_⟩
    rcases hc1 with hlt | ⟨h0, h1⟩
    ·rw [if_neg (by omega), Addr.add_lit, hes, Nat.add_assoc]
    subst h0
    by_cases hm0 : m' = 0
    ·rw [if_pos hm0]; simp
    rw [if_neg hm0, Addr.add_lit]; simp
   split at h
   ·rename_i hc1
    obtain ⟨hes, hlm, hhl⟩ := hc1
    split at h
    ·rename_i hxx
     cases h
     have := hmm.2.2 hxx
     simp only [Rel]
     refine ⟨en, 0, hen, Nat.le_refl _, fun _ => rfl, fun L hL => by have := hlim L hL; omega, ?_⟩
     rw [if_pos (by omega)]
     congr 1 <;> omega
    cases h
    simp only [Rel]
    refine ⟨trivial, trivial, ?_⟩
    rw [if_neg (by simp)]
    exact ⟨_, _, by congr 1; omega⟩
   cases h
  cases h
 ·rename_i e cs len es ex hd
  have hu := ht.und; rw [hd] at hu
  split at h
  ·rename_i z l hh m hz hb hn
   have hn' : ¬ (mx.isSome = true ∧ hi.isNone = true) := by
    rintro ⟨p, q⟩; simp [p, q] at hn
   simp only [Option.map_eq_some_iff] at hz
   obtain ⟨ze, hze, rfl⟩ := hz
   have hsz := (hT _ _ hze).run_size
   split at h
   ·rename_i hes
    split at h
    ·rename_i w' hw'
     cases h
     simp only [Rel] at hx
     obtain ⟨ad, c, xs, rfl, hlc, hcx, hnone, hrl, hor⟩ := hx
     obtain ⟨a, p, q, r, s⟩ := Xp (P := P) (isSlice := true) (cap' := c) w hb r1 r2 r3 hlc hn' (Nat.le_refl _)
     generalize hm' : (if mx.isSome = true then m else c) = m' at a
     have hmm : m ≤ m' ∧ m' ≤ c := by
      by_cases hmx : mx.isSome = true
      ·rw [if_pos hmx] at hm'; subst hm'; exact ⟨Nat.le_refl _, by omega⟩
      rw [if_neg hmx] at hm'; subst hm'
      have hmc := s (by simpa using hmx)
      exact ⟨by omega, Nat.le_refl _⟩
     obtain ⟨k1, k2, k3⟩ := Yi hrl hw'
     have hexx : (if mx.isSome = true then m == hh else ex && hh == len) = true → m' - l = hh - l := by
      intro hq
      by_cases hmx : mx.isSome = true
      ·rw [if_pos hmx] at hm' hq; simp at hq; omega
      rw [if_neg hmx] at hm' hq
      simp at hq
      have := hcx hq.1
      omega
     cases ad with
     | none =>
      have hc0 := hnone rfl
      have hl0 : l = 0 := by omega
      have hh0 : hh = 0 := by omega
      subst hl0; subst hh0
      refine ⟨.slice none 0 (m' - 0), ?_, ?_⟩
      ·simp [Instr.sliceAt, Instr.slice, run_underlying hu, a, hsz]
      simp only [Rel]
      exact ⟨none, m' - 0, _, rfl, by omega, (fun hq => by have := hexx hq; omega), (fun _ => by omega), k1, .inl (by simp)⟩
     | some ad =>
      have hrun : (Instr.sliceAt t (.slice (some ad) len c) lo' hi' mx').run P w =
        .ok (.slice (some (if m' = l then ad else ad.add (l * ze.size))) (hh - l) (m' - l)) w := by
       simp [Instr.sliceAt, Instr.slice, run_underlying hu, a, hsz]
       split <;> rfl
      refine ⟨_, hrun, ?_⟩
      simp only [Rel]
      refine ⟨_, m' - l, _, rfl, by omega, (fun hq => by have := hexx hq; omega), (fun hq => by cases hq), k1, ?_⟩
      rcases Nat.eq_zero_or_pos (hh - l) with h0 | h0
      ·exact .inl h0
      right
      rcases hor with hor | ⟨rr, off, arr, had, hz', hx'⟩
      ·omega
      cases had
      refine ⟨rr, off + l * es, arr, ?_, hz', fun i x hi => ?_⟩
      ·rw [if_neg (by omega), Addr.add_lit, hes]
      rw [List.getElem?_take] at hi
      split at hi
      ·rw [List.getElem?_drop] at hi
       rw [Nat.add_assoc]
       exact hx' _ _ hi
      cases hi
    cases h
   cases h
  cases h
 cases h
theorem ZcL {ι : Inj} {x v : VVal} {x' : Value} (w : World) (o : Oper) (ρ' : Operand → Value) (y : Operand) (ho : o.op = .nilCheck y) (hy : ρ' y = x') (h : ZaS x = some v) (hx : Rel ι x x') :
  ∃ z, (execOp ρ' o).run P w = .ok (.value z) w ∧ Rel ι v z := by
 unfold ZaS at h
 split at h
 ·rename_i p
  cases h
  obtain ⟨b, off⟩ := p
  have hx0 := hx
  simp only [Rel] at hx
  obtain ⟨e, he, rfl⟩ := hx
  exact ⟨_, by simp [execOp, ho, hy], hx0⟩
 ·cases h
  have hx0 := hx
  simp only [Rel] at hx
  obtain ⟨a', c', rfl, _⟩ := hx
  exact ⟨_, by simp [execOp, ho, hy], hx0⟩
 ·cases h
  have hx0 := hx
  simp only [Rel] at hx
  obtain ⟨e, he, rfl⟩ := hx
  exact ⟨_, by simp [execOp, ho, hy], hx0⟩
 ·cases h
  have hx0 := hx
  simp only [Rel] at hx
  obtain ⟨e, rfl, he⟩ := hx
  exact ⟨_, by simp [execOp, ho, hy], hx0⟩
 ·cases h
  have hx0 := hx
  simp only [Rel] at hx
  obtain ⟨_, _, _, _, rfl, _⟩ := hx
  exact ⟨_, by simp [execOp, ho, hy], hx0⟩
 cases h
theorem vextract_run {ι : Inj} {x v : VVal} {x' : Value} {i : Nat} (w : World) (h : Zb8 x i = some v) (hx : Rel ι x x') : ∃ z, (Instr.extract x' i).run P w = .ok z w ∧ Rel ι v z := by
 unfold Zb8 at h
 split at h
 ·simp only [Rel] at hx
  obtain ⟨cs', rfl, hc⟩ := hx
  obtain ⟨z, hz, rz⟩ := hc.get _ _ h
  have : cs'[i]? = some z := by simpa using hz
  exact ⟨z, by simp [Instr.extract, this], rz⟩
 cases h
theorem ZbK (hT : TOk P T) {ι : Inj} {t : TypeId} {x v : VVal} {x' : Value} (w : World) (h : JS T t x = some v) (hx : Rel ι x x') : ∃ z, (Instr.makeInterface t x').run P w = .ok z w ∧ Rel ι v z := by
 unfold JS at h
 split at h
 ·rename_i y hy
  have ht := hT t y hy
  split at h
  ·cases h
  rename_i hd
  cases h
  refine ⟨.iface t x', ?_, by simp only [Rel]; exact ⟨x', rfl, hx⟩⟩
  unfold Instr.makeInterface
  simp only [Sem.run_bind, ht.run_und, Result.andThen_ok]
  generalize y.desc = d at hd
  cases d <;> first | rfl | exact absurd rfl (hd _)
 cases h
theorem vassert_run (hT : TOk P T) {ι : Inj} {t xt : TypeId} {ok : Bool} {x v : VVal} {x' : Value} (w : World) (h : vassert T x t ok = some v) (hx : Rel ι x x') : ∃ z, (Instr.typeAssert x' xt t ok).run P w = .ok z w ∧ Rel ι v z := by
 unfold vassert at h
 split at h
 ·rename_i y t' u hy
  have ht := hT t y hy
  simp only [Rel] at hx
  obtain ⟨u', rfl, hu'⟩ := hx
  split at h
  ·cases h
  rename_i hd
  obtain ⟨i, z, hi, hri, _, _, hiz, _, hz, rz, hagg, hone⟩ := ht.run_info
  by_cases he : t = t'
  ·subst he
   rw [if_pos rfl] at h
   refine ⟨if ok = true then .tuple #[u', .bool true] else u', ?_, ?_⟩
   ·unfold Instr.typeAssert
    simp only [Sem.run_bind, ht.run_und, Result.andThen_ok]
    generalize y.desc = d at hd
    cases d <;> first | (exact absurd rfl (hd _)) | simp
   cases h
   cases ok
   ·simpa using hu'
   simp only [if_true, Rel]; exact ⟨_, rfl, .cons hu' (.one (by simp [Rel]))⟩
  rw [if_neg (Ne.symm he)] at h
  cases ok
  ·simp at h
  simp only [if_true] at h
  have hrun : (Instr.typeAssert (.iface t' u') xt t true).run P w = .ok (.tuple #[z, .bool false]) w := by
   unfold Instr.typeAssert
   simp only [Sem.run_bind, ht.run_und, Result.andThen_ok]
   generalize y.desc = d at hd
   cases d <;> first | (exact absurd rfl (hd _)) | simp [Ne.symm he, hz]
  split at h
  ·rename_i zz ha
   cases h
   obtain ⟨cs, rfl⟩ := hagg ha
   refine ⟨_, hrun, ?_⟩
   simp only [Rel]
   exact ⟨_, rfl, .cons (by simp only [Rel]; exact ⟨cs, rfl, rz ι⟩) (.one (by simp [Rel]))⟩
  ·rename_i zz ha hzz
   cases h
   have hcz := hone ha
   have := rz ι
   rw [hzz, hcz] at this
   simp only [RelL] at this
   obtain ⟨a, b, e1, e2, e3⟩ := this
   simp at e1
   obtain ⟨rfl, rfl⟩ := e1
   refine ⟨_, hrun, ?_⟩
   simp only [Rel]
   exact ⟨_, rfl, .cons e2 (.one (by simp [Rel]))⟩
  cases h
 cases h
theorem fold_run {ι : Inj} {f : VVal → VVal → Option VVal} {g : Value → Value → Sem Value} (w : World)
  (hfg : ∀ a b c a' b', f a b = some c → Rel ι a a' → Rel ι b b' → ∃ c', (g a' b').run P w = .ok c' w ∧ Rel ι c c') :
  ∀ (l : List VVal) (l' : List Value) (a v : VVal) (a' : Value), l.foldlM f a = some v → RelL ι l l' → Rel ι a a' → ∃ z, (l'.foldlM g a').run P w = .ok z w ∧ Rel ι v z
 | [], l', a, v, a', h, hl, ha => by
  simp only [RelL] at hl; subst hl
  simp only [List.foldlM_nil] at h
  cases h
  exact ⟨a', by simp, ha⟩
 | x :: l, l', a, v, a', h, hl, ha => by
  simp only [RelL] at hl
  obtain ⟨y, ys, rfl, rx, rl⟩ := hl
  simp only [List.foldlM_cons, Option.bind_eq_bind, Option.bind_eq_some_iff] at h
  obtain ⟨c, hc, h⟩ := h
  obtain ⟨c', hr, rc⟩ := hfg a x c a' y hc ha rx
  obtain ⟨z, hz, rz⟩ := fold_run w hfg l ys c v c' h rl rc
  exact ⟨z, by simp [List.foldlM_cons, hr, hz], rz⟩
theorem vmin2_run {ι : Inj} (w : World) (a b c : VVal) (a' b' : Value) (h : vmin2 a b = some c) (ha : Rel ι a a') (hb : Rel ι b b') : ∃ c', (Builtin.min2 a' b').run P w = .ok c' w ∧ Rel ι c c' := by
 unfold vmin2 at h
 split at h
 ·simp only [Rel] at ha hb; subst ha; subst hb; cases h
  exact ⟨_, rfl, by simp only [Rel]⟩
 cases h
theorem vmax2_run {ι : Inj} (w : World) (a b c : VVal) (a' b' : Value) (h : vmax2 a b = some c) (ha : Rel ι a a') (hb : Rel ι b b') : ∃ c', (Builtin.max2 a' b').run P w = .ok c' w ∧ Rel ι c c' := by
 unfold vmax2 at h
 split at h
 ·simp only [Rel] at ha hb; subst ha; subst hb; cases h
  exact ⟨_, rfl, by simp only [Rel]⟩
 cases h
theorem Zce {ι : Inj} {ρ : Operand → VVal} {ρ' : Operand → Value} {o : Option Operand} (h : ∀ x, o = some x → Rel ι (ρ x) (ρ' x)) : ORel ι (o.map ρ) (o.map ρ') := by
 cases o with
 | none => exact .no
 | some x => exact .so (h x rfl)
theorem XX {ι : Inj} {ρ : Operand → VVal} {ρ' : Operand → Value} (args : Array Operand) (h : ∀ x, x ∈ args → Rel ι (ρ x) (ρ' x)) : RelL ι (args.toList.map ρ) (args.map ρ').toList := by
 rw [Array.toList_map]
 exact RelL.map _ _ _ fun x hx => h x (by simpa using hx)
theorem two_rel {ι : Inj} {a b : VVal} {l : List Value} (h : RelL ι [a, b] l) : ∃ x y, l = [x, y] ∧ Rel ι a x ∧ Rel ι b y := by
 simp only [RelL] at h
 obtain ⟨x, l1, rfl, rx, y, l2, rfl, ry, rfl⟩ := h
 exact ⟨x, y, rfl, rx, ry⟩
theorem Jc {ι : Inj} {a : VVal} {l : List Value} (h : RelL ι [a] l) : ∃ x, l = [x] ∧ Rel ι a x := by
 simp only [RelL] at h
 obtain ⟨x, l1, rfl, rx, rfl⟩ := h
 exact ⟨x, rfl, rx⟩
theorem ZcW {ι : Inj} {f : VVal → VVal → Option VVal} {g : Value → Value → Sem Value} (w : World)
  (hfg : ∀ a b c a' b', f a b = some c → Rel ι a a' → Rel ι b b' → ∃ c', (g a' b').run P w = .ok c' w ∧ Rel ι c c') {l : List VVal} {l' : List Value} {v : VVal} (h : vfold f l = some v) (hl : RelL ι l l') :
  ∃ x rest z, l' = x :: rest ∧ (rest.foldlM g x).run P w = .ok z w ∧ Rel ι v z := by
 cases l with
 | nil => simp [vfold] at h
 | cons a l =>
  simp only [RelL] at hl
  obtain ⟨y, ys, rfl, ry, rl⟩ := hl
  obtain ⟨z, hz, rz⟩ := fold_run (P := P) w hfg l ys a v y h rl ry
  exact ⟨y, ys, z, rfl, hz, rz⟩
theorem calm_run (hT : TOk P T) {ρ : Operand → VVal} {ρ' : Operand → Value} {o : Oper} {H H' : Ze} {v : VVal} {ι : Inj}
  (h : vop T ρ H o.op = some (v, H')) (hc : Yh T o.op = .calm) (hρ : Ops ι ρ ρ' o.op) :
  H' = H ∧ (∀ G, vop T ρ G o.op = some (v, G)) ∧ ∀ w, ∃ x, (execOp ρ' o).run P w = .ok (.value x) w ∧ Rel ι v x := by
 obtain ⟨dst, op, ty, pos, aft, gd⟩ := o
 simp only at h hc hρ
 cases op <;> simp only [Yh, reduceCtorEq] at hc
 case move x =>
  simp only [vop, Option.some.injEq, Prod.mk.injEq] at h
  obtain ⟨rfl, rfl⟩ := h
  exact ⟨rfl, fun _ => rfl, fun w => ⟨ρ' x, rfl, hρ x XH10⟩⟩
 case assign x =>
  simp only [vop, Option.some.injEq, Prod.mk.injEq] at h
  obtain ⟨rfl, rfl⟩ := h
  exact ⟨rfl, fun _ => rfl, fun w => ⟨ρ' x, rfl, hρ x XH10⟩⟩
 case pick c a b =>
  have rc := hρ c XH10
  simp only [vop] at h
  split at h
  ·rename_i t ht
   simp only [Option.some.injEq, Prod.mk.injEq] at h
   obtain ⟨rfl, rfl⟩ := h
   refine ⟨rfl, fun _ => by simp [vop, ht], fun w => ?_⟩
   rw [ht] at rc; simp only [Rel] at rc
   cases t
   ·exact ⟨ρ' b, by simp [execOp, rc, asBool], hρ b XH10⟩
   exact ⟨ρ' a, by simp [execOp, rc, asBool], hρ a XH10⟩
  cases h
 case build t parts =>
  simp only [vop, Option.map_eq_some_iff, Prod.mk.injEq] at h
  obtain ⟨u, hu, rfl, rfl⟩ := h
  obtain ⟨p1, p2⟩ := Zc4 (ι := ι) (ρ := ρ) (ρ' := ρ') parts (fun x hx => hρ x (by simpa [Op.operands] using hx))
  refine ⟨rfl, fun _ => by simp [vop, hu], fun w => ?_⟩
  obtain ⟨x, hx, rx⟩ := vbuild_run hT w hu p1 p2
  exact ⟨x, by simp [execOp, hx], rx⟩
 case nilCheck x =>
  simp only [vop, Option.map_eq_some_iff, Prod.mk.injEq] at h
  obtain ⟨u, hu, rfl, rfl⟩ := h
  refine ⟨rfl, fun _ => by simp [vop, hu], fun w => ?_⟩
  exact ZcL w ⟨dst, .nilCheck x, ty, pos, aft, gd⟩ ρ' x rfl rfl hu (hρ x XH10)
 case binOp op t x y yt =>
  simp only [vop, Option.map_eq_some_iff, Prod.mk.injEq] at h
  obtain ⟨u, hu, rfl, rfl⟩ := h
  refine ⟨rfl, fun _ => by simp [vop, hu], fun w => ?_⟩
  obtain ⟨a, b⟩ := vbin_run hT w x y (hρ x XH10) (hρ y XH10) hu
  refine ⟨u.val, ?_, VVal.rel_val b ι⟩
  simp only [execOp, Sem.run_bind] at a ⊢
  rw [a]; rfl
 case unOp op t x =>
  simp only [vop, Option.map_eq_some_iff, Prod.mk.injEq] at h
  obtain ⟨u, hu, rfl, rfl⟩ := h
  refine ⟨rfl, fun _ => by simp [vop, hu], fun w => ?_⟩
  have rx := hρ x XH10
  unfold vun at hu
  split at hu
  ·rename_i hx; rw [hx] at rx; simp only [Rel] at rx; cases hu
   exact ⟨_, (by simp only [execOp, rx, Op.unary, Op.intArith, Sem.run_bind, Sem.run_pure, Result.andThen_ok]; rfl), by simp only [Rel]⟩
  ·rename_i k n hx; rw [hx] at rx; simp only [Rel] at rx; cases hu
   refine ⟨.int k (QU .xor k (if k.signed then -1 else k.max) n), ?_, by simp only [Rel]⟩
   simp only [execOp, rx, Op.unary, Sem.run_bind, Qi .xor k _ n w (by simp), Result.andThen_ok, Sem.run_pure]
  ·rename_i hx; rw [hx] at rx; simp only [Rel] at rx; cases hu
   exact ⟨_, (by simp only [execOp, rx, Op.unary, Sem.run_bind, Sem.run_pure, Result.andThen_ok]; rfl), by simp only [Rel]⟩
  cases hu
 case convert src dst' x =>
  simp only [vop] at h
  split at hc
  ·rename_i hi
   have rx := hρ x XH10
   unfold Qf at hi
   unfold Yw at h
   split at h
   ·rename_i s d hs hd
    rw [hd] at hi
    simp only at hi
    split at hi
    ·rename_i k hk
     split at h
     ·rename_i _ _ k' kk n hkk hn
      have hkk' : k' = k := by rw [hk] at hkk; cases hkk; rfl
      subst hkk'
      simp only [Option.some.injEq, Prod.mk.injEq] at h
      obtain ⟨rfl, rfl⟩ := h
      rw [hn] at rx; simp only [Rel] at rx
      refine ⟨rfl, fun _ => ?_, fun w => ⟨.int k' (k'.wrap n), ?_, by simp only [Rel]⟩⟩
      ·simp only [vop, Yw, hs, hd, hkk, hn]
      have h1 := (hT _ _ hs).run_und w
      have h2 := (hT _ _ hd).run_und w
      rw [hk] at h2
      simp only [execOp, rx, convert, Sem.run_bind, h1, h2, Result.andThen_ok, Conv.intToInt, Sem.run_pure]
     all_goals first
      | (exfalso; rename_i hq _; rw [hk] at hq; cases hq; done)
      | (exfalso; simp_all; done)
      | cases h
    cases hi
   cases h
  split at hc <;> cases hc
 case makeFunc fn first cap =>
  cases fn <;> simp only [vop, reduceCtorEq, Option.some.injEq, Prod.mk.injEq] at h
  obtain ⟨rfl, rfl⟩ := h
  refine ⟨rfl, fun _ => rfl, fun w => ⟨_, (by simp only [execOp, Instr.makeFunc, Sem.run_bind, Sem.run_pure, Result.andThen_ok]; rfl), ?_⟩⟩
  simp only [Rel]
  exact ⟨_, _, rfl, XX first fun x hx => hρ x (by simp [Op.operands, hx]), XX cap fun x hx => hρ x (by simp [Op.operands, hx])⟩
 case slice t x lo hi mx =>
  simp only [vop, Option.map_eq_some_iff, Prod.mk.injEq] at h
  obtain ⟨u, hu, rfl, rfl⟩ := h
  refine ⟨rfl, fun _ => by simp [vop, hu], fun w => ?_⟩
  obtain ⟨z, hz, rz⟩ := vslice_run hT w hu (hρ x XH10) (Zce (ρ' := ρ') fun y hy => hρ y (by simp [Op.operands, hy])) (Zce (ρ' := ρ') fun y hy => hρ y (by simp [Op.operands, hy])) (Zce (ρ' := ρ') fun y hy => hρ y (by simp [Op.operands, hy]))
  exact ⟨z, by simp [execOp, hz], rz⟩
 case fieldAddr s x f =>
  simp only [vop, Option.map_eq_some_iff, Prod.mk.injEq] at h
  obtain ⟨u, hu, rfl, rfl⟩ := h
  refine ⟨rfl, fun _ => by simp [vop, hu], fun w => ?_⟩
  obtain ⟨z, hz, rz⟩ := ZbN hT w hu (hρ x XH10)
  exact ⟨z, by simp [execOp, hz], rz⟩
 case field s x f =>
  simp only [vop, Option.map_eq_some_iff, Prod.mk.injEq] at h
  obtain ⟨u, hu, rfl, rfl⟩ := h
  refine ⟨rfl, fun _ => by simp [vop, hu], fun w => ?_⟩
  obtain ⟨z, hz, rz⟩ := vfield_run hT w hu (hρ x XH10)
  exact ⟨z, by simp [execOp, hz], rz⟩
 case indexAddr s x i =>
  simp only [vop, Option.map_eq_some_iff, Prod.mk.injEq] at h
  obtain ⟨u, hu, rfl, rfl⟩ := h
  refine ⟨rfl, fun _ => by simp [vop, hu], fun w => ?_⟩
  obtain ⟨z, hz, rz⟩ := ZbM hT w hu (hρ x XH10) (hρ i XH10)
  exact ⟨z, by simp [execOp, hz], rz⟩
 case index s x i =>
  simp only [vop, Option.map_eq_some_iff, Prod.mk.injEq] at h
  obtain ⟨u, hu, rfl, rfl⟩ := h
  refine ⟨rfl, fun _ => by simp [vop, hu], fun w => ?_⟩
  obtain ⟨z, hz, rz⟩ := vindex_run hT w hu (hρ x XH10) (hρ i XH10)
  exact ⟨z, by simp [execOp, hz], rz⟩
 case extract x i =>
  simp only [vop, Option.map_eq_some_iff, Prod.mk.injEq] at h
  obtain ⟨u, hu, rfl, rfl⟩ := h
  refine ⟨rfl, fun _ => by simp [vop, hu], fun w => ?_⟩
  obtain ⟨z, hz, rz⟩ := vextract_run (P := P) w hu (hρ x XH10)
  exact ⟨z, by simp [execOp, hz], rz⟩
 case makeInterface t x =>
  simp only [vop, Option.map_eq_some_iff, Prod.mk.injEq] at h
  obtain ⟨u, hu, rfl, rfl⟩ := h
  refine ⟨rfl, fun _ => by simp [vop, hu], fun w => ?_⟩
  obtain ⟨z, hz, rz⟩ := ZbK hT w hu (hρ x XH10)
  exact ⟨z, by simp [execOp, hz], rz⟩
 case typeAssert x xt t ok =>
  simp only [vop, Option.map_eq_some_iff, Prod.mk.injEq] at h
  obtain ⟨u, hu, rfl, rfl⟩ := h
  refine ⟨rfl, fun _ => by simp [vop, hu], fun w => ?_⟩
  obtain ⟨z, hz, rz⟩ := vassert_run (xt := xt) hT w hu (hρ x XH10)
  exact ⟨z, by simp [execOp, hz], rz⟩
 case call c =>
  obtain ⟨callee, args, ats⟩ := c
  cases callee <;> (try simp only [Yh, reduceCtorEq] at hc)
  rename_i b
  have ra : RelL ι (args.toList.map ρ) (args.map ρ').toList := XX args fun x hx => hρ x (by simp [Op.operands, Call.operands, hx])
  cases b <;> (try simp only [Yh, reduceCtorEq] at hc)
  ·simp only [vop, ZR, Option.map_eq_some_iff, Prod.mk.injEq] at h
   obtain ⟨u, hu, rfl, rfl⟩ := h
   refine ⟨rfl, fun _ => by simp [vop, ZR, hu], fun w => ?_⟩
   obtain ⟨x, rest, z, he, hz, rz⟩ := ZcW (P := P) (g := Builtin.max2) w (vmax2_run w) hu ra
   refine ⟨z, ?_, rz⟩
   simp only [execOp, resolve, invoke, builtin, Sem.run_bind, Sem.run_pure, Result.andThen_ok, Builtin.max_, he, hz]
  simp only [vop, ZR, Option.map_eq_some_iff, Prod.mk.injEq] at h
  obtain ⟨u, hu, rfl, rfl⟩ := h
  refine ⟨rfl, fun _ => by simp [vop, ZR, hu], fun w => ?_⟩
  obtain ⟨x, rest, z, he, hz, rz⟩ := ZcW (P := P) (g := Builtin.min2) w (vmin2_run w) hu ra
  refine ⟨z, ?_, rz⟩
  simp only [execOp, resolve, invoke, builtin, Sem.run_bind, Sem.run_pure, Result.andThen_ok, Builtin.min_, he, hz]
 all_goals (exfalso; split at hc <;> simp_all; done)
end
end Go.V
