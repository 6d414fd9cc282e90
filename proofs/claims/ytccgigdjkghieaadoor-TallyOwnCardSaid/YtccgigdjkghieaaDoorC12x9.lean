/- Proved: Rows.TallyOwnCardSaid, the statement TallyOwn with its card, of the given program at the commit; no conditions beyond those in the statement. -/
import Derived.Test.YtccgigdjkghieaaDoorC12x8
import Derived.ChangeKeysEq
import Derived.Laws.StructEq
set_option autoImplicit false
set_option linter.unusedVariables false
namespace Go.V
open Go Go.RowKit
theorem Xq (ι : Inj) : ∀ l : List Value, RelL ι (l.map VVal.ofFlat) l
 | [] => .nil
 | v :: l => .cons (Rel.ofFlat ι v) (Xq ι l)
theorem JD {P : Program} {t : TypeId} {i : TypeInfo} (h : P.types[t]? = some i) : P.info? t = some i := by
 have : t < P.types.size := (Array.getElem?_eq_some_iff.1 h).1
 show (if t < P.types.size then P.types[t]? else _) = some i
 rw [if_pos this]; exact h
theorem TyOk.agg' {P : Program} {t : TypeId} {d : TypeDesc} {i : TypeInfo} {cs : Array Value} {zero : List VVal} {size bytes : Nat} (hu : P.underlying t = some d) (hi : P.types[t]? = some i) (hz : i.zero = some (.agg cs))
  (h0 : cs.toList.map VVal.ofFlat = zero) (hs : i.size = size) (hb : i.bytes = bytes) (hl : zero.length = size) (ha : Zk d = true) : TyOk P t { desc := d, size, bytes, zero, flat := false } :=
 ⟨hu, ⟨i, _, JD hi, hs, hb, hz, by subst h0; exact Xq _ cs.toList, fun _ => ⟨cs, rfl⟩, fun h => by simp only at h; rw [ha] at h; cases h⟩, hl, fun h => by cases h⟩
theorem TyOk.one' {P : Program} {t : TypeId} {d : TypeDesc} {i : TypeInfo} {z : Value} {zero : List VVal} {size bytes : Nat} (hu : P.underlying t = some d) (hi : P.types[t]? = some i) (hz : i.zero = some z)
  (h0 : [VVal.ofFlat z] = zero) (hs : i.size = size) (hb : i.bytes = bytes) (hl : zero.length = size) (ha : (!Zk d && z.cells.toList.length == 1 && !(match z with | .agg _ => true | _ => false)) = true) : TyOk P t { desc := d, size, bytes, zero, flat := false } := by
 simp only [Bool.and_eq_true, Bool.not_eq_true'] at ha
 have hc : z.cells = #[z] := by
  cases z <;> first | rfl | simp at ha
 refine ⟨hu, ⟨i, z, JD hi, hs, hb, hz, ?_, fun h => ?_, fun _ => hc⟩, hl, fun h => by cases h⟩
 ·subst h0; rw [hc]; exact Xq _ [z]
 simp only at h; rw [ha.1.1] at h; cases h
theorem Zao {P : Program} (d : Nat) {e : TypeId} {q : IntKind} (hu : P.underlying e = some (.int q)) (w : World) : ∀ (n j : Nat) (X Y : List VVal) (xs ys : Array Value) (r : Bool), X.length = n → RelL Inj.zero X (xs.toList.drop j) → RelL Inj.zero Y (ys.toList.drop j) → YP X Y = some r →
  (Op.eqItems (d + 1) e 1 xs ys (List.range' j n)).run P w = .ok r w
 | 0, j, X, Y, xs, ys, r, hl, hX, hY, h => by
  have : X = [] := List.eq_nil_of_length_eq_zero hl
  subst this
  cases Y with
  | nil => simp only [YP, Option.some.injEq] at h; subst h; simp [Op.eqItems]
  | cons y Y => simp [YP] at h
 | n + 1, j, X, Y, xs, ys, r, hl, hX, hY, h => by
  cases X with
  | nil => simp at hl
  | cons x X =>
   cases Y with
   | nil => cases x <;> simp [YP] at h
   | cons y Y =>
    simp only [RelL] at hX hY
    obtain ⟨x', xt, ex, rx, rxs⟩ := hX
    obtain ⟨y', yt, ey, ry, rys⟩ := hY
    cases x <;> cases y <;> simp only [YP, reduceCtorEq] at h
    split at h
    ·rename_i k a k' b hk
     subst hk
     simp only [Option.map_eq_some_iff] at h
     obtain ⟨r', hr', hrr⟩ := h
     simp only [Rel] at rx ry; subst rx; subst ry
     have hx : xs[j * 1]? = some (.int k a) := by
      have := congrArg (·[0]?) ex
      simpa using this
     have hy : ys[j * 1]? = some (.int k b) := by
      have := congrArg (·[0]?) ey
      simpa using this
     have ex' : xs.toList.drop (j + 1) = xt := by rw [← List.drop_drop, ex]; rfl
     have ey' : ys.toList.drop (j + 1) = yt := by rw [← List.drop_drop, ey]; rfl
     have ih := Zao d hu w n (j + 1) X Y xs ys r' (by simpa using hl) (by rw [ex']; exact rxs) (by rw [ey']; exact rys) hr'
     rw [List.range'_succ]
     have p1 : (part e xs (j * 1)).run P w = .ok (.int k a) w := by rw [Nat.mul_one] at hx ⊢; simp [part, isAgg, run_underlying hu, hx]
     have p2 : (part e ys (j * 1)).run P w = .ok (.int k b) w := by rw [Nat.mul_one] at hy ⊢; simp [part, isAgg, run_underlying hu, hy]
     have p3 : (Op.equalIn (d + 1) e (.int k a) (.int k b)).run P w = .ok (a == b) w := by simp [Op.equalIn, run_underlying hu]
     simp only [Op.eqItems, Sem.run_bind, p1, p2, p3, Result.andThen_ok]
     subst hrr
     cases hab : a == b
     ·simp
     simpa using ih
    cases h
theorem TyOk.arr' {P : Program} {t e : TypeId} {n : Nat} {q : IntKind} {i ie : TypeInfo} {cs : Array Value} {zero : List VVal} {size bytes : Nat} (hu : P.underlying t = some (.array n e)) (hi : P.types[t]? = some i) (hz : i.zero = some (.agg cs))
  (h0 : cs.toList.map VVal.ofFlat = zero) (hs : i.size = size) (hb : i.bytes = bytes) (hl : zero.length = size) (hsn : size = n) (hue : P.underlying e = some (.int q)) (hie : P.types[e]? = some ie) (h1 : ie.size = 1) (hg : P.eqGuardType P.depth t = false) : TyOk P t { desc := .array n e, size, bytes, zero, flat := true } := by
 refine ⟨hu, ⟨i, _, JD hi, hs, hb, hz, by subst h0; exact Xq _ cs.toList, fun _ => ⟨cs, rfl⟩, fun h => by simp only at h; cases h⟩, hl, fun _ => ⟨hg, fun w xs ys xs' ys' r h1' h2' h3 h4 h5 => ?_⟩⟩
 have hc : P.cellsOf e = 1 := by simp [Program.cellsOf, JD hie, h1]
 show (Op.equalIn (9999 + 1) t (.agg xs') (.agg ys')).run P w = _
 rw [run_equalIn_array w 9999 xs' ys' hu (JD hie), hc, List.range_eq_range']
 exact Zao 9998 hue w n 0 xs ys xs' ys' r (by rw [h3]; exact hsn) (by simpa using h1') (by simpa using h2') h5
theorem JO {P : Program} (d : Nat) (w : World) : ∀ (fs : List Field) (j : Nat) (X Y : List VVal) (xs ys : Array Value) (r : Bool), X.length = fs.length →
  (∀ (i : Nat) f, fs[i]? = some f → f.name ≠ "_" ∧ f.offset = j + i ∧ ∃ q, P.underlying f.type = some (.int q)) → RelL Inj.zero X (xs.toList.drop j) → RelL Inj.zero Y (ys.toList.drop j) → YP X Y = some r →
  (Op.eqFields (d + 1) xs ys fs).run P w = .ok r w
 | [], j, X, Y, xs, ys, r, hl, _, hX, hY, h => by
  have : X = [] := List.eq_nil_of_length_eq_zero hl
  subst this
  cases Y with
  | nil => simp only [YP, Option.some.injEq] at h; subst h; simp [Op.eqFields]
  | cons y Y => simp [YP] at h
 | f :: fs, j, X, Y, xs, ys, r, hl, hf, hX, hY, h => by
  cases X with
  | nil => simp at hl
  | cons x X =>
   cases Y with
   | nil => cases x <;> simp [YP] at h
   | cons y Y =>
    simp only [RelL] at hX hY
    obtain ⟨x', xt, ex, rx, rxs⟩ := hX
    obtain ⟨y', yt, ey, ry, rys⟩ := hY
    cases x <;> cases y <;> simp only [YP, reduceCtorEq] at h
    split at h
    ·rename_i k a k' b hk
     subst hk
     simp only [Option.map_eq_some_iff] at h
     obtain ⟨r', hr', hrr⟩ := h
     simp only [Rel] at rx ry; subst rx; subst ry
     obtain ⟨hn, ho, q, hu⟩ := hf 0 f rfl
     have hx : xs[f.offset]? = some (.int k a) := by
      have := congrArg (·[0]?) ex
      rw [ho]; simpa using this
     have hy : ys[f.offset]? = some (.int k b) := by
      have := congrArg (·[0]?) ey
      rw [ho]; simpa using this
     have ex' : xs.toList.drop (j + 1) = xt := by rw [← List.drop_drop, ex]; rfl
     have ey' : ys.toList.drop (j + 1) = yt := by rw [← List.drop_drop, ey]; rfl
     have ih := JO d w fs (j + 1) X Y xs ys r' (by simpa using hl) (fun i g hg => by
      obtain ⟨h1, h2, h3⟩ := hf (i + 1) g (by simpa using hg)
      exact ⟨h1, by omega, h3⟩) (by rw [ex']; exact rxs) (by rw [ey']; exact rys) hr'
     have p1 : (part f.type xs f.offset).run P w = .ok (.int k a) w := by simp [part, isAgg, run_underlying hu, hx]
     have p2 : (part f.type ys f.offset).run P w = .ok (.int k b) w := by simp [part, isAgg, run_underlying hu, hy]
     have p3 : (Op.equalIn (d + 1) f.type (.int k a) (.int k b)).run P w = .ok (a == b) w := by simp [Op.equalIn, run_underlying hu]
     simp only [Op.eqFields, hn, ne_eq, not_false_eq_true, if_true, Sem.run_bind, p1, p2, p3, Result.andThen_ok]
     subst hrr
     cases hab : a == b
     ·simp
     simpa using ih
    cases h
theorem TyOk.str' {P : Program} {t : TypeId} {fs : Array Field} {i : TypeInfo} {cs : Array Value} {zero : List VVal} {size bytes : Nat} (hu : P.underlying t = some (.struct fs)) (hi : P.types[t]? = some i) (hz : i.zero = some (.agg cs))
  (h0 : cs.toList.map VVal.ofFlat = zero) (hs : i.size = size) (hb : i.bytes = bytes) (hl : zero.length = size) (hsn : size = fs.size) (hfo : P.fieldsOf t = fs) (hst : P.stoodInHeld t = false)
  (hf : ∀ (i : Nat) f, fs.toList[i]? = some f → f.name ≠ "_" ∧ f.offset = 0 + i ∧ ∃ q, P.underlying f.type = some (.int q)) (hg : P.eqGuardType P.depth t = false) : TyOk P t { desc := .struct fs, size, bytes, zero, flat := true } := by
 refine ⟨hu, ⟨i, _, JD hi, hs, hb, hz, by subst h0; exact Xq _ cs.toList, fun _ => ⟨cs, rfl⟩, fun h => by simp only at h; cases h⟩, hl, fun _ => ⟨hg, fun w xs ys xs' ys' r h1' h2' h3 h4 h5 => ?_⟩⟩
 show (Op.equalIn (9999 + 1) t (.agg xs') (.agg ys')).run P w = _
 rw [run_equalIn_struct (P := P) w 9999 t xs' ys' (by rw [hfo]; exact hu) hst, hfo]
 exact JO 9998 w fs.toList 0 xs ys xs' ys' r (by rw [h3]; simpa using hsn) hf (by simpa using h1') (by simpa using h2') h5
theorem names_ok {P : Program} (h : P.funcs.toList.all (fun fn => !(fn.name == "runtime.NumGoroutine")) = true) {f : FuncId} {fn : Func} (hf : P.funcs[f]? = some fn) : (fn.name == "runtime.NumGoroutine") = false := by
 rw [List.all_eq_true] at h
 have := h fn (by
  have : P.funcs.toList[f]? = some fn := by simpa using hf
  exact List.mem_of_getElem? this)
 simpa using this
end Go.V
