/- Types, config: helps for a seat's table. -/
import Derived.Test.YteocbhgdmpdklaaDoorV17
set_option autoImplicit false
set_option linter.unusedVariables false
namespace Go.V
open Go Go.RowKit

theorem relL_ofFlat (ι : Inj) : ∀ l : List Value, RelL ι (l.map VVal.ofFlat) l
  | [] => .nil
  | v :: l => .cons (Rel.ofFlat ι v) (relL_ofFlat ι l)

theorem info_of {P : Program} {t : TypeId} {i : TypeInfo} (h : P.types[t]? = some i) : P.info? t = some i := by
  have : t < P.types.size := (Array.getElem?_eq_some_iff.1 h).1
  show (if t < P.types.size then P.types[t]? else _) = some i
  rw [if_pos this]; exact h

theorem TyOk.agg' {P : Program} {t : TypeId} {d : TypeDesc} {i : TypeInfo} {cs : Array Value} {zero : List VVal} {size bytes : Nat} (hu : P.underlying t = some d) (hi : P.types[t]? = some i) (hz : i.zero = some (.agg cs))
    (h0 : cs.toList.map VVal.ofFlat = zero) (hs : i.size = size) (hb : i.bytes = bytes) (hl : zero.length = size) (ha : isAggDesc d = true) : TyOk P t { desc := d, size, bytes, zero, flat := false } :=
  ⟨hu, ⟨i, _, info_of hi, hs, hb, hz, by subst h0; exact relL_ofFlat _ cs.toList, fun _ => ⟨cs, rfl⟩, fun h => by simp only at h; rw [ha] at h; cases h⟩, hl, fun h => by cases h⟩

theorem TyOk.one' {P : Program} {t : TypeId} {d : TypeDesc} {i : TypeInfo} {z : Value} {zero : List VVal} {size bytes : Nat} (hu : P.underlying t = some d) (hi : P.types[t]? = some i) (hz : i.zero = some z)
    (h0 : [VVal.ofFlat z] = zero) (hs : i.size = size) (hb : i.bytes = bytes) (hl : zero.length = size) (ha : (!isAggDesc d && z.cells.toList.length == 1 && !(match z with | .agg _ => true | _ => false)) = true) : TyOk P t { desc := d, size, bytes, zero, flat := false } := by
  simp only [Bool.and_eq_true, Bool.not_eq_true'] at ha
  have hc : z.cells = #[z] := by
    cases z <;> first | rfl | simp at ha
  refine ⟨hu, ⟨i, z, info_of hi, hs, hb, hz, ?_, fun h => ?_, fun _ => hc⟩, hl, fun h => by cases h⟩
  · subst h0; rw [hc]; exact relL_ofFlat _ [z]
  · simp only at h; rw [ha.1.1] at h; cases h

theorem names_ok {P : Program} (h : P.funcs.toList.all (fun fn => !(fn.name == "runtime.NumGoroutine")) = true) {f : FuncId} {fn : Func} (hf : P.funcs[f]? = some fn) : (fn.name == "runtime.NumGoroutine") = false := by
  rw [List.all_eq_true] at h
  have := h fn (by
    have : P.funcs.toList[f]? = some fn := by simpa using hf
    exact List.mem_of_getElem? this)
  simpa using this
end Go.V
