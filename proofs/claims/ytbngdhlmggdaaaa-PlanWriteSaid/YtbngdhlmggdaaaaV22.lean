/- Lists that grow by append. -/
import Derived.Test.YtbngdhlmggdaaaaV19
set_option autoImplicit false
set_option linter.unusedVariables false
namespace Go.V
open Go Go.RowKit

def vidx : VVal → Option Nat
  | .slice (some (b, _)) _ _ _ _ => some b
  | _ => none

/-- a list that was made by appends alone: nil, or a slice of an own block that nobody else has; X: the own blocks, behind h others -/
def LV (h es : Nat) (X : VHeap) (v : VVal) (cs : List VVal) (len : Nat) : Prop :=
  cs.length = len * es ∧ ((len = 0 ∧ v = .slice none 0 0 true 0) ∨ (0 < len ∧ ∃ b, v = .slice (some (h + b, 0)) len len false es ∧ X[b]? = some (.cells cs true)))

theorem LV.nil (h es : Nat) (X : VHeap) : LV h es X (.slice none 0 0 true 0) [] 0 := ⟨by simp, .inl ⟨rfl, rfl⟩⟩
theorem LV.frame {h es : Nat} {X X' : VHeap} {v : VVal} {cs : List VVal} {len : Nat} (l : LV h es X v cs len) (hf : ∀ i, vidx v = some (h + i) → X'[i]? = X[i]?) : LV h es X' v cs len := by
  refine ⟨l.1, ?_⟩
  rcases l.2 with h1 | ⟨h1, b, rfl, h2⟩
  · exact .inl h1
  · exact .inr ⟨h1, b, rfl, by rw [hf b rfl]; exact h2⟩
theorem LV.app {h es : Nat} {X : VHeap} {v : VVal} {cs : List VVal} {len : Nat} (l : LV h es X v cs len) (Y : VHeap) : LV h es (X ++ Y) v cs len := by
  refine ⟨l.1, ?_⟩
  rcases l.2 with h1 | ⟨h1, b, rfl, h2⟩
  · exact .inl h1
  · exact .inr ⟨h1, b, rfl, get_append h2⟩
theorem LV.one {h es : Nat} {X : VHeap} {v : VVal} {cs : List VVal} {len : Nat} (l : LV h es X v cs len) : v.one = true := by
  rcases l.2 with ⟨_, rfl⟩ | ⟨_, b, rfl, _⟩ <;> rfl
theorem LV.cells {h es : Nat} {X : VHeap} {v : VVal} {cs : List VVal} {len : Nat} (l : LV h es X v cs len) : v.cells = some [v] := by
  rcases l.2 with ⟨_, rfl⟩ | ⟨_, b, rfl, _⟩ <;> rfl

section
variable {T : TypeId → Option VTy} {ρ : Operand → VVal} {H : VHeap} {op : Op}

theorem v_len {T : TypeId → Option VTy} {ρ : Operand → VVal} {H : VHeap} {op : Op} {h es : Nat} {X : VHeap} {v : VVal} {cs : List VVal} {len : Nat} {a : Operand} {t : TypeId} {y : VTy} {e : TypeId} (ho : op = .call { callee := .builtin .len, args := #[a], argTypes := #[t] }) (ha : ρ a = v) (hy : T t = some y) (hd : y.desc = .slice e) (l : LV h es X v cs len) : vop T ρ H op = some (iI len, H) := by
  rw [ho]
  rcases l.2 with ⟨rfl, rfl⟩ | ⟨_, b, rfl, _⟩
  · simp [vop, vbuiltin, vlen, ha, hy, hd]
  · simp [vop, vbuiltin, vlen, ha, hy, hd]

/-- an append of what was built just before -/
theorem v_appB {s x : Operand} {ats : Array TypeId} {t u e : TypeId} {z : VTy} {du : TypeDesc} {v : VVal} {Y : VHeap} {cs new : List VVal} {len k : Nat} {kx : Nat}
    (ho : op = .call { callee := .builtin .append, args := #[s, x], argTypes := ats }) (hat : ats = #[t, u]) (hz : velem T t = some (e, z)) (hu : (T u).map (·.desc) = some du) (hdu : isSeq du = true)
    (hs : ρ s = v) (hx : ρ x = .slice (some (H.length + Y.length, 0)) k kx true z.size) (l : LV H.length z.size Y v cs len) (hn : new.length = k * z.size) (h1 : new.all VVal.one = true) (hp : 0 < z.size)
    (hb : (len + k) * z.bytes ≤ 140737488355328 ∧ len + k ≤ 140737488355328) (hk : 0 < k) :
    ∃ Y1, vop T ρ (H ++ (Y ++ [.cells new true])) op = some (.slice (some (H.length + (Y.length + 1), 0)) (len + k) (len + k) false z.size, H ++ (Y1 ++ [.cells new true, .cells (cs ++ new) true])) ∧ Y1.length = Y.length ∧ (∀ i, vidx v ≠ some (H.length + i) → Y1[i]? = Y[i]?) ∧
      LV H.length z.size (Y1 ++ [.cells new true, .cells (cs ++ new) true]) (.slice (some (H.length + (Y.length + 1), 0)) (len + k) (len + k) false z.size) (cs ++ new) (len + k) := by
  have hsrc : srcCells (H ++ (Y ++ [.cells new true])) z.size k (ρ x) = some new := by
    rw [hx]
    simp only [srcCells]
    rw [get_app rfl (x := .cells new true) (by simp)]
    simp only [cellsAt]
    rw [if_pos (by omega), List.drop_zero, List.take_of_length_le (by omega)]
  have hlen : (H ++ (Y ++ [VBlk.cells new true])).length = H.length + (Y.length + 1) := by simp
  have hcl : (cs ++ new).length = (len + k) * z.size := by rw [List.length_append, l.1, hn, Nat.add_mul]
  have hlast : ∀ Y1 : VHeap, Y1.length = Y.length → (Y1 ++ [VBlk.cells new true, .cells (cs ++ new) true])[Y.length + 1]? = some (.cells (cs ++ new) true) := by
    intro Y1 h
    rw [List.getElem?_append_right (by omega), h, show Y.length + 1 - Y.length = 1 from by omega]; rfl
  rcases l.2 with ⟨rfl, rfl⟩ | ⟨hl, b, rfl, hg⟩
  · have hcs : cs = [] := List.eq_nil_of_length_eq_zero (by have := l.1; omega)
    subst hcs
    refine ⟨Y, ?_, rfl, fun _ _ => rfl, hcl, .inr ⟨by omega, _, rfl, hlast Y rfl⟩⟩
    rw [ho, hat]
    have hk' : srcLen (ρ x) = some k := by rw [hx]; rfl
    simp only [vop, vbuiltin, List.map_cons, List.map_nil, vappend, hz, hs, hu, hk']
    rw [hsrc]
    simp only
    rw [if_pos ⟨hn, h1, hp, hb.1, hb.2, hdu⟩]
    rw [if_neg (by omega), if_neg (by omega), if_neg (by simp), hlen]
    simp
  · have hbY : b < Y.length := (List.getElem?_eq_some_iff.1 hg).1
    refine ⟨Y.set b .dead, ?_, by simp, fun i hi => ?_, hcl, .inr ⟨by omega, _, rfl, hlast _ (by simp)⟩⟩
    · rw [ho, hat]
      have hk' : srcLen (ρ x) = some k := by rw [hx]; rfl
      simp only [vop, vbuiltin, List.map_cons, List.map_nil, vappend, hz, hs, hu, hk']
      rw [hsrc]
      simp only
      rw [if_pos ⟨hn, h1, hp, hb.1, hb.2, hdu⟩]
      rw [if_pos trivial, get_app rfl (x := .cells cs true) (get_append hg)]
      simp only
      rw [if_neg (by omega)]
      have hca : cellsAt cs 0 (len * z.size) = some cs := by
        unfold cellsAt; rw [if_pos (by have := l.1; omega), List.drop_zero, List.take_of_length_le (by have := l.1; omega)]
      rw [hca]
      simp only
      rw [if_neg (by simp), if_pos trivial, hlen, set_app rfl, List.set_append_left _ _ hbY]
      simp
    · rw [List.getElem?_set_ne]
      rintro rfl
      exact hi rfl
end

section
variable {S : Sys} {H0 H : VHeap}
/-- such a list frozen -/
theorem Gh.freezeLV {vs vs' : List VVal} {X : VHeap} {es : Nat} {v : VVal} {cs : List VVal} {len : Nat} (i : Nat) (l : LV H.length es X v cs len) (hv : vs[i]? = some v) (he : vs.set i (.fsl cs len es false) = vs') :
    ∃ X', Gh S H0 vs (H ++ X) vs' (H ++ X') ∧ X'.length = X.length ∧ ∀ j, vidx v ≠ some (H.length + j) → X'[j]? = X[j]? := by
  rcases l.2 with ⟨rfl, rfl⟩ | ⟨hl, b, rfl, hg⟩
  · have hcs : cs = [] := List.eq_nil_of_length_eq_zero (by have := l.1; omega)
    subst hcs
    exact ⟨X, Gh.freezeNil i hv he, rfl, fun _ _ => rfl⟩
  · refine ⟨X.set b .dead, Gh.freezeL i b hv hg ?_ (Nat.le_refl _) he, by simp, fun j hj => ?_⟩
    · unfold cellsAt; rw [if_pos (by have := l.1; omega), List.drop_zero, List.take_of_length_le (by have := l.1; omega)]
    · rw [List.getElem?_set_ne]
      rintro rfl
      exact hj rfl
/-- the answer is such a list: frozen, all else forgotten -/
theorem Gh.ansLV {B X : VHeap} {es : Nat} {v : VVal} {cs : List VVal} {len : Nat} (hB : BaseOk H B) (l : LV B.length es X v cs len) (hu : VVal.underL H.length cs = true) : Gh S H [v] (B ++ X) [.fsl cs len es false] B := by
  obtain ⟨X', g, _⟩ := Gh.freezeLV (S := S) (H0 := H) (vs := [v]) 0 l rfl rfl
  exact Gh.trans g (Gh.back hB (by simp [VVal.underL, VVal.under, hu]))
end
end Go.V
namespace Go.V
open Go Go.RowKit
section
variable {S : Sys} {H0 H : VHeap} {ops : Array Oper} {o : Oper} {l : List Oper} {env : VEnv} {K : VEnv → VHeap → Prop}
/-- an operation of which a law tells what it comes to -/
theorem L_opX {R : VVal → VHeap → Prop} (hg : vwanted ops env o.guard = some true) (hc : calleeOf S.C.meth env.eval o.op = none) (hv : ∃ v G, vop S.C.T env.eval H o.op = some (v, G) ∧ R v G)
    (h : ∀ v G, R v G → WL S H0 ops l (env.put o.dst v) G K) : WL S H0 ops (o :: l) env H K := by
  obtain ⟨v, G, h1, h2⟩ := hv
  exact L_op hg hc h1 rfl (h v G h2)
end
section
variable {S : Sys} {H : VHeap} {ops : Array Oper} {bef : Array Nat} {i : Nat} {li : List Nat} {o : Oper} {env : VEnv} {tk tk' : List (Nat × Tr)} {K : VEnv → VHeap → Prop}
theorem O_opX {R : VVal → VHeap → Prop} (c : Cls) (ho : ops[i]? = some o) (hg : vwanted ops env o.guard = some true) (hc : calleeOf S.C.meth env.eval o.op = none)
    (hv : ∃ v G, vop S.C.T env.eval H o.op = some (v, G) ∧ R v G) (hk : clsOf S.C.T o.op = c) (ht : tk ++ [(i, .k c)] = tk') (h : ∀ v G, R v G → WO S ops bef li (env.put o.dst v) G tk' K) : WO S ops bef (i :: li) env H tk K := by
  obtain ⟨v, G, h1, h2⟩ := hv
  exact O_op ho hg hc h1 hk rfl ht (h v G h2)
theorem O_env {env' : VEnv} (he : env = env') (h : WO S ops bef li env' H tk K) : WO S ops bef li env H tk K := he ▸ h
end
section
variable {T : TypeId → Option VTy} {ρ : Operand → VVal} {H : VHeap} {op : Op}
/-- v_appB, told as a law -/
theorem v_appX {s x : Operand} {ats : Array TypeId} {t u e : TypeId} {z : VTy} {du : TypeDesc} {v : VVal} {Y : VHeap} {cs new : List VVal} {len k : Nat} {kx : Nat}
    (ho : op = .call { callee := .builtin .append, args := #[s, x], argTypes := ats }) (hat : ats = #[t, u]) (hz : velem T t = some (e, z)) (hu : (T u).map (·.desc) = some du) (hdu : isSeq du = true)
    (hs : ρ s = v) (hx : ρ x = .slice (some (H.length + Y.length, 0)) k kx true z.size) (l : LV H.length z.size Y v cs len) (hn : new.length = k * z.size) (h1 : new.all VVal.one = true) (hp : 0 < z.size)
    (hb : (len + k) * z.bytes ≤ 140737488355328 ∧ len + k ≤ 140737488355328) (hk : 0 < k) :
    ∃ u G, vop T ρ (H ++ (Y ++ [.cells new true])) op = some (u, G) ∧ ∃ Y1, u = .slice (some (H.length + (Y.length + 1), 0)) (len + k) (len + k) false z.size ∧ G = H ++ (Y1 ++ [.cells new true, .cells (cs ++ new) true]) ∧ Y1.length = Y.length ∧ (∀ i, vidx v ≠ some (H.length + i) → Y1[i]? = Y[i]?) ∧
      LV H.length z.size (Y1 ++ [.cells new true, .cells (cs ++ new) true]) (.slice (some (H.length + (Y.length + 1), 0)) (len + k) (len + k) false z.size) (cs ++ new) (len + k) := by
  obtain ⟨Y1, h1', h2, h3, h4⟩ := v_appB (ρ := ρ) (H := H) (op := op) ho hat hz hu hdu hs hx l hn h1 hp hb hk
  exact ⟨_, _, h1', Y1, rfl, rfl, h2, h3, h4⟩
end
end Go.V
namespace Go.V
open Go Go.RowKit
section
variable {T : TypeId → Option VTy} {ρ : Operand → VVal} {H : VHeap} {op : Op}
/-- an append of a list that nobody writes any more to a fresh slice of nothing -/
theorem v_appE {s x : Operand} {ats : Array TypeId} {t u e : TypeId} {z : VTy} {du : TypeDesc} {L : VHeap} {cs : List VVal} {j k : Nat} {ex : Bool}
    (ho : op = .call { callee := .builtin .append, args := #[s, x], argTypes := ats }) (hat : ats = #[t, u]) (hz : velem T t = some (e, z)) (hu : (T u).map (·.desc) = some du) (hdu : isSeq du = true)
    (hs : ρ s = .slice (some (H.length + j, 0)) 0 0 true z.size) (hj : L[j]? = some (.cells [] true)) (hx : ρ x = .fsl cs k z.size ex) (hn : cs.length = k * z.size) (h1 : cs.all VVal.one = true) (hp : 0 < z.size)
    (hb : k * z.bytes ≤ 140737488355328 ∧ k ≤ 140737488355328) :
    ∃ v G, vop T ρ (H ++ L) op = some (v, G) ∧ ∃ Z i, G = H ++ (L ++ Z) ∧ v = .slice (some (H.length + i, 0)) k k (decide (k = 0)) z.size ∧ (L ++ Z)[i]? = some (.cells cs true) := by
  have hk' : srcLen (ρ x) = some k := by rw [hx]; rfl
  have hsrc : srcCells (H ++ L) z.size k (ρ x) = some cs := by
    rw [hx]
    show cellsAt cs 0 (k * z.size) = some cs
    unfold cellsAt; rw [if_pos (by omega), List.drop_zero, List.take_of_length_le (by omega)]
  by_cases h0 : k = 0
  · subst h0
    have hcs : cs = [] := List.eq_nil_of_length_eq_zero (by omega)
    subst hcs
    refine ⟨_, _, ?_, [], j, by rw [List.append_nil], rfl, by rw [List.append_nil]; exact hj⟩
    rw [ho, hat]
    simp only [vop, vbuiltin, List.map_cons, List.map_nil, vappend, hz, hs, hu, hk']
    rw [hsrc]
    simp only
    rw [if_pos ⟨hn, h1, hp, by simp, by simp, hdu⟩]
    rw [if_pos trivial, get_app rfl (x := .cells [] true) hj]
    rfl
  · refine ⟨.slice (some (H.length + L.length, 0)) k k false z.size, H ++ (L ++ [.cells cs true]), ?_, [.cells cs true], L.length, rfl, ?_, by simp⟩
    · rw [ho, hat]
      simp only [vop, vbuiltin, List.map_cons, List.map_nil, vappend, hz, hs, hu, hk']
      rw [hsrc]
      simp only
      rw [if_pos ⟨hn, h1, hp, by simpa using hb.1, by simpa using hb.2, hdu⟩]
      rw [if_pos trivial, get_app rfl (x := .cells [] true) hj]
      simp only
      rw [if_neg (by omega)]
      simp [cellsAt]
    · rw [decide_eq_false h0]
end
end Go.V
namespace Go.V
theorem LV.ne {h es n : Nat} {X : VHeap} {v : VVal} {cs : List VVal} {len : Nat} (l : LV h es X v cs len) (hn : X.length ≤ n) : vidx v ≠ some (h + n) := by
  rcases l.2 with ⟨_, rfl⟩ | ⟨_, b, rfl, hb⟩
  · simp [vidx]
  · have := (List.getElem?_eq_some_iff.1 hb).1
    simp only [vidx, ne_eq, Option.some.injEq]; omega
end Go.V
namespace Go.V
open Go Go.RowKit
/-- the arguments seen otherwise -/
theorem F.pre {S : Sys} {f : FuncId} {args args' : List VVal} {H H' : VHeap} {R : VVal → VHeap → Prop} (g : Gh S H args H args' H') (h : F S f args' H' R) : F S f args H R := by
  intro n w ι xs s r
  obtain ⟨gl, g2⟩ := g (Nat.le_refl _)
  obtain ⟨ι1, e1, s1, r1⟩ := g2 w ι xs.toList (Base.self s) s r
  obtain ⟨a, b⟩ := h n w ι1 xs s1 r1
  refine ⟨a, CallsIn.mono b ?_⟩
  rintro e w' ⟨x, v, G, ι', h1, h2, h3, h4, h5, h6⟩
  exact ⟨x, v, G, ι', h1, Inj.ex_trans e1 h2 gl, Nat.le_trans gl h3, h4, h5, h6⟩
section
variable {T : TypeId → Option VTy} {ρ : Operand → VVal} {H : VHeap} {op : Op}
/-- an append of a list that nobody writes any more to an own slice without spare room -/
theorem v_appO {s x : Operand} {ats : Array TypeId} {t u e : TypeId} {z : VTy} {du : TypeDesc} {L : VHeap} {cs fs : List VVal} {j n k : Nat} {ex ex2 : Bool}
    (ho : op = .call { callee := .builtin .append, args := #[s, x], argTypes := ats }) (hat : ats = #[t, u]) (hz : velem T t = some (e, z)) (hu : (T u).map (·.desc) = some du) (hdu : isSeq du = true)
    (hs : ρ s = .slice (some (H.length + j, 0)) n n ex z.size) (hj : L[j]? = some (.cells cs true)) (hcs : cs.length = n * z.size) (hx : ρ x = .fsl fs k z.size ex2) (hn : fs.length = k * z.size) (h1 : fs.all VVal.one = true) (hp : 0 < z.size)
    (hb : (n + k) * z.bytes ≤ 140737488355328 ∧ n + k ≤ 140737488355328) :
    ∃ v G, vop T ρ (H ++ L) op = some (v, G) ∧ ∃ Z i c ex', G = H ++ Z ∧ v = .slice (some (H.length + i, 0)) (n + k) c ex' z.size ∧ n + k ≤ c ∧ Z[i]? = some (.cells (cs ++ fs) true) := by
  have hk' : srcLen (ρ x) = some k := by rw [hx]; rfl
  have hsrc : srcCells (H ++ L) z.size k (ρ x) = some fs := by
    rw [hx]
    show cellsAt fs 0 (k * z.size) = some fs
    unfold cellsAt; rw [if_pos (by omega), List.drop_zero, List.take_of_length_le (by omega)]
  have hca : cellsAt cs 0 (n * z.size) = some cs := by
    unfold cellsAt; rw [if_pos (by omega), List.drop_zero, List.take_of_length_le (by omega)]
  have start : ∀ r, (vop T ρ (H ++ L) op = some r ↔ (if n + k ≤ n then (if k = 0 then some (.slice (some (H.length + j, 0)) n n ex z.size, H ++ L) else if true = true ∧ 0 + n * z.size ≤ cs.length then some (.slice (some (H.length + j, 0)) (n + k) n ex z.size, (H ++ L).set (H.length + j) (.cells (splice cs (0 + n * z.size) fs) true)) else none)
      else if ex = true then some (.slice (some ((H ++ L).length, 0)) (n + k) (n + k) false z.size, (H ++ L) ++ [.cells (cs ++ fs) true]) else some (.slice (some ((H ++ L).length, 0)) (n + k) (n + k) false z.size, (H ++ L).set (H.length + j) .dead ++ [.cells (cs ++ fs) true])) = some r) := by
    intro r
    rw [ho, hat]
    simp only [vop, vbuiltin, List.map_cons, List.map_nil, vappend, hz, hs, hu, hk']
    rw [hsrc]
    simp only
    rw [if_pos ⟨hn, h1, hp, hb.1, hb.2, hdu⟩, if_pos trivial, get_app rfl (x := .cells cs true) hj]
    simp only [hca, if_true]
  by_cases h0 : k = 0
  · subst h0
    have hfs : fs = [] := List.eq_nil_of_length_eq_zero (by omega)
    subst hfs
    refine ⟨_, _, (start _).2 (by rw [if_pos (by omega), if_pos rfl]; rfl), L, j, n, ex, rfl, rfl, by omega, by rw [List.append_nil]; exact hj⟩
  · cases ex with
    | true => exact ⟨_, _, (start _).2 (by rw [if_neg (by omega), if_pos rfl]), L ++ [.cells (cs ++ fs) true], L.length, n + k, false, by rw [List.append_assoc], by rw [List.length_append], Nat.le_refl _, by simp⟩
    | false => exact ⟨_, _, (start _).2 (by rw [if_neg (by omega), if_neg (by simp)]), L.set j .dead ++ [.cells (cs ++ fs) true], L.length, n + k, false, by rw [set_app rfl, List.append_assoc], by rw [List.length_append], Nat.le_refl _, by
        rw [List.getElem?_append_right (by simp)]; simp⟩
end
end Go.V
namespace Go.V
open Go Go.RowKit
section
variable {T : TypeId → Option VTy} {ρ : Operand → VVal} {H : VHeap} {op : Op}
/-- the first k of a list that nobody writes any more -/
theorem v_sliceHi {t e : TypeId} {x hi : Operand} {y z : VTy} {cs : List VVal} {len es k : Nat} {ex : Bool} {kd : IntKind} (ho : op = .slice t x none (some hi) none) (hy : T t = some y) (hd : y.desc = .slice e) (hz : T e = some z) (hs : z.size = es) (hx : ρ x = .fsl cs len es ex) (hh : ρ hi = .int kd (k : Nat)) (hk : k ≤ len)
    (hl : cs.length = len * es) : vop T ρ H op = some (.fsl (cs.take (k * es)) k es (ex && k == len), H) := by
  have hle : k * es ≤ len * es := Nat.mul_le_mul_right _ hk
  rw [ho]
  have hc : cellsAt cs 0 (k * es) = some (cs.take (k * es)) := by unfold cellsAt; rw [if_pos (by omega), List.drop_zero]
  have hb : vbounds len len none (some (.int kd (k : Nat))) none = some (0, k, len) := by
    simp only [vbounds]
    rw [if_pos (by omega)]
    simp
  simp [vop, vslice, hy, hd, hx, hz, hs, hh, hb, hc]
/-- .. what comes behind them -/
theorem v_sliceLo {t e : TypeId} {x lo : Operand} {y z : VTy} {cs : List VVal} {len es k : Nat} {ex : Bool} {kd : IntKind} (ho : op = .slice t x (some lo) none none) (hy : T t = some y) (hd : y.desc = .slice e) (hz : T e = some z) (hs : z.size = es) (hx : ρ x = .fsl cs len es ex) (hh : ρ lo = .int kd (k : Nat)) (hk : k ≤ len)
    (hl : cs.length = len * es) : vop T ρ H op = some (.fsl (cs.drop (k * es)) (len - k) es ex, H) := by
  have hle : k * es ≤ len * es := Nat.mul_le_mul_right _ hk
  rw [ho]
  have hc : cellsAt cs (k * es) ((len - k) * es) = some (cs.drop (k * es)) := by
    unfold cellsAt; rw [if_pos (by rw [Nat.sub_mul]; omega), List.take_of_length_le (by rw [List.length_drop, Nat.sub_mul]; omega)]
  have hb : vbounds len len (some (.int kd (k : Nat))) none none = some (k, len, len) := by
    simp only [vbounds]
    rw [if_pos (by omega)]
    simp
  simp [vop, vslice, hy, hd, hx, hz, hs, hh, hb, hc]
end
end Go.V
namespace Go.V
open Go Go.RowKit
theorem O_opXI {S : Sys} {H : VHeap} {ops : Array Oper} {bef : Array Nat} {i : Nat} {li : List Nat} {o : Oper} {env : VEnv} {tk : List (Nat × Tr)} {K : VEnv → VHeap → Prop} {R : VVal → VHeap → Prop} (x : VVal → VHeap → Item') (ho : ops[i]? = some o) (hg : vwanted ops env o.guard = some true) (hc : calleeOf S.C.meth env.eval o.op = none)
    (hv : ∃ v G, vop S.C.T env.eval H o.op = some (v, G) ∧ R v G) (hx : ∀ v G, itemOf S.C.T o.op env.eval v H G = x v G) (h : ∀ v G, R v G → WO S ops bef li (env.put o.dst v) G (tk ++ [(i, .it (x v G))]) K) : WO S ops bef (i :: li) env H tk K := by
  obtain ⟨v, G, h1, h2⟩ := hv
  exact O_opI ho hg hc h1 (hx v G) rfl rfl (h v G h2)
end Go.V
namespace Go.V
open Go Go.RowKit
theorem v_is {T : TypeId → Option VTy} {ρ : Operand → VVal} {H : VHeap} {op : Op} {t : Bool} (b : Bool) (h : vop T ρ H op = some (.bool t, H)) (e : t = b) : vop T ρ H op = some (.bool b, H) := e ▸ h
theorem v_val {T : TypeId → Option VTy} {ρ : Operand → VVal} {H : VHeap} {op : Op} {v u : VVal} (h : vop T ρ H op = some (v, H)) (e : v = u) : vop T ρ H op = some (u, H) := e ▸ h
end Go.V
