/- Lists that grow, more than one at a time, behind blocks that stay; in cells of a block. -/
import Derived.Test.YtbngdhlmggdaaaaV28
set_option autoImplicit false
set_option linter.unusedVariables false
set_option linter.unusedSimpArgs false
namespace Go.V
open Go Go.RowKit
theorem setB {H L X : VHeap} {n j : Nat} {k : VBlk} (hn : H.length = n) (hj : j < L.length) : ((H ++ L) ++ X).set (n + j) k = (H ++ L.set j k) ++ X := by
  subst hn
  rw [List.set_append_left _ _ (by simp; omega), List.set_append_right _ _ (by omega), Nat.add_sub_cancel_left]
theorem getB {H L X : VHeap} {n j : Nat} {k : VBlk} (hn : H.length = n) (hj : L[j]? = some k) : ((H ++ L) ++ X)[n + j]? = some k := get_append (get_app hn hj)
section
variable {T : TypeId → Option VTy} {ρ : Operand → VVal} {B : VHeap} {op : Op}
theorem v_appXh {h : Nat} {s x : Operand} {ats : Array TypeId} {t u e : TypeId} {z : VTy} {du : TypeDesc} {v : VVal} {Y : VHeap} {cs new : List VVal} {len k : Nat} {kx : Nat}
    (ho : op = .call { callee := .builtin .append, args := #[s, x], argTypes := ats }) (hat : ats = #[t, u]) (hz : velem T t = some (e, z)) (hu : (T u).map (·.desc) = some du) (hdu : isSeq du = true)
    (hs : ρ s = v) (hx : ρ x = .slice (some (B.length + Y.length, 0)) k kx true z.size) (hh : B.length = h) (l : LV h z.size Y v cs len) (hn : new.length = k * z.size) (h1 : new.all VVal.one = true) (hp : 0 < z.size)
    (hb : (len + k) * z.bytes ≤ 140737488355328 ∧ len + k ≤ 140737488355328) (hk : 0 < k) :
    ∃ u G, vop T ρ (B ++ (Y ++ [.cells new true])) op = some (u, G) ∧ ∃ Y1, u = .slice (some (h + (Y.length + 1), 0)) (len + k) (len + k) false z.size ∧ G = B ++ (Y1 ++ [.cells new true, .cells (cs ++ new) true]) ∧ Y1.length = Y.length ∧ (∀ i, vidx v ≠ some (h + i) → Y1[i]? = Y[i]?) ∧
      LV h z.size (Y1 ++ [.cells new true, .cells (cs ++ new) true]) (.slice (some (h + (Y.length + 1), 0)) (len + k) (len + k) false z.size) (cs ++ new) (len + k) := by
  subst hh
  exact v_appX ho hat hz hu hdu hs hx l hn h1 hp hb hk
end
section
variable {S : Sys} {H0 : VHeap}
/-- a list that grows, in a cell of another block: frozen -/
theorem Gh.cellLV {vs : List VVal} {H L X : VHeap} {c j h es : Nat} {cs2 cs : List VVal} {v : VVal} {len : Nat} (hc : L[c]? = some (.cells cs2 true)) (hj : cs2[j]? = some v) (hh : (H ++ L).length = h) (l : LV h es X v cs len) :
    ∃ X', Gh S H0 vs ((H ++ L) ++ X) vs ((H ++ L.set c (.cells (cs2.set j (.fsl cs len es false)) true)) ++ X') ∧ X'.length = X.length ∧ ∀ i, vidx v ≠ some (h + i) → X'[i]? = X[i]? := by
  have hcl : c < L.length := lt_of_get hc
  have hc' : ((H ++ L) ++ X)[H.length + c]? = some (.cells cs2 true) := getB rfl hc
  rcases l.2 with ⟨rfl, rfl⟩ | ⟨h0, b, rfl, hb⟩
  · refine ⟨X, ?_, rfl, fun _ _ => rfl⟩
    have hcs : cs = [] := List.eq_nil_of_length_eq_zero (by rw [l.1]; omega)
    subst hcs
    have := Gh.cellNil (S := S) (H0 := H0) (vs := vs) (es' := es) _ j hc' hj
    rwa [setB rfl hcl] at this
  · refine ⟨X.set b .dead, ?_, by simp, fun i hi => by rw [List.getElem?_set_ne (fun e => hi (by subst e; rfl))]⟩
    have hbl : b < X.length := lt_of_get hb
    have hg : ((H ++ L) ++ X)[h + b]? = some (.cells cs true) := by subst hh; exact get_app rfl hb
    have hlen : (H ++ L).length = H.length + L.length := by simp
    have hl : cellsAt cs 0 (len * es) = some cs := by
      unfold cellsAt; rw [if_pos (by rw [l.1]; omega), List.drop_zero, List.take_of_length_le (by rw [l.1]; omega)]
    have := Gh.cell (S := S) (H0 := H0) (vs := vs) _ j hc' hj (by omega) hg hl (Nat.le_refl _)
    rw [show ((H ++ L) ++ X).set (h + b) .dead = (H ++ L) ++ X.set b .dead by subst hh; exact set_app rfl, setB rfl hcl] at this
    exact this
theorem B_ghCell {rd : Option Nat} {env : VEnv} {Q : Post} {H L X : VHeap} {c1 : Code} (c j : Nat) {h es : Nat} {cs2 cs : List VVal} {v : VVal} {len : Nat} (l : LV h es X v cs len) (hc : L[c]? = some (.cells cs2 true)) (hj : cs2[j]? = some v) (hh : (H ++ L).length = h)
    (k : ∀ X', X'.length = X.length → (∀ i, vidx v ≠ some (h + i) → X'[i]? = X[i]?) → B S H0 rd c1 env ((H ++ L.set c (.cells (cs2.set j (.fsl cs len es false)) true)) ++ X') Q) : B S H0 rd c1 env ((H ++ L) ++ X) Q := by
  obtain ⟨X', g, h1, h2⟩ := Gh.cellLV (S := S) (H0 := H0) (vs := env) hc hj hh l
  exact B_gh g (k X' h1 h2)
/-- .. in a slot -/
theorem B_ghLVh {rd : Option Nat} {env env' : VEnv} {Q : Post} {B0 X : VHeap} {c : Code} {h es : Nat} {v : VVal} {cs : List VVal} {len : Nat} (i : Nat) (l : LV h es X v cs len) (hh : B0.length = h) (hv : env[i]? = some v) (he : env.set i (.fsl cs len es false) = env')
    (k : ∀ X', X'.length = X.length → (∀ j, vidx v ≠ some (h + j) → X'[j]? = X[j]?) → B S H0 rd c env' (B0 ++ X') Q) : B S H0 rd c env (B0 ++ X) Q := by
  subst hh; exact B_ghLV i l hv he k
/-- a pointer to the last block: nobody writes it any more -/
theorem Gh.freezeEnd {vs vs' : List VVal} {B0 X : VHeap} {cs : List VVal} (i : Nat) (hv : vs[i]? = some (.ptr (some (B0.length + X.length, 0)))) (he : vs.set i (.fptr cs 0) = vs') : Gh S H0 vs (B0 ++ (X ++ [.cells cs true])) vs' (B0 ++ (X ++ [.dead])) := by
  have := Gh.freezePtrL (S := S) (H0 := H0) (H := B0) (L := X ++ [.cells cs true]) i X.length hv get_end he
  rwa [set_end] at this
end
section
variable {T : TypeId → Option VTy} {ρ : Operand → VVal} {H : VHeap} {op : Op} {t e : TypeId} {x : Operand} {y z : VTy} {k : Nat} {kd : IntKind}
theorem v_iHi {hi : Operand} {l : List Int} (ho : op = .slice t x none (some hi) none) (hy : T t = some y) (hd : y.desc = .slice e) (hz : T e = some z) (hs : z.size = 1) (hx : ρ x = fzI l) (hh : ρ hi = .int kd (k : Nat)) (hk : k ≤ l.length) : vop T ρ H op = some (fzI (l.take k), H) := by
  rw [v_sliceHi ho hy hd hz hs hx hh hk (by rw [List.length_map]; omega)]
  simp [fzI, Nat.min_eq_left hk, List.map_take]
theorem v_bHi {hi : Operand} {l : List UInt8} (ho : op = .slice t x none (some hi) none) (hy : T t = some y) (hd : y.desc = .slice e) (hz : T e = some z) (hs : z.size = 1) (hx : ρ x = fzB l) (hh : ρ hi = .int kd (k : Nat)) (hk : k ≤ l.length) : vop T ρ H op = some (fzB (l.take k), H) := by
  rw [v_sliceHi ho hy hd hz hs hx hh hk (by rw [List.length_map]; omega)]
  simp [fzB, Nat.min_eq_left hk, List.map_take]
theorem v_bLo {lo : Operand} {l : List UInt8} (ho : op = .slice t x (some lo) none none) (hy : T t = some y) (hd : y.desc = .slice e) (hz : T e = some z) (hs : z.size = 1) (hx : ρ x = fzB l) (hh : ρ lo = .int kd (k : Nat)) (hk : k ≤ l.length) : vop T ρ H op = some (fzB (l.drop k), H) := by
  rw [v_sliceLo ho hy hd hz hs hx hh hk (by rw [List.length_map]; omega)]
  simp [fzB, List.map_drop]
end
theorem LV.keep {h es : Nat} {X Y1 : VHeap} {v s : VVal} {cs : List VVal} {len : Nat} (l : LV h es X v cs len) (hd : ∀ n, vidx v = some n → vidx s ≠ some n) (hY : ∀ i, vidx s ≠ some (h + i) → Y1[i]? = X[i]?) : LV h es Y1 v cs len :=
  LV.frame l fun i hi => hY i (hd _ hi)
theorem LV.lt {h es : Nat} {X : VHeap} {v : VVal} {cs : List VVal} {len : Nat} (l : LV h es X v cs len) : ∀ n, vidx v = some n → n < h + X.length := fun n hn => by
  rcases l.2 with ⟨_, rfl⟩ | ⟨_, b, rfl, hb⟩
  · cases hn
  · simp only [vidx, Option.some.injEq] at hn
    have := lt_of_get hb; omega
/-- a list and a new block -/
theorem LV.far {h es m : Nat} {X : VHeap} {v : VVal} {cs : List VVal} {len : Nat} (l : LV h es X v cs len) (hm : X.length ≤ m) {o : Nat} {n c e2 : Nat} {ex : Bool} : ∀ k, vidx v = some k → vidx (.slice (some (h + m, o)) n c ex e2) ≠ some k := fun k hk e => by
  have := l.lt k hk
  simp only [vidx, Option.some.injEq] at e; omega
end Go.V
