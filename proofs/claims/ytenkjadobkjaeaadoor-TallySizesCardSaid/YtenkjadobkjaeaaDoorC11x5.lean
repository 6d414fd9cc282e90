/- Proved: Rows.TallySizesCardSaid, the statement TallySizes with its card, of the given program at the commit; no conditions beyond those in the statement. -/
import Derived.Test.YtenkjadobkjaeaaDoorC11x4
import Derived.TacticsInMore
set_option autoImplicit false
set_option linter.unusedVariables false
set_option linter.unusedSimpArgs false
namespace Go.V
open Go Go.RowKit
theorem vwrite_len {H H' : Zf} {p : Nat × Nat} {l : List VVal} (h : vwrite H p l = some H') : H'.length = H.length := by
  unfold vwrite at h
  split at h
  · split at h
    · cases h; simp
    · cases h
  · cases h
theorem vstore_len {T : TypeId → Option VTy} {H H' : Zf} {t : TypeId} {a v : VVal} (h : vstore T H t a v = some H') : H'.length = H.length := by
  unfold vstore at h
  split at h
  · split at h
    · exact vwrite_len h
    · cases h
  · cases h
theorem vappend_len {T : TypeId → Option VTy} {H H' : Zf} {ats : List TypeId} {d x v : VVal} (h : YH T H ats d x = some (v, H')) : H.length ≤ H'.length := by
  unfold YH at h
  repeat' (split at h)
  all_goals first
    | (simp only [Option.some.injEq, Prod.mk.injEq] at h; obtain ⟨rfl, rfl⟩ := h; simp; done)
    | cases h
theorem vcopy_len {T : TypeId → Option VTy} {H H' : Zf} {t : TypeId} {d x v : VVal} (h : vcopy T H t d x = some (v, H')) : H.length ≤ H'.length := by
  unfold vcopy at h
  simp only at h
  repeat' (split at h)
  all_goals first
    | (simp only [Option.map_eq_some_iff, Prod.mk.injEq] at h; obtain ⟨H1, hw, rfl, rfl⟩ := h; exact Nat.le_of_eq (vwrite_len hw).symm)
    | (simp only [Option.some.injEq, Prod.mk.injEq] at h; obtain ⟨rfl, rfl⟩ := h; exact Nat.le_refl _)
    | cases h
theorem vclear_len {T : TypeId → Option VTy} {H H' : Zf} {t : TypeId} {x v : VVal} (h : vclear T H t x = some (v, H')) : H.length ≤ H'.length := by
  unfold vclear at h
  repeat' (split at h)
  all_goals first
    | (simp only [Option.map_eq_some_iff, Prod.mk.injEq] at h; obtain ⟨H1, hw, rfl, rfl⟩ := h; exact Nat.le_of_eq (vwrite_len hw).symm)
    | (simp only [Option.some.injEq, Prod.mk.injEq] at h; obtain ⟨rfl, rfl⟩ := h; exact Nat.le_refl _)
    | cases h
theorem vconvert_len {T : TypeId → Option VTy} {H H' : Zf} {s d : TypeId} {x v : VVal} (h : Yl T H s d x = some (v, H')) : H.length ≤ H'.length := by
  unfold Yl at h
  repeat' (split at h)
  all_goals first
    | (simp only [Option.map_eq_some_iff, Prod.mk.injEq] at h; obtain ⟨_, _, rfl, rfl⟩ := h; exact Nat.le_refl _)
    | (simp only [Option.some.injEq, Prod.mk.injEq] at h; obtain ⟨rfl, rfl⟩ := h; simp; done)
    | cases h
theorem vbuiltin_len {T : TypeId → Option VTy} {H H' : Zf} {b : Builtin} {ats : List TypeId} {args : List VVal} {v : VVal} (h : ZW T H b ats args = some (v, H')) : H.length ≤ H'.length := by
  unfold ZW at h
  repeat' (split at h)
  all_goals first
    | exact vappend_len h
    | exact vcopy_len h
    | exact vclear_len h
    | (simp only [Option.map_eq_some_iff, Prod.mk.injEq] at h; obtain ⟨_, _, rfl, rfl⟩ := h; exact Nat.le_refl _)
    | cases h
theorem vbuildSlice_len {T : TypeId → Option VTy} {H H' : Zf} {t : TypeId} {n : Nat} {ps : List (Nat × VVal)} {v : VVal} (h : vbuildSlice T H t n ps = some (v, H')) : H.length ≤ H'.length := by
  unfold vbuildSlice at h
  repeat' (split at h)
  all_goals first
    | (simp only [Option.map_eq_some_iff, Prod.mk.injEq] at h; obtain ⟨_, _, rfl, rfl⟩ := h; simp; done)
    | cases h
theorem vmakeSlice_len {T : TypeId → Option VTy} {H H' : Zf} {t : TypeId} {a b : VVal} {v : VVal} (h : vmakeSlice T H t a b = some (v, H')) : H.length ≤ H'.length := by
  unfold vmakeSlice at h
  repeat' (split at h)
  all_goals first
    | (simp only [Option.some.injEq, Prod.mk.injEq] at h; obtain ⟨rfl, rfl⟩ := h; simp; done)
    | cases h
theorem vmapUpdate_len {T : TypeId → Option VTy} {H H' : Zf} {t : TypeId} {a b c : VVal} (h : vmapUpdate T H t a b c = some H') : H.length ≤ H'.length := by
  unfold vmapUpdate at h
  repeat' (split at h)
  all_goals first
    | (simp only [Option.map_eq_some_iff] at h; obtain ⟨_, _, rfl⟩ := h; simp; done)
    | (cases h; simp; done)
    | cases h
theorem vop_len {T : TypeId → Option VTy} {ρ : Operand → VVal} {H H' : Zf} {o : Op} {v : VVal} (h : vop T ρ H o = some (v, H')) : H.length ≤ H'.length := by
  unfold vop at h
  split at h
  all_goals first
    | exact vconvert_len h
    | exact vbuiltin_len h
    | exact vbuildSlice_len h
    | exact vmakeSlice_len h
    | (simp only [Option.map_eq_some_iff, Prod.mk.injEq] at h; obtain ⟨_, _, rfl, rfl⟩ := h; exact Nat.le_refl _)
    | (simp only [Option.map_eq_some_iff, Prod.mk.injEq] at h; obtain ⟨_, hs, rfl, rfl⟩ := h; exact Nat.le_of_eq (vstore_len hs).symm)
    | (simp only [Option.map_eq_some_iff, Prod.mk.injEq] at h; obtain ⟨_, hs, rfl, rfl⟩ := h; exact vmapUpdate_len hs)
    | (simp only [Option.some.injEq, Prod.mk.injEq] at h; obtain ⟨rfl, rfl⟩ := h; simp; done)
    | (simp only [Option.map_eq_some_iff, vnew, Prod.mk.injEq] at h; obtain ⟨_, _, rfl, rfl⟩ := h; simp; done)
    | (split at h <;> first | (simp only [Option.some.injEq, Prod.mk.injEq] at h; obtain ⟨rfl, rfl⟩ := h; exact Nat.le_refl _) | cases h)
    | cases h
theorem runOps_len {T : TypeId → Option VTy} {meth : TypeId → String → Option FuncId} {call : Nat → YR} (hcall : ∀ i f args H v H', call i f args H = some (v, H') → H.length ≤ H'.length) (ops : Array Oper) :
    ∀ (l : List Nat) (env : VEnv) (H : Zf) (tr : List (Nat × Item')) (env' : VEnv) (H' : Zf) (tr' : List (Nat × Item')), runOps T meth call ops l env H tr = some (env', H', tr') → H.length ≤ H'.length
  | [], env, H, tr, env', H', tr', h => by
    simp only [runOps, Option.some.injEq, Prod.mk.injEq] at h
    obtain ⟨_, rfl, _⟩ := h; exact Nat.le_refl _
  | i :: l, env, H, tr, env', H', tr', h => by
    simp only [runOps] at h
    split at h
    · cases h
    · split at h
      · rename_i v H1 it hop
        have h1 : H.length ≤ H1.length := by
          unfold YN at hop
          split at hop
          · cases hop
          · cases hop; exact Nat.le_refl _
          · split at hop
            · split at hop
              · rename_i hc; cases hop; exact hcall _ _ _ _ _ _ hc
              · cases hop
            · split at hop
              · rename_i hc; cases hop; exact vop_len hc
              · cases hop
        exact Nat.le_trans h1 (runOps_len hcall ops l _ _ _ _ _ _ h)
      · cases h
end Go.V
