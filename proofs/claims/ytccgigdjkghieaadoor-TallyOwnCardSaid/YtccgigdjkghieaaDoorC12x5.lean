/- Proved: Rows.TallyOwnCardSaid, the statement TallyOwn with its card, of the given program at the commit; no conditions beyond those in the statement. -/
import Derived.Test.YtccgigdjkghieaaDoorC12x4
import Derived.TacticsInMore
set_option autoImplicit false
set_option linter.unusedVariables false
set_option linter.unusedSimpArgs false
namespace Go.V
open Go Go.RowKit
theorem JR {H H' : Ze} {p : Nat × Nat} {l : List VVal} (h : QM H p l = some H') : H'.length = H.length := by
 unfold QM at h
 split at h
 ·split at h
  ·cases h; simp
  cases h
 cases h
theorem vstore_len {T : TypeId → Option VTy} {H H' : Ze} {t : TypeId} {a v : VVal} (h : Zbj T H t a v = some H') : H'.length = H.length := by
 unfold Zbj at h
 split at h
 ·split at h
  ·exact JR h
  cases h
 cases h
theorem vappend_len {T : TypeId → Option VTy} {H H' : Ze} {ats : List TypeId} {d x v : VVal} (h : Yq T H ats d x = some (v, H')) : H.length ≤ H'.length := by
 unfold Yq at h
 repeat' (split at h)
 all_goals first
  | (simp only [Option.some.injEq, Prod.mk.injEq] at h; obtain ⟨rfl, rfl⟩ := h; simp; done)
  | cases h
theorem vcopy_len {T : TypeId → Option VTy} {H H' : Ze} {t : TypeId} {d x v : VVal} (h : vcopy T H t d x = some (v, H')) : H.length ≤ H'.length := by
 unfold vcopy at h
 simp only at h
 repeat' (split at h)
 all_goals first
  | (simp only [Option.map_eq_some_iff, Prod.mk.injEq] at h; obtain ⟨H1, hw, rfl, rfl⟩ := h; exact Nat.le_of_eq (JR hw).symm)
  | (simp only [Option.some.injEq, Prod.mk.injEq] at h; obtain ⟨rfl, rfl⟩ := h; exact Nat.le_refl _)
  | cases h
theorem vclear_len {T : TypeId → Option VTy} {H H' : Ze} {t : TypeId} {x v : VVal} (h : Zbk T H t x = some (v, H')) : H.length ≤ H'.length := by
 unfold Zbk at h
 repeat' (split at h)
 all_goals first
  | (simp only [Option.map_eq_some_iff, Prod.mk.injEq] at h; obtain ⟨H1, hw, rfl, rfl⟩ := h; exact Nat.le_of_eq (JR hw).symm)
  | (simp only [Option.some.injEq, Prod.mk.injEq] at h; obtain ⟨rfl, rfl⟩ := h; exact Nat.le_refl _)
  | cases h
theorem vconvert_len {T : TypeId → Option VTy} {H H' : Ze} {s d : TypeId} {x v : VVal} (h : Yw T H s d x = some (v, H')) : H.length ≤ H'.length := by
 unfold Yw at h
 repeat' (split at h)
 all_goals first
  | (simp only [Option.map_eq_some_iff, Prod.mk.injEq] at h; obtain ⟨_, _, rfl, rfl⟩ := h; exact Nat.le_refl _)
  | (simp only [Option.some.injEq, Prod.mk.injEq] at h; obtain ⟨rfl, rfl⟩ := h; simp; done)
  | cases h
theorem vbuiltin_len {T : TypeId → Option VTy} {H H' : Ze} {b : Builtin} {ats : List TypeId} {args : List VVal} {v : VVal} (h : ZR T H b ats args = some (v, H')) : H.length ≤ H'.length := by
 unfold ZR at h
 repeat' (split at h)
 all_goals first
  | exact vappend_len h
  | exact vcopy_len h
  | exact vclear_len h
  | (simp only [Option.map_eq_some_iff, Prod.mk.injEq] at h; obtain ⟨_, _, rfl, rfl⟩ := h; exact Nat.le_refl _)
  | cases h
theorem Zbn {T : TypeId → Option VTy} {H H' : Ze} {t : TypeId} {n : Nat} {ps : List (Nat × VVal)} {v : VVal} (h : Xo T H t n ps = some (v, H')) : H.length ≤ H'.length := by
 unfold Xo at h
 repeat' (split at h)
 all_goals first
  | (simp only [Option.map_eq_some_iff, Prod.mk.injEq] at h; obtain ⟨_, _, rfl, rfl⟩ := h; simp; done)
  | cases h
theorem ZbJ {T : TypeId → Option VTy} {H H' : Ze} {t : TypeId} {a b : VVal} {v : VVal} (h : XS T H t a b = some (v, H')) : H.length ≤ H'.length := by
 unfold XS at h
 repeat' (split at h)
 all_goals first
  | (simp only [Option.some.injEq, Prod.mk.injEq] at h; obtain ⟨rfl, rfl⟩ := h; simp; done)
  | cases h
theorem ZbI {T : TypeId → Option VTy} {H H' : Ze} {t : TypeId} {a b c : VVal} (h : Xl T H t a b c = some H') : H.length ≤ H'.length := by
 unfold Xl at h
 repeat' (split at h)
 all_goals first
  | (simp only [Option.map_eq_some_iff] at h; obtain ⟨_, _, rfl⟩ := h; simp; done)
  | (cases h; simp; done)
  | cases h
theorem vop_len {T : TypeId → Option VTy} {ρ : Operand → VVal} {H H' : Ze} {o : Op} {v : VVal} (h : vop T ρ H o = some (v, H')) : H.length ≤ H'.length := by
 unfold vop at h
 split at h
 all_goals first
  | exact vconvert_len h
  | exact vbuiltin_len h
  | exact Zbn h
  | exact ZbJ h
  | (simp only [Option.map_eq_some_iff, Prod.mk.injEq] at h; obtain ⟨_, _, rfl, rfl⟩ := h; exact Nat.le_refl _)
  | (simp only [Option.map_eq_some_iff, Prod.mk.injEq] at h; obtain ⟨_, hs, rfl, rfl⟩ := h; exact Nat.le_of_eq (vstore_len hs).symm)
  | (simp only [Option.map_eq_some_iff, Prod.mk.injEq] at h; obtain ⟨_, hs, rfl, rfl⟩ := h; exact ZbI hs)
  | (simp only [Option.some.injEq, Prod.mk.injEq] at h; obtain ⟨rfl, rfl⟩ := h; simp; done)
  | (simp only [Option.map_eq_some_iff, vnew, Prod.mk.injEq] at h; obtain ⟨_, _, rfl, rfl⟩ := h; simp; done)
  | (split at h <;> first | (simp only [Option.some.injEq, Prod.mk.injEq] at h; obtain ⟨rfl, rfl⟩ := h; exact Nat.le_refl _) | cases h)
  | cases h
theorem JU {T : TypeId → Option VTy} {meth : TypeId → String → Option FuncId} {call : Nat → YR} (hcall : ∀ i f args H v H', call i f args H = some (v, H') → H.length ≤ H'.length) (ops : Array Oper) :
  ∀ (l : List Nat) (env : VEnv) (H : Ze) (tr : List (Nat × Item')) (env' : VEnv) (H' : Ze) (tr' : List (Nat × Item')), Xe T meth call ops l env H tr = some (env', H', tr') → H.length ≤ H'.length
 | [], env, H, tr, env', H', tr', h => by
  simp only [Xe, Option.some.injEq, Prod.mk.injEq] at h
  obtain ⟨_, rfl, _⟩ := h; exact Nat.le_refl _
 | i :: l, env, H, tr, env', H', tr', h => by
  simp only [Xe] at h
  split at h
  ·cases h
  split at h
  ·rename_i v H1 it hop
   have h1 : H.length ≤ H1.length := by
    unfold YL at hop
    split at hop
    ·cases hop
    ·cases hop; exact Nat.le_refl _
    split at hop
    ·split at hop
     ·rename_i hc; cases hop; exact hcall _ _ _ _ _ _ hc
     cases hop
    split at hop
    ·rename_i hc; cases hop; exact vop_len hc
    cases hop
   exact Nat.le_trans h1 (JU hcall ops l _ _ _ _ _ _ h)
  cases h
end Go.V
