/- Regions: in the written order, and in every order that Go may draw. -/
import Derived.Test.YtbngdhlmggdaaaaV9
import Derived.OrdersIn
set_option autoImplicit false
set_option linter.unusedVariables false
set_option linter.unusedSimpArgs false
namespace Go.V
open Go Go.RowKit

section
variable {P : Program} {w0 : World}

theorem rel_slot {ι : Inj} {env : VEnv} {a : Act} (h : RelL ι env a.tmps.toList) (d : Nat) : Rel ι (env.getD d .skip) (a.tmps.getD d undef) := by
  have := rel_eval h (.tmp d)
  exact this

theorem put_defers (a : Act) (dst : Option Nat) (v : Value) : (a.put dst v).defers = a.defers := by
  cases dst <;> rfl

/-- IN THE WRITTEN ORDER -/
theorem ops_plain {C : Cfg} (hC : CfgOk P C w0) {call : Nat → Caller} (hv : ∀ i, CallSound P w0 (call i)) {ops : Array Oper} {ro : Option Nat} {n : Nat} {Q : Exit → Act → World → Prop} :
    ∀ (l : List Nat) (env : VEnv) (H : VHeap) (tr : List (Nat × Item')) (env' : VEnv) (H' : VHeap) (tr' : List (Nat × Item')) (w : World) (ι : Inj) (a : Act),
      runOps C.T C.meth call ops l env H tr = some (env', H', tr') → Sim w0 ι H w → RelL ι env a.tmps.toList →
      (∀ a' w' ι', a'.defers = a.defers → Inj.ex H.length ι ι' → Sim w0 ι' H' w' → RelL ι' env' a'.tmps.toList → Q .normal a' w') → wpOpsIn (WF ro) n P ops Q l a w
  | [], env, H, tr, env', H', tr', w, ι, a, h, s, r, hQ => by
    simp only [runOps, Option.some.injEq, Prod.mk.injEq] at h
    obtain ⟨rfl, rfl, _⟩ := h
    exact hQ a w ι rfl (Inj.ex_refl _ _) s r
  | i :: l, env, H, tr, env', H', tr', w, ι, a, h, s, r, hQ => by
    simp only [runOps] at h
    rw [wpOpsIn_cons]
    unfold wpOpIn
    split at h
    · cases h
    · rename_i o ho
      rw [ho]
      split at h
      · rename_i v H1 it hop
        have hl1 : H.length ≤ H1.length := by
          have := runOps_len (T := C.T) (meth := C.meth) (fun i => (hv i).len) ops [i] env H [] (env.put o.dst v) H1 [(i, it)] (by simp [runOps, ho, hop])
          exact this
        refine op_any hC (hv i) hop s (fun x _ => rel_eval r x) (fun _ _ d _ _ => rel_slot r d) (fun x w1 ι1 e1 s1 r1 => ?_)
        refine ops_plain hC hv l _ _ _ _ _ _ w1 ι1 _ h s1 (rel_put (RelL.mono (s.le e1) _ _ r) _ r1) (fun a' w' ι' d' e' s' r' => ?_)
        exact hQ a' w' ι' (d'.trans (put_defers _ _ _)) (Inj.ex_trans e1 e' hl1) s' r'
      · cases h

end
end Go.V
