/- Proved: Rows.PlanFlawsSaid, the statement PlanFlaws, of the given program at the commit; no conditions beyond those in the statement. -/
import Derived.Test.YtbngdhlmggdaaaaL1
set_option autoImplicit false
set_option linter.unusedVariables false
set_option maxRecDepth 100000
namespace Go.Proofs.Ytbngdhlmggdaaaa
open Go Go.V Go.RowKit Go.ChangeShapes Go.WideShapes Go.ChangeAt VT

theorem PlanFlaws_lifted (os : Os) (started : os.Started) (H : Type) (enc : TypeId × Value → H) :
    ReturnsInHanded {} Try.checked os 3 .any (Rows.planFlawsSpec.pre6 enc Try.prog Try.f3 [] false) (Rows.planFlawsSpec.post enc Try.prog Try.f3 false true false false) := by
  refine returnsInHanded_of_change_sized (C := Try.checked) own started (by kernel_rfl) Try.func3
    (ChangeSpec.witness6 (enc := enc) (C := Try.checked) false ⟨#[], #[.agg #[.int .i64 0, .slice none 0 0, .slice none 0 0, .slice none 0 0], .slice none 0 0], []⟩ 8 (by kernel_rfl) (by kernel_rfl) (by kernel_rfl) (by kernel_rfl)) ?_
  intro W base args ds gs before hval0 hW _ hwt0 _
  have hval : ∀ (j : Nat) t v, Try.f3.params[j]? = some t → args[j]? = some v → Value.okWide Try.prog W .any base t v := hval0
  have hW' := hW
  obtain ⟨p, q, hA0, hV, rfl, hfz, hnd⟩ := hW
  have hA : DataW.TrodAll enc Try.prog W 0 (fun _ => true) true Try.f3.params.toList args.toList ds p := hA0
  rw [Try.params3] at hA hval
  obtain ⟨v0, v1, d0, d1, p0, p1, rfl, rfl, rfl, ⟨fuel0, h0⟩, ⟨fuel1, h1⟩⟩ := trodAll_two hA
  have hgs : gs = [] := by
    cases gs with
    | nil => rfl
    | cons g gs => exact hV.elim
  subst hgs
  have hwt : ∀ n, n ∈ DataW.weightsEach Try.prog [26, 23] [d0, d1] → n ≤ 140737488351232 := fun n hn => by
    have hwt1 : (DataW.weightsEach Try.prog ([26, 23] ++ []) ([d0, d1] ++ [])).all (fun n => decide (n ≤ reachBytes)) = true := by
      have h := hwt0
      rw [show Try.f3.params = _ from Try.params3] at h
      exact h
    exact of_decide_eq_true (List.all_eq_true.1 hwt1 n (by rw [List.append_nil, List.append_nil]; exact hn))
  obtain ⟨a0, k0, r0⟩ := op26.opn h0 (fun n hn => hwt n (mem_weightsEach (i := 0) rfl rfl hn))
  have q0 := arg_agg Try.underlying26 (hval 0 26 v0 rfl rfl) r0
  obtain ⟨a1, k1, r1⟩ := op23.opn h1 (fun n hn => hwt n (mem_weightsEach (i := 1) rfl rfl hn))
  have q1 := arg_one Try.underlying23 rfl (hval 1 23 v1 rfl rfl) r1
  exact law_close (S := psys ⟨W⟩) laidOut (by kernel_rfl) rfl rfl Try.underlying4 rfl hW' (.cons q0 (.cons q1 .nil)) (PlanFlaws_law a0 a1 k0.1)

theorem PlanFlaws_holds : Rows.PlanFlawsSaid :=
  OpenClaim.holds_of_wide 3 Try.f3 rfl rfl rfl rfl rfl rfl rfl ⟨rfl, rfl, rfl, rfl, rfl⟩ rfl rfl rfl rfl rfl (by kernel_rfl) Try.func3 (by kernel_rfl)
    (of_decide_eq_true (by kernel_rfl)) (by unfold Func.isWrapper; first | (rw [if_pos (by decide +kernel)]; kernel_rfl) | (rw [if_neg (by decide +kernel)]; exact ⟨rfl, rfl⟩))
    (fun os started H enc _ => PlanFlaws_lifted os started H enc)
#print axioms PlanFlaws_holds
end Go.Proofs.Ytbngdhlmggdaaaa
