/- Proved: Rows.SolveTightCardSaid, the statement SolveTight with its card, of the given program at the commit; no conditions beyond those in the statement. -/
import Derived.Test.YtenkjadobkjaeaaDoorC9x17
import Derived.Test.YtenkjadobkjaeaaDoorCards
import Derived.Test.YtenkjadobkjaeaaDoorTie
import Derived.SevenTiedAt
set_option autoImplicit false
set_option linter.unusedVariables false
set_option maxRecDepth 100000
namespace Go.Proofs.YtenkjadobkjaeaaDoor
open Go Go.V Go.RowKit Go.ChangeShapes Go.WideShapes Go.ChangeAt VT
theorem SolveTight_lifted (os : Os) (started : os.Started) (H : Type) (enc : TypeId × Value → H) :
    ReturnsInHanded {} Tryd.checked os 6 .any (fun w args => (Rows.solveTightSpec.pre enc Tryd.prog Tryd.f6 [] false w args ∧ laidMetH Tryd.prog laidL w) ∧ sizedMet enc Tryd.prog Tryd.f6 (OpenSpec.ofChange Rows.solveTightSpec) false w args)
      (Rows.solveTightSpec.post enc Tryd.prog Tryd.f6 false true false false) := by
  refine returnsInHanded_of_change_and (C := Tryd.checked) (X := fun w _ => laidMetH Tryd.prog laidL w) (fun _ _ _ hh h => h.of_heap hh) own started XH2 Tryd.func6
    (ChangeSpec.witness_shaped (enc := enc) (C := Tryd.checked) (os := os) (X := fun w _ => laidMetH Tryd.prog laidL w) false (World.doorLaid Tryd.prog 400 os) #[.int .i64 0, .int .i64 0] 8 rfl (World.shaped_of_RefB XH2 XH2) XH2 XH2 XH2 (door_met os _)) ?_
  intro W base args ds gs before hval0 hW _ hwt0 hL _
  have hval : ∀ (j : Nat) t v, Tryd.f6.params[j]? = some t → args[j]? = some v → Value.okWide Tryd.prog W .any base t v := hval0
  have hW' := hW
  obtain ⟨p, q, hA0, hV, rfl, hfz, hnd⟩ := hW
  have hA : DataW.TrodAll enc Tryd.prog W 0 (fun _ => true) true Tryd.f6.params.toList args.toList ds p := hA0
  rw [Tryd.params6] at hA hval
  obtain ⟨v0, v1, d0, d1, p0, p1, rfl, rfl, rfl, ⟨fuel0, h0⟩, ⟨fuel1, h1⟩⟩ := trodAll_two hA
  have hgs : gs = [] := by
    cases gs with
    | nil => rfl
    | cons g gs => exact hV.elim
  subst hgs
  have hwt : ∀ n, n ∈ DataW.weightsEach Tryd.prog [3, 3] [d0, d1] → n ≤ 140737488351232 := fun n hn => by
    have hwt1 : (DataW.weightsEach Tryd.prog ([3, 3] ++ []) ([d0, d1] ++ [])).all (fun n => decide (n ≤ reachBytes)) = true := by
      have h := hwt0
      rw [show Tryd.f6.params = _ from Tryd.params6] at h
      exact h
    exact of_decide_eq_true (List.all_eq_true.1 hwt1 n (by rw [List.append_nil, List.append_nil]; exact hn))
  obtain ⟨a0, k0, r0⟩ := op3.opn h0 (fun n hn => hwt n (Yx (i := 0) rfl rfl hn))
  have q0 := arg_one Tryd.underlying3 rfl (hval 0 3 v0 rfl rfl) r0
  obtain ⟨a1, k1, r1⟩ := op3.opn h1 (fun n hn => hwt n (Yx (i := 1) rfl rfl hn))
  have q1 := arg_one Tryd.underlying3 rfl (hval 1 3 v1 rfl rfl) r1
  exact law_close (S := psys (sw hL)) laidOut XH2 rfl rfl Tryd.underlying4 rfl hW' (.cons q0 (.cons q1 .nil)) (SolveTight_law a0 a1)
theorem SolveTight_holds : Rows.SolveTightSaid :=
  OpenClaim.holds_of_wide 6 Tryd.f6 rfl rfl rfl rfl rfl rfl rfl ⟨rfl, rfl, rfl, rfl, rfl⟩ rfl rfl rfl rfl rfl XH2 Tryd.func6 XH2
    (of_decide_eq_true XH2) (by unfold Func.isWrapper; first | (rw [if_pos (by decide +kernel)]; kernel_rfl) | (rw [if_neg (by decide +kernel)]; exact ⟨rfl, rfl⟩))
    (fun os started H enc _ => SolveTight_lifted os started H enc)
theorem SolveTight_card : Rows.SolveTightCardSaid :=
  Claim7.holds_tied_plain_at .later [] [.data] true (true, "f37f4018f3eeffafb5c642b760d9def8af8c359ba01a0cd165c4bd1a9037a951") false
    SolveTight_holds (fun _ h => by cases h) XH2 (fun _ h => by cases h) solveTight_row_tie rfl ⟨rfl, rfl⟩ XH2 rfl
    (fun f fn hf hfn => by
      obtain rfl : f = 6 := Option.some.inj ((show Tryd.prog.funcNamed "provost/provostlaw12.SolveTight" = some 6 by kernel_rfl).symm.trans hf) |>.symm
      obtain rfl : fn = Tryd.f6 := (Option.some.inj (Tryd.func6.symm.trans hfn)).symm
      exact ⟨by kernel_rfl, fun j t ht => by
        rw [Tryd.params6] at ht
        have hm : t ∈ [3, 3] := by simpa using Array.mem_of_getElem? ht
        have hall : ([3, 3].all fun u => !Tryd.prog.wantsStandIn u) = true := by kernel_rfl
        exact (show Tryd.prog.wantsStandIn t = false by simpa using List.all_eq_true.1 hall t hm)⟩)
    XH2
#print axioms SolveTight_card
end Go.Proofs.YtenkjadobkjaeaaDoor
