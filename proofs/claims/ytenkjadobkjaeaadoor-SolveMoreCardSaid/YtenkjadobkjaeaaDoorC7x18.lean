/- Proved: Rows.SolveMoreCardSaid, the statement SolveMore with its card, of the given program at the commit; no conditions beyond those in the statement. -/
import Derived.Test.YtenkjadobkjaeaaDoorC7x17
import Derived.Test.YtenkjadobkjaeaaDoorCards
import Derived.Test.YtenkjadobkjaeaaDoorTie
import Derived.SevenTiedAt
set_option autoImplicit false
set_option linter.unusedVariables false
set_option maxRecDepth 100000
namespace Go.Proofs.YtenkjadobkjaeaaDoor
open Go Go.V Go.RowKit Go.ChangeShapes Go.WideShapes Go.ChangeAt VT
theorem SolveMore_lifted (os : Os) (started : os.Started) (H : Type) (enc : TypeId × Value → H) :
    ReturnsInHanded {} Tryd.checked os 3 .any (fun w args => (Rows.solveMoreSpec.pre enc Tryd.prog Tryd.f3 [] false w args ∧ laidMetH Tryd.prog laidL w) ∧ sizedMet enc Tryd.prog Tryd.f3 (OpenSpec.ofChange Rows.solveMoreSpec) false w args)
      (Rows.solveMoreSpec.post enc Tryd.prog Tryd.f3 false true false false) := by
  refine returnsInHanded_of_change_and (C := Tryd.checked) (X := fun w _ => laidMetH Tryd.prog laidL w) (fun _ _ _ hh h => h.of_heap hh) own started XH2 Tryd.func3
    (ChangeSpec.witness_shaped (enc := enc) (C := Tryd.checked) (os := os) (X := fun w _ => laidMetH Tryd.prog laidL w) false (World.doorLaid Tryd.prog 400 os) #[.agg #[.int .i64 0, .slice none 0 0, .slice none 0 0, .slice none 0 0], .slice none 0 0, .int .i64 0] 8 rfl (World.shaped_of_RefB XH2 XH2) XH2 XH2 XH2 (door_met os _)) ?_
  intro W base args ds gs before hval0 hW _ hwt0 hL _
  have hval : ∀ (j : Nat) t v, Tryd.f3.params[j]? = some t → args[j]? = some v → Value.okWide Tryd.prog W .any base t v := hval0
  have hW' := hW
  obtain ⟨p, q, hA0, hV, rfl, hfz, hnd⟩ := hW
  have hA : DataW.TrodAll enc Tryd.prog W 0 (fun _ => true) true Tryd.f3.params.toList args.toList ds p := hA0
  rw [Tryd.params3] at hA hval
  obtain ⟨v0, v1, v2, d0, d1, d2, p0, p1, p2, rfl, rfl, rfl, ⟨fuel0, h0⟩, ⟨fuel1, h1⟩, ⟨fuel2, h2⟩⟩ := trodAll_three hA
  have hgs : gs = [] := by
    cases gs with
    | nil => rfl
    | cons g gs => exact hV.elim
  subst hgs
  have hwt : ∀ n, n ∈ DataW.weightsEach Tryd.prog [26, 22, 3] [d0, d1, d2] → n ≤ 140737488351232 := fun n hn => by
    have hwt1 : (DataW.weightsEach Tryd.prog ([26, 22, 3] ++ []) ([d0, d1, d2] ++ [])).all (fun n => decide (n ≤ reachBytes)) = true := by
      have h := hwt0
      rw [show Tryd.f3.params = _ from Tryd.params3] at h
      exact h
    exact of_decide_eq_true (List.all_eq_true.1 hwt1 n (by rw [List.append_nil, List.append_nil]; exact hn))
  obtain ⟨a0, k0, r0⟩ := op26.opn h0 (fun n hn => hwt n (Ys (i := 0) rfl rfl hn))
  have q0 := arg_agg Tryd.underlying26 (hval 0 26 v0 rfl rfl) r0
  obtain ⟨a1, k1, r1⟩ := op22.opn h1 (fun n hn => hwt n (Ys (i := 1) rfl rfl hn))
  have q1 := arg_one Tryd.underlying22 rfl (hval 1 22 v1 rfl rfl) r1
  obtain ⟨a2, k2, r2⟩ := op3.opn h2 (fun n hn => hwt n (Ys (i := 2) rfl rfl hn))
  have q2 := arg_one Tryd.underlying3 rfl (hval 2 3 v2 rfl rfl) r2
  exact law_close (S := psys (sw hL)) laidOut XH2 rfl rfl Tryd.underlying4 rfl hW' (.cons q0 (.cons q1 (.cons q2 .nil))) (SolveMore_law a0 a1 a2 k0.1)
theorem SolveMore_holds : Rows.SolveMoreSaid :=
  OpenClaim.holds_of_wide 3 Tryd.f3 rfl rfl rfl rfl rfl rfl rfl ⟨rfl, rfl, rfl, rfl, rfl⟩ rfl rfl rfl rfl rfl XH2 Tryd.func3 XH2
    (of_decide_eq_true XH2) (by unfold Func.isWrapper; first | (rw [if_pos (by decide +kernel)]; kernel_rfl) | (rw [if_neg (by decide +kernel)]; exact ⟨rfl, rfl⟩))
    (fun os started H enc _ => SolveMore_lifted os started H enc)
theorem SolveMore_card : Rows.SolveMoreCardSaid :=
  Claim7.holds_tied_plain_at .later [] [.data] true (true, "f37f4018f3eeffafb5c642b760d9def8af8c359ba01a0cd165c4bd1a9037a951") false
    SolveMore_holds (fun _ h => by cases h) XH2 (fun _ h => by cases h) solveMore_row_tie rfl ⟨rfl, rfl⟩ XH2 rfl
    (fun f fn hf hfn => by
      obtain rfl : f = 3 := Option.some.inj ((show Tryd.prog.funcNamed "provost/provostlaw12.SolveMore" = some 3 by kernel_rfl).symm.trans hf) |>.symm
      obtain rfl : fn = Tryd.f3 := (Option.some.inj (Tryd.func3.symm.trans hfn)).symm
      exact ⟨by kernel_rfl, fun j t ht => by
        rw [Tryd.params3] at ht
        have hm : t ∈ [26, 22, 3] := by simpa using Array.mem_of_getElem? ht
        have hall : ([26, 22, 3].all fun u => !Tryd.prog.wantsStandIn u) = true := by kernel_rfl
        exact (show Tryd.prog.wantsStandIn t = false by simpa using List.all_eq_true.1 hall t hm)⟩)
    XH2
#print axioms SolveMore_card
end Go.Proofs.YtenkjadobkjaeaaDoor
