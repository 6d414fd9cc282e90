/- Proved: Rows.MatchCountCardSaid, the statement MatchCount with its card, of the given program at the commit; no conditions beyond those in the statement. -/
import Derived.Test.YtpekleeidllllaaDoorL3
import Derived.Test.YtpekleeidllllaaDoorCards
import Derived.Test.YtpekleeidllllaaDoorTie
import Derived.SevenTiedAt
set_option autoImplicit false
set_option linter.unusedVariables false
set_option maxRecDepth 100000
namespace Go.Proofs.YtpekleeidllllaaDoor
open Go Go.V Go.RowKit Go.ChangeShapes Go.WideShapes Go.ChangeAt VT

theorem MatchCount_lifted (os : Os) (started : os.Started) (H : Type) (enc : TypeId × Value → H) :
    ReturnsInHanded {} Tryd.checked os 5 .any (fun w args => (Rows.matchCountSpec.pre enc Tryd.prog Tryd.f5 [] false w args ∧ laidMetH Tryd.prog laidL w) ∧ sizedMet enc Tryd.prog Tryd.f5 (OpenSpec.ofChange Rows.matchCountSpec) false w args)
      (Rows.matchCountSpec.post enc Tryd.prog Tryd.f5 false true false false) := by
  refine returnsInHanded_of_change_and (C := Tryd.checked) (X := fun w _ => laidMetH Tryd.prog laidL w) (fun _ _ _ hh h => h.of_heap hh) own started (by kernel_rfl) Tryd.func5
    (ChangeSpec.witness_shaped (enc := enc) (C := Tryd.checked) (os := os) (X := fun w _ => laidMetH Tryd.prog laidL w) false (World.doorLaid Tryd.prog 400 os) #[.slice none 0 0, .int .u64 0] 8 rfl (World.shaped_of_RefB (by kernel_rfl) (by kernel_rfl)) (by kernel_rfl) (by kernel_rfl) (by kernel_rfl) (door_met os _)) ?_
  intro W base args ds gs before hval0 hW _ hwt0 hL _
  have hval : ∀ (j : Nat) t v, Tryd.f5.params[j]? = some t → args[j]? = some v → Value.okWide Tryd.prog W .any base t v := hval0
  have hW' := hW
  obtain ⟨p, q, hA0, hV, rfl, hfz, hnd⟩ := hW
  have hA : DataW.TrodAll enc Tryd.prog W 0 (fun _ => true) true Tryd.f5.params.toList args.toList ds p := hA0
  rw [Tryd.params5] at hA hval
  obtain ⟨v0, v1, d0, d1, p0, p1, rfl, rfl, rfl, ⟨fuel0, h0⟩, ⟨fuel1, h1⟩⟩ := trodAll_two hA
  have hgs : gs = [] := by
    cases gs with
    | nil => rfl
    | cons g gs => exact hV.elim
  subst hgs
  have hwt : ∀ n, n ∈ DataW.weightsEach Tryd.prog [22, 29] [d0, d1] → n ≤ 140737488351232 := fun n hn => by
    have hwt1 : (DataW.weightsEach Tryd.prog ([22, 29] ++ []) ([d0, d1] ++ [])).all (fun n => decide (n ≤ reachBytes)) = true := by
      have h := hwt0
      rw [show Tryd.f5.params = _ from Tryd.params5] at h
      exact h
    exact of_decide_eq_true (List.all_eq_true.1 hwt1 n (by rw [List.append_nil, List.append_nil]; exact hn))
  obtain ⟨a0, k0, r0⟩ := op22.opn h0 (fun n hn => hwt n (mem_weightsEach (i := 0) rfl rfl hn))
  have q0 := arg_one Tryd.underlying22 rfl (hval 0 22 v0 rfl rfl) r0
  obtain ⟨a1, k1, r1⟩ := op29.opn h1 (fun n hn => hwt n (mem_weightsEach (i := 1) rfl rfl hn))
  have q1 := arg_one Tryd.underlying29 rfl (hval 1 29 v1 rfl rfl) r1
  exact law_close (S := psys (sw hL)) laidOut (by kernel_rfl) rfl rfl Tryd.underlying4 rfl hW' (.cons q0 (.cons q1 .nil)) (MatchCount_law a0 a1)

theorem MatchCount_holds : Rows.MatchCountSaid :=
  OpenClaim.holds_of_wide 5 Tryd.f5 rfl rfl rfl rfl rfl rfl rfl ⟨rfl, rfl, rfl, rfl, rfl⟩ rfl rfl rfl rfl rfl (by kernel_rfl) Tryd.func5 (by kernel_rfl)
    (of_decide_eq_true (by kernel_rfl)) (by unfold Func.isWrapper; first | (rw [if_pos (by decide +kernel)]; kernel_rfl) | (rw [if_neg (by decide +kernel)]; exact ⟨rfl, rfl⟩))
    (fun os started H enc _ => MatchCount_lifted os started H enc)

theorem MatchCount_card : Rows.MatchCountCardSaid :=
  Claim7.holds_tied_plain_at .later [] [.data] true (true, "b285102e17f63608774194566b2d5c474ebd1b45df0b01bc04de43cbc0deb0d4") false
    MatchCount_holds (fun _ h => by cases h) (by kernel_rfl) (fun _ h => by cases h) matchCount_row_tie rfl ⟨rfl, rfl⟩ (by kernel_rfl) rfl
    (fun f fn hf hfn => by
      obtain rfl : f = 5 := Option.some.inj ((show Tryd.prog.funcNamed "provost/provostlaw11.MatchCount" = some 5 by kernel_rfl).symm.trans hf) |>.symm
      obtain rfl : fn = Tryd.f5 := (Option.some.inj (Tryd.func5.symm.trans hfn)).symm
      exact ⟨by kernel_rfl, fun j t ht => by
        rw [Tryd.params5] at ht
        have hm : t ∈ [22, 29] := by simpa using Array.mem_of_getElem? ht
        have hall : ([22, 29].all fun u => !Tryd.prog.wantsStandIn u) = true := by kernel_rfl
        exact (show Tryd.prog.wantsStandIn t = false by simpa using List.all_eq_true.1 hall t hm)⟩)
    (by kernel_rfl)
#print axioms MatchCount_card
end Go.Proofs.YtpekleeidllllaaDoor
