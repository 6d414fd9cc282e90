/- Proved: Rows.TallyOwnCardSaid, the statement TallyOwn with its card, of the given program at the commit; no conditions beyond those in the statement. -/
import Derived.Test.YtccgigdjkghieaaDoorC12x19
import Derived.Test.YtccgigdjkghieaaDoorCards
import Derived.Test.YtccgigdjkghieaaDoorTie
import Derived.SevenTiedAt
set_option autoImplicit false
set_option linter.unusedVariables false
set_option maxRecDepth 100000
namespace Go.Proofs.YtccgigdjkghieaaDoor
open Go Go.V Go.RowKit Go.ChangeShapes Go.WideShapes Go.ChangeAt VT
theorem Zbp (os : Os) (started : os.Started) (H : Type) (enc : TypeId × Value → H) :
  ReturnsInHanded {} Tryd.checked os 11 .any (fun w args => (Rows.tallyOwnSpec.pre enc Tryd.prog Tryd.f11 [] false w args ∧ laidMetH Tryd.prog laidL w) ∧ sizedMet enc Tryd.prog Tryd.f11 (OpenSpec.ofChange Rows.tallyOwnSpec) false w args)
   (Rows.tallyOwnSpec.post enc Tryd.prog Tryd.f11 false true false false) := by
 refine returnsInHanded_of_change_and (C := Tryd.checked) (X := fun w _ => laidMetH Tryd.prog laidL w) (fun _ _ _ hh h => h.of_heap hh) own started XH3 Tryd.func11
  (ChangeSpec.witness_shaped (enc := enc) (C := Tryd.checked) (os := os) (X := fun w _ => laidMetH Tryd.prog laidL w) false (World.doorLaid Tryd.prog 400 os) #[.agg #[.int .i64 0, .slice none 0 0, .slice none 0 0, .slice none 0 0]] 8 rfl (World.shaped_of_RefB XH3 XH3) XH3 XH3 XH3 (door_met os _)) ?_
 intro W base args ds gs before hval0 hW _ hwt0 hL _
 have hval : ∀ (j : Nat) t v, Tryd.f11.params[j]? = some t → args[j]? = some v → Value.okWide Tryd.prog W .any base t v := hval0
 have hW' := hW
 obtain ⟨p, q, hA0, hV, rfl, hfz, hnd⟩ := hW
 have hA : DataW.TrodAll enc Tryd.prog W 0 (fun _ => true) true Tryd.f11.params.toList args.toList ds p := hA0
 rw [Tryd.params11] at hA hval
 obtain ⟨v0, d0, rfl, rfl, fuel0, h0⟩ := trodAll_one hA
 have hgs : gs = [] := by
  cases gs with
  | nil => rfl
  | cons g gs => exact hV.elim
 subst hgs
 have hwt : ∀ n, n ∈ DataW.weightsEach Tryd.prog [26] [d0] → n ≤ 140737488351232 := fun n hn => by
  have hwt1 : (DataW.weightsEach Tryd.prog ([26] ++ []) ([d0] ++ [])).all (fun n => decide (n ≤ reachBytes)) = true := by
   have h := hwt0
   rw [show Tryd.f11.params = _ from Tryd.params11] at h
   exact h
  exact of_decide_eq_true (List.all_eq_true.1 hwt1 n (by rw [List.append_nil, List.append_nil]; exact hn))
 obtain ⟨a0, k0, r0⟩ := op26.opn h0 (fun n hn => hwt n (XG (i := 0) rfl rfl hn))
 have q0 := arg_agg Tryd.underlying26 (hval 0 26 v0 rfl rfl) r0
 exact law_close (S := psys (sw hL)) laidOut XH3 rfl rfl Tryd.underlying4 rfl hW' (.cons q0 .nil) (TallyOwn_law a0 k0.1)
theorem ZbO : Rows.TallyOwnSaid :=
 OpenClaim.holds_of_wide 11 Tryd.f11 rfl rfl rfl rfl rfl rfl rfl ⟨rfl, rfl, rfl, rfl, rfl⟩ rfl rfl rfl rfl rfl XH3 Tryd.func11 XH3
  (of_decide_eq_true XH3) (by unfold Func.isWrapper; first | (rw [if_pos (by decide +kernel)]; kernel_rfl) | (rw [if_neg (by decide +kernel)]; exact ⟨rfl, rfl⟩))
  (fun os started H enc _ => Zbp os started H enc)
theorem TallyOwn_card : Rows.TallyOwnCardSaid :=
 Claim7.holds_tied_plain_at .later [] [.data] true (true, "2409cbe296b59e09920fa0010369ae8c0882db0c3b3e4b7c286a58b2f315715e") false
  ZbO (fun _ h => by cases h) XH3 (fun _ h => by cases h) tallyOwn_row_tie rfl ⟨rfl, rfl⟩ XH3 rfl
  (fun f fn hf hfn => by
   obtain rfl : f = 11 := Option.some.inj ((show Tryd.prog.funcNamed "provost/provostlaw13.TallyOwn" = some 11 by kernel_rfl).symm.trans hf) |>.symm
   obtain rfl : fn = Tryd.f11 := (Option.some.inj (Tryd.func11.symm.trans hfn)).symm
   exact ⟨by kernel_rfl, fun j t ht => by
    rw [Tryd.params11] at ht
    have hm : t ∈ [26] := by simpa using Array.mem_of_getElem? ht
    have hall : ([26].all fun u => !Tryd.prog.wantsStandIn u) = true := by kernel_rfl
    exact (show Tryd.prog.wantsStandIn t = false by simpa using List.all_eq_true.1 hall t hm)⟩)
  XH3
#print axioms TallyOwn_card
end Go.Proofs.YtccgigdjkghieaaDoor
