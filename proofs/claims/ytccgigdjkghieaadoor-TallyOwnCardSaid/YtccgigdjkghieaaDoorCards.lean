/-
  DERIVED. GIVEN WITH THE SEED: THE CARDS: each row of YtccgigdjkghieaaDoorRows.lean that lists a variable, with what it lists TIED to the program's text (the seventh form; the later family's looks); each row that meets fmt, with fmt's text TOLD by the authors' own Lean function (tested against real Go, not proved from fmt's source: count such statements apart). THE CARD IS WHAT COUNTS. Prove the row's statement (the work); the ties are given (YtccgigdjkghieaaDoorTie.lean); close each card by the builder's one call (the guide's Derived/Test/ToyasCard.lean, 'card_holds'). Laid BY PROGRAM, IN A SANDBOX (cutbox-door.mjs). By AI agents, Wed Nov 11 2026. No macro, syntax, notation, axiom, sorry.
-/
import Derived.Test.YtccgigdjkghieaaDoorRows
import GoSem.ClaimSeven
namespace Go.Proofs.YtccgigdjkghieaaDoor
namespace Rows

/-- THE TIED CARD OF 'provostlaw12.SolveMore'. -/
def solveMoreCard : Claim7 := { stood := { row := solveMoreRow, standIns := [], harness := (true, "2409cbe296b59e09920fa0010369ae8c0882db0c3b3e4b7c286a58b2f315715e"), looks := false }, kinds := [], alts := [], laidByText := true, laidKinds := [.data], laidTests := true, laidLooks := .later }
def SolveMoreCardSaid : Prop := Claim7.holds Tryd.pinned (.plain (OpenSpec.ofChange solveMoreSpec)) solveMoreCard

/-- THE TIED CARD OF 'provostlaw13.TallyPlans'. -/
def tallyPlansCard : Claim7 := { stood := { row := tallyPlansRow, standIns := [], harness := (true, "2409cbe296b59e09920fa0010369ae8c0882db0c3b3e4b7c286a58b2f315715e"), looks := false }, kinds := [], alts := [], laidByText := true, laidKinds := [.data], laidTests := true, laidLooks := .later }
def TallyPlansCardSaid : Prop := Claim7.holds Tryd.pinned (.plain (OpenSpec.ofChange tallyPlansSpec)) tallyPlansCard

/-- THE TIED CARD OF 'provostlaw13.TallyLive'. -/
def tallyLiveCard : Claim7 := { stood := { row := tallyLiveRow, standIns := [], harness := (true, "2409cbe296b59e09920fa0010369ae8c0882db0c3b3e4b7c286a58b2f315715e"), looks := false }, kinds := [], alts := [], laidByText := true, laidKinds := [.data], laidTests := true, laidLooks := .later }
def TallyLiveCardSaid : Prop := Claim7.holds Tryd.pinned (.plain (OpenSpec.ofChange tallyLiveSpec)) tallyLiveCard

/-- THE TIED CARD OF 'provostlaw15.CoreWhy'. -/
def coreWhyCard : Claim7 := { stood := { row := coreWhyRow, standIns := [], harness := (true, "2409cbe296b59e09920fa0010369ae8c0882db0c3b3e4b7c286a58b2f315715e"), looks := false }, kinds := [], alts := [], laidByText := true, laidKinds := [.data], laidTests := true, laidLooks := .later }
def CoreWhyCardSaid : Prop := Claim7.holds Tryd.pinned (.plain (OpenSpec.ofChange coreWhySpec)) coreWhyCard

/-- THE TIED CARD OF 'provostlaw15.CoreWithout'. -/
def coreWithoutCard : Claim7 := { stood := { row := coreWithoutRow, standIns := [], harness := (true, "2409cbe296b59e09920fa0010369ae8c0882db0c3b3e4b7c286a58b2f315715e"), looks := false }, kinds := [], alts := [], laidByText := true, laidKinds := [.data], laidTests := true, laidLooks := .later }
def CoreWithoutCardSaid : Prop := Claim7.holds Tryd.pinned (.plain (OpenSpec.ofChange coreWithoutSpec)) coreWithoutCard

/-- THE TIED CARD OF 'provostlaw15.CoreOwn'. -/
def coreOwnCard : Claim7 := { stood := { row := coreOwnRow, standIns := [], harness := (true, "2409cbe296b59e09920fa0010369ae8c0882db0c3b3e4b7c286a58b2f315715e"), looks := false }, kinds := [], alts := [], laidByText := true, laidKinds := [.data], laidTests := true, laidLooks := .later }
def CoreOwnCardSaid : Prop := Claim7.holds Tryd.pinned (.plain (OpenSpec.ofChange coreOwnSpec)) coreOwnCard

/-- THE TIED CARD OF 'provostlaw12.SolveOwn'. -/
def solveOwnCard : Claim7 := { stood := { row := solveOwnRow, standIns := [], harness := (true, "2409cbe296b59e09920fa0010369ae8c0882db0c3b3e4b7c286a58b2f315715e"), looks := false }, kinds := [], alts := [], laidByText := true, laidKinds := [.data], laidTests := true, laidLooks := .later }
def SolveOwnCardSaid : Prop := Claim7.holds Tryd.pinned (.plain (OpenSpec.ofChange solveOwnSpec)) solveOwnCard

/-- THE TIED CARD OF 'provostlaw13.TallySizes'. -/
def tallySizesCard : Claim7 := { stood := { row := tallySizesRow, standIns := [], harness := (true, "2409cbe296b59e09920fa0010369ae8c0882db0c3b3e4b7c286a58b2f315715e"), looks := false }, kinds := [], alts := [], laidByText := true, laidKinds := [.data], laidTests := true, laidLooks := .later }
def TallySizesCardSaid : Prop := Claim7.holds Tryd.pinned (.plain (OpenSpec.ofChange tallySizesSpec)) tallySizesCard

/-- THE TIED CARD OF 'provostlaw13.TallyOwn'. -/
def tallyOwnCard : Claim7 := { stood := { row := tallyOwnRow, standIns := [], harness := (true, "2409cbe296b59e09920fa0010369ae8c0882db0c3b3e4b7c286a58b2f315715e"), looks := false }, kinds := [], alts := [], laidByText := true, laidKinds := [.data], laidTests := true, laidLooks := .later }
def TallyOwnCardSaid : Prop := Claim7.holds Tryd.pinned (.plain (OpenSpec.ofChange tallyOwnSpec)) tallyOwnCard

/-- THE TIED CARD OF 'provostlaw13.TallyEach'. -/
def tallyEachCard : Claim7 := { stood := { row := tallyEachRow, standIns := [], harness := (true, "2409cbe296b59e09920fa0010369ae8c0882db0c3b3e4b7c286a58b2f315715e"), looks := false }, kinds := [], alts := [], laidByText := true, laidKinds := [.data], laidTests := true, laidLooks := .later }
def TallyEachCardSaid : Prop := Claim7.holds Tryd.pinned (.plain (OpenSpec.ofChange tallyEachSpec)) tallyEachCard

/-- THE TIED CARD OF 'provostlaw13.TallyBounds'. -/
def tallyBoundsCard : Claim7 := { stood := { row := tallyBoundsRow, standIns := [], harness := (true, "2409cbe296b59e09920fa0010369ae8c0882db0c3b3e4b7c286a58b2f315715e"), looks := false }, kinds := [], alts := [], laidByText := true, laidKinds := [.data], laidTests := true, laidLooks := .later }
def TallyBoundsCardSaid : Prop := Claim7.holds Tryd.pinned (.plain (OpenSpec.ofChange tallyBoundsSpec)) tallyBoundsCard

/-- THE TIED CARD OF 'provostlaw13.TallyAll'. -/
def tallyAllCard : Claim7 := { stood := { row := tallyAllRow, standIns := [], harness := (true, "2409cbe296b59e09920fa0010369ae8c0882db0c3b3e4b7c286a58b2f315715e"), looks := false }, kinds := [], alts := [], laidByText := true, laidKinds := [.data], laidTests := true, laidLooks := .later }
def TallyAllCardSaid : Prop := Claim7.holds Tryd.pinned (.plain (OpenSpec.ofChange tallyAllSpec)) tallyAllCard

/-- THE SECOND FORM's CARD OF 'provostlaw12.SolveMore'. -/
def solveMoreUptoCard : Claim7 := { stood := { row := solveMoreUptoRow, standIns := [], harness := (true, "2409cbe296b59e09920fa0010369ae8c0882db0c3b3e4b7c286a58b2f315715e"), looks := false }, kinds := [], alts := [], laidByText := true, laidKinds := [.data], laidTests := true, laidLooks := .later }
def SolveMoreUptoCardSaid : Prop := Claim7.holds Tryd.pinned (.plain (OpenSpec.upto solveMoreSpec)) solveMoreUptoCard

/-- THE SECOND FORM's CARD OF 'provostlaw13.TallyPlans'. -/
def tallyPlansUptoCard : Claim7 := { stood := { row := tallyPlansUptoRow, standIns := [], harness := (true, "2409cbe296b59e09920fa0010369ae8c0882db0c3b3e4b7c286a58b2f315715e"), looks := false }, kinds := [], alts := [], laidByText := true, laidKinds := [.data], laidTests := true, laidLooks := .later }
def TallyPlansUptoCardSaid : Prop := Claim7.holds Tryd.pinned (.plain (OpenSpec.upto tallyPlansSpec)) tallyPlansUptoCard

/-- THE SECOND FORM's CARD OF 'provostlaw13.TallyLive'. -/
def tallyLiveUptoCard : Claim7 := { stood := { row := tallyLiveUptoRow, standIns := [], harness := (true, "2409cbe296b59e09920fa0010369ae8c0882db0c3b3e4b7c286a58b2f315715e"), looks := false }, kinds := [], alts := [], laidByText := true, laidKinds := [.data], laidTests := true, laidLooks := .later }
def TallyLiveUptoCardSaid : Prop := Claim7.holds Tryd.pinned (.plain (OpenSpec.upto tallyLiveSpec)) tallyLiveUptoCard

/-- THE SECOND FORM's CARD OF 'provostlaw15.CoreWhy'. -/
def coreWhyUptoCard : Claim7 := { stood := { row := coreWhyUptoRow, standIns := [], harness := (true, "2409cbe296b59e09920fa0010369ae8c0882db0c3b3e4b7c286a58b2f315715e"), looks := false }, kinds := [], alts := [], laidByText := true, laidKinds := [.data], laidTests := true, laidLooks := .later }
def CoreWhyUptoCardSaid : Prop := Claim7.holds Tryd.pinned (.plain (OpenSpec.upto coreWhySpec)) coreWhyUptoCard

/-- THE SECOND FORM's CARD OF 'provostlaw15.CoreWithout'. -/
def coreWithoutUptoCard : Claim7 := { stood := { row := coreWithoutUptoRow, standIns := [], harness := (true, "2409cbe296b59e09920fa0010369ae8c0882db0c3b3e4b7c286a58b2f315715e"), looks := false }, kinds := [], alts := [], laidByText := true, laidKinds := [.data], laidTests := true, laidLooks := .later }
def CoreWithoutUptoCardSaid : Prop := Claim7.holds Tryd.pinned (.plain (OpenSpec.upto coreWithoutSpec)) coreWithoutUptoCard

/-- THE SECOND FORM's CARD OF 'provostlaw15.CoreOwn'. -/
def coreOwnUptoCard : Claim7 := { stood := { row := coreOwnUptoRow, standIns := [], harness := (true, "2409cbe296b59e09920fa0010369ae8c0882db0c3b3e4b7c286a58b2f315715e"), looks := false }, kinds := [], alts := [], laidByText := true, laidKinds := [.data], laidTests := true, laidLooks := .later }
def CoreOwnUptoCardSaid : Prop := Claim7.holds Tryd.pinned (.plain (OpenSpec.upto coreOwnSpec)) coreOwnUptoCard

/-- THE SECOND FORM's CARD OF 'provostlaw12.SolveOwn'. -/
def solveOwnUptoCard : Claim7 := { stood := { row := solveOwnUptoRow, standIns := [], harness := (true, "2409cbe296b59e09920fa0010369ae8c0882db0c3b3e4b7c286a58b2f315715e"), looks := false }, kinds := [], alts := [], laidByText := true, laidKinds := [.data], laidTests := true, laidLooks := .later }
def SolveOwnUptoCardSaid : Prop := Claim7.holds Tryd.pinned (.plain (OpenSpec.upto solveOwnSpec)) solveOwnUptoCard

/-- THE SECOND FORM's CARD OF 'provostlaw13.TallySizes'. -/
def tallySizesUptoCard : Claim7 := { stood := { row := tallySizesUptoRow, standIns := [], harness := (true, "2409cbe296b59e09920fa0010369ae8c0882db0c3b3e4b7c286a58b2f315715e"), looks := false }, kinds := [], alts := [], laidByText := true, laidKinds := [.data], laidTests := true, laidLooks := .later }
def TallySizesUptoCardSaid : Prop := Claim7.holds Tryd.pinned (.plain (OpenSpec.upto tallySizesSpec)) tallySizesUptoCard

/-- THE SECOND FORM's CARD OF 'provostlaw13.TallyOwn'. -/
def tallyOwnUptoCard : Claim7 := { stood := { row := tallyOwnUptoRow, standIns := [], harness := (true, "2409cbe296b59e09920fa0010369ae8c0882db0c3b3e4b7c286a58b2f315715e"), looks := false }, kinds := [], alts := [], laidByText := true, laidKinds := [.data], laidTests := true, laidLooks := .later }
def TallyOwnUptoCardSaid : Prop := Claim7.holds Tryd.pinned (.plain (OpenSpec.upto tallyOwnSpec)) tallyOwnUptoCard

/-- THE SECOND FORM's CARD OF 'provostlaw13.TallyEach'. -/
def tallyEachUptoCard : Claim7 := { stood := { row := tallyEachUptoRow, standIns := [], harness := (true, "2409cbe296b59e09920fa0010369ae8c0882db0c3b3e4b7c286a58b2f315715e"), looks := false }, kinds := [], alts := [], laidByText := true, laidKinds := [.data], laidTests := true, laidLooks := .later }
def TallyEachUptoCardSaid : Prop := Claim7.holds Tryd.pinned (.plain (OpenSpec.upto tallyEachSpec)) tallyEachUptoCard

/-- THE SECOND FORM's CARD OF 'provostlaw13.TallyBounds'. -/
def tallyBoundsUptoCard : Claim7 := { stood := { row := tallyBoundsUptoRow, standIns := [], harness := (true, "2409cbe296b59e09920fa0010369ae8c0882db0c3b3e4b7c286a58b2f315715e"), looks := false }, kinds := [], alts := [], laidByText := true, laidKinds := [.data], laidTests := true, laidLooks := .later }
def TallyBoundsUptoCardSaid : Prop := Claim7.holds Tryd.pinned (.plain (OpenSpec.upto tallyBoundsSpec)) tallyBoundsUptoCard

/-- THE SECOND FORM's CARD OF 'provostlaw13.TallyAll'. -/
def tallyAllUptoCard : Claim7 := { stood := { row := tallyAllUptoRow, standIns := [], harness := (true, "2409cbe296b59e09920fa0010369ae8c0882db0c3b3e4b7c286a58b2f315715e"), looks := false }, kinds := [], alts := [], laidByText := true, laidKinds := [.data], laidTests := true, laidLooks := .later }
def TallyAllUptoCardSaid : Prop := Claim7.holds Tryd.pinned (.plain (OpenSpec.upto tallyAllSpec)) tallyAllUptoCard
end Rows
end Go.Proofs.YtccgigdjkghieaaDoor
