/-
  DERIVED. GIVEN WITH THE SEED: THE CARDS: each row of YtgbahioegcpjiaaDoorRows.lean that lists a variable, with what it lists TIED to the program's text (the seventh form; the later family's looks); each row that meets fmt, with fmt's text TOLD by the authors' own Lean function (tested against real Go, not proved from fmt's source: count such statements apart). THE CARD IS WHAT COUNTS. Prove the row's statement (the work); the ties are given (YtgbahioegcpjiaaDoorTie.lean); close each card by the builder's one call (the guide's Derived/Test/ToyasCard.lean, 'card_holds'). Laid BY PROGRAM, IN A SANDBOX (cutbox-door.mjs). By AI agents, Wed Nov 11 2026. No macro, syntax, notation, axiom, sorry.
-/
import Derived.Test.YtgbahioegcpjiaaDoorRows
import GoSem.ClaimSeven
namespace Go.Proofs.YtgbahioegcpjiaaDoor
namespace Rows

/-- THE TIED CARD OF 'provostlaw13.TallyPlans'. -/
def tallyPlansCard : Claim7 := { stood := { row := tallyPlansRow, standIns := [], harness := (true, "934cd0b99aeb1c676ab2c0b001d69a658015cf33bc62d20c16e60adb2d3897f3"), looks := false }, kinds := [], alts := [], laidByText := true, laidKinds := [.data], laidTests := true, laidLooks := .later }
def TallyPlansCardSaid : Prop := Claim7.holds Tryd.pinned (.plain (OpenSpec.ofChange tallyPlansSpec)) tallyPlansCard

/-- THE TIED CARD OF 'provostlaw13.TallyLive'. -/
def tallyLiveCard : Claim7 := { stood := { row := tallyLiveRow, standIns := [], harness := (true, "934cd0b99aeb1c676ab2c0b001d69a658015cf33bc62d20c16e60adb2d3897f3"), looks := false }, kinds := [], alts := [], laidByText := true, laidKinds := [.data], laidTests := true, laidLooks := .later }
def TallyLiveCardSaid : Prop := Claim7.holds Tryd.pinned (.plain (OpenSpec.ofChange tallyLiveSpec)) tallyLiveCard

/-- THE TIED CARD OF 'provostlaw15.CoreWhy'. -/
def coreWhyCard : Claim7 := { stood := { row := coreWhyRow, standIns := [], harness := (true, "934cd0b99aeb1c676ab2c0b001d69a658015cf33bc62d20c16e60adb2d3897f3"), looks := false }, kinds := [], alts := [], laidByText := true, laidKinds := [.data], laidTests := true, laidLooks := .later }
def CoreWhyCardSaid : Prop := Claim7.holds Tryd.pinned (.plain (OpenSpec.ofChange coreWhySpec)) coreWhyCard

/-- THE TIED CARD OF 'provostlaw15.CoreWithout'. -/
def coreWithoutCard : Claim7 := { stood := { row := coreWithoutRow, standIns := [], harness := (true, "934cd0b99aeb1c676ab2c0b001d69a658015cf33bc62d20c16e60adb2d3897f3"), looks := false }, kinds := [], alts := [], laidByText := true, laidKinds := [.data], laidTests := true, laidLooks := .later }
def CoreWithoutCardSaid : Prop := Claim7.holds Tryd.pinned (.plain (OpenSpec.ofChange coreWithoutSpec)) coreWithoutCard

/-- THE TIED CARD OF 'provostlaw15.CoreNeeded'. -/
def coreNeededCard : Claim7 := { stood := { row := coreNeededRow, standIns := [], harness := (true, "934cd0b99aeb1c676ab2c0b001d69a658015cf33bc62d20c16e60adb2d3897f3"), looks := false }, kinds := [], alts := [], laidByText := true, laidKinds := [.data], laidTests := true, laidLooks := .later }
def CoreNeededCardSaid : Prop := Claim7.holds Tryd.pinned (.plain (OpenSpec.ofChange coreNeededSpec)) coreNeededCard

/-- THE TIED CARD OF 'provostlaw14.PlanSound'. -/
def planSoundCard : Claim7 := { stood := { row := planSoundRow, standIns := [], harness := (true, "934cd0b99aeb1c676ab2c0b001d69a658015cf33bc62d20c16e60adb2d3897f3"), looks := false }, kinds := [], alts := [], laidByText := true, laidKinds := [.data], laidTests := true, laidLooks := .later }
def PlanSoundCardSaid : Prop := Claim7.holds Tryd.pinned (.plain (OpenSpec.ofChange planSoundSpec)) planSoundCard

/-- THE TIED CARD OF 'provostlaw14.PlanTurned'. -/
def planTurnedCard : Claim7 := { stood := { row := planTurnedRow, standIns := [], harness := (true, "934cd0b99aeb1c676ab2c0b001d69a658015cf33bc62d20c16e60adb2d3897f3"), looks := false }, kinds := [], alts := [], laidByText := true, laidKinds := [.data], laidTests := true, laidLooks := .later }
def PlanTurnedCardSaid : Prop := Claim7.holds Tryd.pinned (.plain (OpenSpec.ofChange planTurnedSpec)) planTurnedCard

/-- THE TIED CARD OF 'provostlaw16.HardyLose'. -/
def hardyLoseCard : Claim7 := { stood := { row := hardyLoseRow, standIns := [], harness := (true, "934cd0b99aeb1c676ab2c0b001d69a658015cf33bc62d20c16e60adb2d3897f3"), looks := false }, kinds := [], alts := [], laidByText := true, laidKinds := [.data], laidTests := true, laidLooks := .later }
def HardyLoseCardSaid : Prop := Claim7.holds Tryd.pinned (.plain (OpenSpec.ofChange hardyLoseSpec)) hardyLoseCard

/-- THE TIED CARD OF 'provostlaw16.HardyWeak'. -/
def hardyWeakCard : Claim7 := { stood := { row := hardyWeakRow, standIns := [], harness := (true, "934cd0b99aeb1c676ab2c0b001d69a658015cf33bc62d20c16e60adb2d3897f3"), looks := false }, kinds := [], alts := [], laidByText := true, laidKinds := [.data], laidTests := true, laidLooks := .later }
def HardyWeakCardSaid : Prop := Claim7.holds Tryd.pinned (.plain (OpenSpec.ofChange hardyWeakSpec)) hardyWeakCard

/-- THE TIED CARD OF 'provostlaw16.HardyGrade'. -/
def hardyGradeCard : Claim7 := { stood := { row := hardyGradeRow, standIns := [], harness := (true, "934cd0b99aeb1c676ab2c0b001d69a658015cf33bc62d20c16e60adb2d3897f3"), looks := false }, kinds := [], alts := [], laidByText := true, laidKinds := [.data], laidTests := true, laidLooks := .later }
def HardyGradeCardSaid : Prop := Claim7.holds Tryd.pinned (.plain (OpenSpec.ofChange hardyGradeSpec)) hardyGradeCard

/-- THE TIED CARD OF 'provostlaw16.HardyProof'. -/
def hardyProofCard : Claim7 := { stood := { row := hardyProofRow, standIns := [], harness := (true, "934cd0b99aeb1c676ab2c0b001d69a658015cf33bc62d20c16e60adb2d3897f3"), looks := false }, kinds := [], alts := [], laidByText := true, laidKinds := [.data], laidTests := true, laidLooks := .later }
def HardyProofCardSaid : Prop := Claim7.holds Tryd.pinned (.plain (OpenSpec.ofChange hardyProofSpec)) hardyProofCard

/-- THE TIED CARD OF 'provostlaw16.HardyNeeded'. -/
def hardyNeededCard : Claim7 := { stood := { row := hardyNeededRow, standIns := [], harness := (true, "934cd0b99aeb1c676ab2c0b001d69a658015cf33bc62d20c16e60adb2d3897f3"), looks := false }, kinds := [], alts := [], laidByText := true, laidKinds := [.data], laidTests := true, laidLooks := .later }
def HardyNeededCardSaid : Prop := Claim7.holds Tryd.pinned (.plain (OpenSpec.ofChange hardyNeededSpec)) hardyNeededCard

/-- THE SECOND FORM's CARD OF 'provostlaw13.TallyPlans'. -/
def tallyPlansUptoCard : Claim7 := { stood := { row := tallyPlansUptoRow, standIns := [], harness := (true, "934cd0b99aeb1c676ab2c0b001d69a658015cf33bc62d20c16e60adb2d3897f3"), looks := false }, kinds := [], alts := [], laidByText := true, laidKinds := [.data], laidTests := true, laidLooks := .later }
def TallyPlansUptoCardSaid : Prop := Claim7.holds Tryd.pinned (.plain (OpenSpec.upto tallyPlansSpec)) tallyPlansUptoCard

/-- THE SECOND FORM's CARD OF 'provostlaw13.TallyLive'. -/
def tallyLiveUptoCard : Claim7 := { stood := { row := tallyLiveUptoRow, standIns := [], harness := (true, "934cd0b99aeb1c676ab2c0b001d69a658015cf33bc62d20c16e60adb2d3897f3"), looks := false }, kinds := [], alts := [], laidByText := true, laidKinds := [.data], laidTests := true, laidLooks := .later }
def TallyLiveUptoCardSaid : Prop := Claim7.holds Tryd.pinned (.plain (OpenSpec.upto tallyLiveSpec)) tallyLiveUptoCard

/-- THE SECOND FORM's CARD OF 'provostlaw15.CoreWhy'. -/
def coreWhyUptoCard : Claim7 := { stood := { row := coreWhyUptoRow, standIns := [], harness := (true, "934cd0b99aeb1c676ab2c0b001d69a658015cf33bc62d20c16e60adb2d3897f3"), looks := false }, kinds := [], alts := [], laidByText := true, laidKinds := [.data], laidTests := true, laidLooks := .later }
def CoreWhyUptoCardSaid : Prop := Claim7.holds Tryd.pinned (.plain (OpenSpec.upto coreWhySpec)) coreWhyUptoCard

/-- THE SECOND FORM's CARD OF 'provostlaw15.CoreWithout'. -/
def coreWithoutUptoCard : Claim7 := { stood := { row := coreWithoutUptoRow, standIns := [], harness := (true, "934cd0b99aeb1c676ab2c0b001d69a658015cf33bc62d20c16e60adb2d3897f3"), looks := false }, kinds := [], alts := [], laidByText := true, laidKinds := [.data], laidTests := true, laidLooks := .later }
def CoreWithoutUptoCardSaid : Prop := Claim7.holds Tryd.pinned (.plain (OpenSpec.upto coreWithoutSpec)) coreWithoutUptoCard

/-- THE SECOND FORM's CARD OF 'provostlaw15.CoreNeeded'. -/
def coreNeededUptoCard : Claim7 := { stood := { row := coreNeededUptoRow, standIns := [], harness := (true, "934cd0b99aeb1c676ab2c0b001d69a658015cf33bc62d20c16e60adb2d3897f3"), looks := false }, kinds := [], alts := [], laidByText := true, laidKinds := [.data], laidTests := true, laidLooks := .later }
def CoreNeededUptoCardSaid : Prop := Claim7.holds Tryd.pinned (.plain (OpenSpec.upto coreNeededSpec)) coreNeededUptoCard

/-- THE SECOND FORM's CARD OF 'provostlaw14.PlanSound'. -/
def planSoundUptoCard : Claim7 := { stood := { row := planSoundUptoRow, standIns := [], harness := (true, "934cd0b99aeb1c676ab2c0b001d69a658015cf33bc62d20c16e60adb2d3897f3"), looks := false }, kinds := [], alts := [], laidByText := true, laidKinds := [.data], laidTests := true, laidLooks := .later }
def PlanSoundUptoCardSaid : Prop := Claim7.holds Tryd.pinned (.plain (OpenSpec.upto planSoundSpec)) planSoundUptoCard

/-- THE SECOND FORM's CARD OF 'provostlaw14.PlanTurned'. -/
def planTurnedUptoCard : Claim7 := { stood := { row := planTurnedUptoRow, standIns := [], harness := (true, "934cd0b99aeb1c676ab2c0b001d69a658015cf33bc62d20c16e60adb2d3897f3"), looks := false }, kinds := [], alts := [], laidByText := true, laidKinds := [.data], laidTests := true, laidLooks := .later }
def PlanTurnedUptoCardSaid : Prop := Claim7.holds Tryd.pinned (.plain (OpenSpec.upto planTurnedSpec)) planTurnedUptoCard

/-- THE SECOND FORM's CARD OF 'provostlaw16.HardyLose'. -/
def hardyLoseUptoCard : Claim7 := { stood := { row := hardyLoseUptoRow, standIns := [], harness := (true, "934cd0b99aeb1c676ab2c0b001d69a658015cf33bc62d20c16e60adb2d3897f3"), looks := false }, kinds := [], alts := [], laidByText := true, laidKinds := [.data], laidTests := true, laidLooks := .later }
def HardyLoseUptoCardSaid : Prop := Claim7.holds Tryd.pinned (.plain (OpenSpec.upto hardyLoseSpec)) hardyLoseUptoCard

/-- THE SECOND FORM's CARD OF 'provostlaw16.HardyWeak'. -/
def hardyWeakUptoCard : Claim7 := { stood := { row := hardyWeakUptoRow, standIns := [], harness := (true, "934cd0b99aeb1c676ab2c0b001d69a658015cf33bc62d20c16e60adb2d3897f3"), looks := false }, kinds := [], alts := [], laidByText := true, laidKinds := [.data], laidTests := true, laidLooks := .later }
def HardyWeakUptoCardSaid : Prop := Claim7.holds Tryd.pinned (.plain (OpenSpec.upto hardyWeakSpec)) hardyWeakUptoCard

/-- THE SECOND FORM's CARD OF 'provostlaw16.HardyGrade'. -/
def hardyGradeUptoCard : Claim7 := { stood := { row := hardyGradeUptoRow, standIns := [], harness := (true, "934cd0b99aeb1c676ab2c0b001d69a658015cf33bc62d20c16e60adb2d3897f3"), looks := false }, kinds := [], alts := [], laidByText := true, laidKinds := [.data], laidTests := true, laidLooks := .later }
def HardyGradeUptoCardSaid : Prop := Claim7.holds Tryd.pinned (.plain (OpenSpec.upto hardyGradeSpec)) hardyGradeUptoCard

/-- THE SECOND FORM's CARD OF 'provostlaw16.HardyProof'. -/
def hardyProofUptoCard : Claim7 := { stood := { row := hardyProofUptoRow, standIns := [], harness := (true, "934cd0b99aeb1c676ab2c0b001d69a658015cf33bc62d20c16e60adb2d3897f3"), looks := false }, kinds := [], alts := [], laidByText := true, laidKinds := [.data], laidTests := true, laidLooks := .later }
def HardyProofUptoCardSaid : Prop := Claim7.holds Tryd.pinned (.plain (OpenSpec.upto hardyProofSpec)) hardyProofUptoCard

/-- THE SECOND FORM's CARD OF 'provostlaw16.HardyNeeded'. -/
def hardyNeededUptoCard : Claim7 := { stood := { row := hardyNeededUptoRow, standIns := [], harness := (true, "934cd0b99aeb1c676ab2c0b001d69a658015cf33bc62d20c16e60adb2d3897f3"), looks := false }, kinds := [], alts := [], laidByText := true, laidKinds := [.data], laidTests := true, laidLooks := .later }
def HardyNeededUptoCardSaid : Prop := Claim7.holds Tryd.pinned (.plain (OpenSpec.upto hardyNeededSpec)) hardyNeededUptoCard
end Rows
end Go.Proofs.YtgbahioegcpjiaaDoor
