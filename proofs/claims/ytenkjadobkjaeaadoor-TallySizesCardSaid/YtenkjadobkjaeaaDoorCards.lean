/-
  DERIVED. GIVEN WITH THE SEED: THE CARDS: each row of YtenkjadobkjaeaaDoorRows.lean that lists a variable, with what it lists TIED to the program's text (the seventh form; the later family's looks); each row that meets fmt, with fmt's text TOLD by the authors' own Lean function (tested against real Go, not proved from fmt's source: count such statements apart). THE CARD IS WHAT COUNTS. Prove the row's statement (the work); the ties are given (YtenkjadobkjaeaaDoorTie.lean); close each card by the builder's one call (the guide's Derived/Test/ToyasCard.lean, 'card_holds'). Laid BY PROGRAM, IN A SANDBOX (cutbox-door.mjs). By AI agents, Wed Nov 11 2026. No macro, syntax, notation, axiom, sorry.
-/
import Derived.Test.YtenkjadobkjaeaaDoorRows
import GoSem.ClaimSeven
namespace Go.Proofs.YtenkjadobkjaeaaDoor
namespace Rows

/-- THE TIED CARD OF 'provostlaw12.SolveMore'. -/
def solveMoreCard : Claim7 := { stood := { row := solveMoreRow, standIns := [], harness := (true, "f37f4018f3eeffafb5c642b760d9def8af8c359ba01a0cd165c4bd1a9037a951"), looks := false }, kinds := [], alts := [], laidByText := true, laidKinds := [.data], laidTests := true, laidLooks := .later }
def SolveMoreCardSaid : Prop := Claim7.holds Tryd.pinned (.plain (OpenSpec.ofChange solveMoreSpec)) solveMoreCard

/-- THE TIED CARD OF 'provostlaw12.SolveNames'. -/
def solveNamesCard : Claim7 := { stood := { row := solveNamesRow, standIns := [], harness := (true, "f37f4018f3eeffafb5c642b760d9def8af8c359ba01a0cd165c4bd1a9037a951"), looks := false }, kinds := [], alts := [], laidByText := true, laidKinds := [.data], laidTests := true, laidLooks := .later }
def SolveNamesCardSaid : Prop := Claim7.holds Tryd.pinned (.plain (OpenSpec.ofChange solveNamesSpec)) solveNamesCard

/-- THE TIED CARD OF 'provostlaw12.SolveGauge'. -/
def solveGaugeCard : Claim7 := { stood := { row := solveGaugeRow, standIns := [], harness := (true, "f37f4018f3eeffafb5c642b760d9def8af8c359ba01a0cd165c4bd1a9037a951"), looks := false }, kinds := [], alts := [], laidByText := true, laidKinds := [.data], laidTests := true, laidLooks := .later }
def SolveGaugeCardSaid : Prop := Claim7.holds Tryd.pinned (.plain (OpenSpec.ofChange solveGaugeSpec)) solveGaugeCard

/-- THE TIED CARD OF 'provostlaw12.SolveTight'. -/
def solveTightCard : Claim7 := { stood := { row := solveTightRow, standIns := [], harness := (true, "f37f4018f3eeffafb5c642b760d9def8af8c359ba01a0cd165c4bd1a9037a951"), looks := false }, kinds := [], alts := [], laidByText := true, laidKinds := [.data], laidTests := true, laidLooks := .later }
def SolveTightCardSaid : Prop := Claim7.holds Tryd.pinned (.plain (OpenSpec.ofChange solveTightSpec)) solveTightCard

/-- THE TIED CARD OF 'provostlaw13.TallyPlans'. -/
def tallyPlansCard : Claim7 := { stood := { row := tallyPlansRow, standIns := [], harness := (true, "f37f4018f3eeffafb5c642b760d9def8af8c359ba01a0cd165c4bd1a9037a951"), looks := false }, kinds := [], alts := [], laidByText := true, laidKinds := [.data], laidTests := true, laidLooks := .later }
def TallyPlansCardSaid : Prop := Claim7.holds Tryd.pinned (.plain (OpenSpec.ofChange tallyPlansSpec)) tallyPlansCard

/-- THE TIED CARD OF 'provostlaw13.TallyLive'. -/
def tallyLiveCard : Claim7 := { stood := { row := tallyLiveRow, standIns := [], harness := (true, "f37f4018f3eeffafb5c642b760d9def8af8c359ba01a0cd165c4bd1a9037a951"), looks := false }, kinds := [], alts := [], laidByText := true, laidKinds := [.data], laidTests := true, laidLooks := .later }
def TallyLiveCardSaid : Prop := Claim7.holds Tryd.pinned (.plain (OpenSpec.ofChange tallyLiveSpec)) tallyLiveCard

/-- THE TIED CARD OF 'provostlaw15.CoreWhy'. -/
def coreWhyCard : Claim7 := { stood := { row := coreWhyRow, standIns := [], harness := (true, "f37f4018f3eeffafb5c642b760d9def8af8c359ba01a0cd165c4bd1a9037a951"), looks := false }, kinds := [], alts := [], laidByText := true, laidKinds := [.data], laidTests := true, laidLooks := .later }
def CoreWhyCardSaid : Prop := Claim7.holds Tryd.pinned (.plain (OpenSpec.ofChange coreWhySpec)) coreWhyCard

/-- THE TIED CARD OF 'provostlaw13.TallyAdds'. -/
def tallyAddsCard : Claim7 := { stood := { row := tallyAddsRow, standIns := [], harness := (true, "f37f4018f3eeffafb5c642b760d9def8af8c359ba01a0cd165c4bd1a9037a951"), looks := false }, kinds := [], alts := [], laidByText := true, laidKinds := [.data], laidTests := true, laidLooks := .later }
def TallyAddsCardSaid : Prop := Claim7.holds Tryd.pinned (.plain (OpenSpec.ofChange tallyAddsSpec)) tallyAddsCard

/-- THE TIED CARD OF 'provostlaw13.TallySizes'. -/
def tallySizesCard : Claim7 := { stood := { row := tallySizesRow, standIns := [], harness := (true, "f37f4018f3eeffafb5c642b760d9def8af8c359ba01a0cd165c4bd1a9037a951"), looks := false }, kinds := [], alts := [], laidByText := true, laidKinds := [.data], laidTests := true, laidLooks := .later }
def TallySizesCardSaid : Prop := Claim7.holds Tryd.pinned (.plain (OpenSpec.ofChange tallySizesSpec)) tallySizesCard

/-- THE TIED CARD OF 'provostlaw13.TallyEach'. -/
def tallyEachCard : Claim7 := { stood := { row := tallyEachRow, standIns := [], harness := (true, "f37f4018f3eeffafb5c642b760d9def8af8c359ba01a0cd165c4bd1a9037a951"), looks := false }, kinds := [], alts := [], laidByText := true, laidKinds := [.data], laidTests := true, laidLooks := .later }
def TallyEachCardSaid : Prop := Claim7.holds Tryd.pinned (.plain (OpenSpec.ofChange tallyEachSpec)) tallyEachCard

/-- THE TIED CARD OF 'provostlaw13.TallyBounds'. -/
def tallyBoundsCard : Claim7 := { stood := { row := tallyBoundsRow, standIns := [], harness := (true, "f37f4018f3eeffafb5c642b760d9def8af8c359ba01a0cd165c4bd1a9037a951"), looks := false }, kinds := [], alts := [], laidByText := true, laidKinds := [.data], laidTests := true, laidLooks := .later }
def TallyBoundsCardSaid : Prop := Claim7.holds Tryd.pinned (.plain (OpenSpec.ofChange tallyBoundsSpec)) tallyBoundsCard

/-- THE TIED CARD OF 'provostlaw13.TallyAll'. -/
def tallyAllCard : Claim7 := { stood := { row := tallyAllRow, standIns := [], harness := (true, "f37f4018f3eeffafb5c642b760d9def8af8c359ba01a0cd165c4bd1a9037a951"), looks := false }, kinds := [], alts := [], laidByText := true, laidKinds := [.data], laidTests := true, laidLooks := .later }
def TallyAllCardSaid : Prop := Claim7.holds Tryd.pinned (.plain (OpenSpec.ofChange tallyAllSpec)) tallyAllCard

/-- THE SECOND FORM's CARD OF 'provostlaw12.SolveMore'. -/
def solveMoreUptoCard : Claim7 := { stood := { row := solveMoreUptoRow, standIns := [], harness := (true, "f37f4018f3eeffafb5c642b760d9def8af8c359ba01a0cd165c4bd1a9037a951"), looks := false }, kinds := [], alts := [], laidByText := true, laidKinds := [.data], laidTests := true, laidLooks := .later }
def SolveMoreUptoCardSaid : Prop := Claim7.holds Tryd.pinned (.plain (OpenSpec.upto solveMoreSpec)) solveMoreUptoCard

/-- THE SECOND FORM's CARD OF 'provostlaw12.SolveNames'. -/
def solveNamesUptoCard : Claim7 := { stood := { row := solveNamesUptoRow, standIns := [], harness := (true, "f37f4018f3eeffafb5c642b760d9def8af8c359ba01a0cd165c4bd1a9037a951"), looks := false }, kinds := [], alts := [], laidByText := true, laidKinds := [.data], laidTests := true, laidLooks := .later }
def SolveNamesUptoCardSaid : Prop := Claim7.holds Tryd.pinned (.plain (OpenSpec.upto solveNamesSpec)) solveNamesUptoCard

/-- THE SECOND FORM's CARD OF 'provostlaw12.SolveGauge'. -/
def solveGaugeUptoCard : Claim7 := { stood := { row := solveGaugeUptoRow, standIns := [], harness := (true, "f37f4018f3eeffafb5c642b760d9def8af8c359ba01a0cd165c4bd1a9037a951"), looks := false }, kinds := [], alts := [], laidByText := true, laidKinds := [.data], laidTests := true, laidLooks := .later }
def SolveGaugeUptoCardSaid : Prop := Claim7.holds Tryd.pinned (.plain (OpenSpec.upto solveGaugeSpec)) solveGaugeUptoCard

/-- THE SECOND FORM's CARD OF 'provostlaw12.SolveTight'. -/
def solveTightUptoCard : Claim7 := { stood := { row := solveTightUptoRow, standIns := [], harness := (true, "f37f4018f3eeffafb5c642b760d9def8af8c359ba01a0cd165c4bd1a9037a951"), looks := false }, kinds := [], alts := [], laidByText := true, laidKinds := [.data], laidTests := true, laidLooks := .later }
def SolveTightUptoCardSaid : Prop := Claim7.holds Tryd.pinned (.plain (OpenSpec.upto solveTightSpec)) solveTightUptoCard

/-- THE SECOND FORM's CARD OF 'provostlaw13.TallyPlans'. -/
def tallyPlansUptoCard : Claim7 := { stood := { row := tallyPlansUptoRow, standIns := [], harness := (true, "f37f4018f3eeffafb5c642b760d9def8af8c359ba01a0cd165c4bd1a9037a951"), looks := false }, kinds := [], alts := [], laidByText := true, laidKinds := [.data], laidTests := true, laidLooks := .later }
def TallyPlansUptoCardSaid : Prop := Claim7.holds Tryd.pinned (.plain (OpenSpec.upto tallyPlansSpec)) tallyPlansUptoCard

/-- THE SECOND FORM's CARD OF 'provostlaw13.TallyLive'. -/
def tallyLiveUptoCard : Claim7 := { stood := { row := tallyLiveUptoRow, standIns := [], harness := (true, "f37f4018f3eeffafb5c642b760d9def8af8c359ba01a0cd165c4bd1a9037a951"), looks := false }, kinds := [], alts := [], laidByText := true, laidKinds := [.data], laidTests := true, laidLooks := .later }
def TallyLiveUptoCardSaid : Prop := Claim7.holds Tryd.pinned (.plain (OpenSpec.upto tallyLiveSpec)) tallyLiveUptoCard

/-- THE SECOND FORM's CARD OF 'provostlaw15.CoreWhy'. -/
def coreWhyUptoCard : Claim7 := { stood := { row := coreWhyUptoRow, standIns := [], harness := (true, "f37f4018f3eeffafb5c642b760d9def8af8c359ba01a0cd165c4bd1a9037a951"), looks := false }, kinds := [], alts := [], laidByText := true, laidKinds := [.data], laidTests := true, laidLooks := .later }
def CoreWhyUptoCardSaid : Prop := Claim7.holds Tryd.pinned (.plain (OpenSpec.upto coreWhySpec)) coreWhyUptoCard

/-- THE SECOND FORM's CARD OF 'provostlaw13.TallyAdds'. -/
def tallyAddsUptoCard : Claim7 := { stood := { row := tallyAddsUptoRow, standIns := [], harness := (true, "f37f4018f3eeffafb5c642b760d9def8af8c359ba01a0cd165c4bd1a9037a951"), looks := false }, kinds := [], alts := [], laidByText := true, laidKinds := [.data], laidTests := true, laidLooks := .later }
def TallyAddsUptoCardSaid : Prop := Claim7.holds Tryd.pinned (.plain (OpenSpec.upto tallyAddsSpec)) tallyAddsUptoCard

/-- THE SECOND FORM's CARD OF 'provostlaw13.TallySizes'. -/
def tallySizesUptoCard : Claim7 := { stood := { row := tallySizesUptoRow, standIns := [], harness := (true, "f37f4018f3eeffafb5c642b760d9def8af8c359ba01a0cd165c4bd1a9037a951"), looks := false }, kinds := [], alts := [], laidByText := true, laidKinds := [.data], laidTests := true, laidLooks := .later }
def TallySizesUptoCardSaid : Prop := Claim7.holds Tryd.pinned (.plain (OpenSpec.upto tallySizesSpec)) tallySizesUptoCard

/-- THE SECOND FORM's CARD OF 'provostlaw13.TallyEach'. -/
def tallyEachUptoCard : Claim7 := { stood := { row := tallyEachUptoRow, standIns := [], harness := (true, "f37f4018f3eeffafb5c642b760d9def8af8c359ba01a0cd165c4bd1a9037a951"), looks := false }, kinds := [], alts := [], laidByText := true, laidKinds := [.data], laidTests := true, laidLooks := .later }
def TallyEachUptoCardSaid : Prop := Claim7.holds Tryd.pinned (.plain (OpenSpec.upto tallyEachSpec)) tallyEachUptoCard

/-- THE SECOND FORM's CARD OF 'provostlaw13.TallyBounds'. -/
def tallyBoundsUptoCard : Claim7 := { stood := { row := tallyBoundsUptoRow, standIns := [], harness := (true, "f37f4018f3eeffafb5c642b760d9def8af8c359ba01a0cd165c4bd1a9037a951"), looks := false }, kinds := [], alts := [], laidByText := true, laidKinds := [.data], laidTests := true, laidLooks := .later }
def TallyBoundsUptoCardSaid : Prop := Claim7.holds Tryd.pinned (.plain (OpenSpec.upto tallyBoundsSpec)) tallyBoundsUptoCard

/-- THE SECOND FORM's CARD OF 'provostlaw13.TallyAll'. -/
def tallyAllUptoCard : Claim7 := { stood := { row := tallyAllUptoRow, standIns := [], harness := (true, "f37f4018f3eeffafb5c642b760d9def8af8c359ba01a0cd165c4bd1a9037a951"), looks := false }, kinds := [], alts := [], laidByText := true, laidKinds := [.data], laidTests := true, laidLooks := .later }
def TallyAllUptoCardSaid : Prop := Claim7.holds Tryd.pinned (.plain (OpenSpec.upto tallyAllSpec)) tallyAllUptoCard
end Rows
end Go.Proofs.YtenkjadobkjaeaaDoor
