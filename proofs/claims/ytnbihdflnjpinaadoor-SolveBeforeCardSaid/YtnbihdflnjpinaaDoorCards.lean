/-
  DERIVED. GIVEN WITH THE SEED: THE CARDS: each row of YtnbihdflnjpinaaDoorRows.lean that lists a variable, with what it lists TIED to the program's text (the seventh form; the later family's looks); each row that meets fmt, with fmt's text TOLD by the authors' own Lean function (tested against real Go, not proved from fmt's source: count such statements apart). THE CARD IS WHAT COUNTS. Prove the row's statement (the work); the ties are given (YtnbihdflnjpinaaDoorTie.lean); close each card by the builder's one call (the guide's Derived/Test/ToyasCard.lean, 'card_holds'). Laid BY PROGRAM, IN A SANDBOX (cutbox-door.mjs). By AI agents, Wed Nov 11 2026. No macro, syntax, notation, axiom, sorry.
-/
import Derived.Test.YtnbihdflnjpinaaDoorRows
import GoSem.ClaimSeven
namespace Go.Proofs.YtnbihdflnjpinaaDoor
namespace Rows

/-- THE TIED CARD OF 'provostlaw12.SolveCheck'. -/
def solveCheckCard : Claim7 := { stood := { row := solveCheckRow, standIns := [], harness := (true, "fa5551d7a440efb7bd6067dcbe9ff33a226fffac5b6065f05fefdbc02b0e50e0"), looks := false }, kinds := [], alts := [], laidByText := true, laidKinds := [.data], laidTests := true, laidLooks := .later }
def SolveCheckCardSaid : Prop := Claim7.holds Tryd.pinned (.plain (OpenSpec.ofChange solveCheckSpec)) solveCheckCard

/-- THE TIED CARD OF 'provostlaw12.SolveLeast'. -/
def solveLeastCard : Claim7 := { stood := { row := solveLeastRow, standIns := [], harness := (true, "fa5551d7a440efb7bd6067dcbe9ff33a226fffac5b6065f05fefdbc02b0e50e0"), looks := false }, kinds := [], alts := [], laidByText := true, laidKinds := [.data], laidTests := true, laidLooks := .later }
def SolveLeastCardSaid : Prop := Claim7.holds Tryd.pinned (.plain (OpenSpec.ofChange solveLeastSpec)) solveLeastCard

/-- THE TIED CARD OF 'provostlaw12.SolveMore'. -/
def solveMoreCard : Claim7 := { stood := { row := solveMoreRow, standIns := [], harness := (true, "fa5551d7a440efb7bd6067dcbe9ff33a226fffac5b6065f05fefdbc02b0e50e0"), looks := false }, kinds := [], alts := [], laidByText := true, laidKinds := [.data], laidTests := true, laidLooks := .later }
def SolveMoreCardSaid : Prop := Claim7.holds Tryd.pinned (.plain (OpenSpec.ofChange solveMoreSpec)) solveMoreCard

/-- THE TIED CARD OF 'provostlaw12.SolveNames'. -/
def solveNamesCard : Claim7 := { stood := { row := solveNamesRow, standIns := [], harness := (true, "fa5551d7a440efb7bd6067dcbe9ff33a226fffac5b6065f05fefdbc02b0e50e0"), looks := false }, kinds := [], alts := [], laidByText := true, laidKinds := [.data], laidTests := true, laidLooks := .later }
def SolveNamesCardSaid : Prop := Claim7.holds Tryd.pinned (.plain (OpenSpec.ofChange solveNamesSpec)) solveNamesCard

/-- THE TIED CARD OF 'provostlaw12.SolveGauge'. -/
def solveGaugeCard : Claim7 := { stood := { row := solveGaugeRow, standIns := [], harness := (true, "fa5551d7a440efb7bd6067dcbe9ff33a226fffac5b6065f05fefdbc02b0e50e0"), looks := false }, kinds := [], alts := [], laidByText := true, laidKinds := [.data], laidTests := true, laidLooks := .later }
def SolveGaugeCardSaid : Prop := Claim7.holds Tryd.pinned (.plain (OpenSpec.ofChange solveGaugeSpec)) solveGaugeCard

/-- THE TIED CARD OF 'provostlaw12.SolveTight'. -/
def solveTightCard : Claim7 := { stood := { row := solveTightRow, standIns := [], harness := (true, "fa5551d7a440efb7bd6067dcbe9ff33a226fffac5b6065f05fefdbc02b0e50e0"), looks := false }, kinds := [], alts := [], laidByText := true, laidKinds := [.data], laidTests := true, laidLooks := .later }
def SolveTightCardSaid : Prop := Claim7.holds Tryd.pinned (.plain (OpenSpec.ofChange solveTightSpec)) solveTightCard

/-- THE TIED CARD OF 'provostlaw12.SolveFix'. -/
def solveFixCard : Claim7 := { stood := { row := solveFixRow, standIns := [], harness := (true, "fa5551d7a440efb7bd6067dcbe9ff33a226fffac5b6065f05fefdbc02b0e50e0"), looks := false }, kinds := [], alts := [], laidByText := true, laidKinds := [.data], laidTests := true, laidLooks := .later }
def SolveFixCardSaid : Prop := Claim7.holds Tryd.pinned (.plain (OpenSpec.ofChange solveFixSpec)) solveFixCard

/-- THE TIED CARD OF 'provostlaw12.SolveBefore'. -/
def solveBeforeCard : Claim7 := { stood := { row := solveBeforeRow, standIns := [], harness := (true, "fa5551d7a440efb7bd6067dcbe9ff33a226fffac5b6065f05fefdbc02b0e50e0"), looks := false }, kinds := [], alts := [], laidByText := true, laidKinds := [.data], laidTests := true, laidLooks := .later }
def SolveBeforeCardSaid : Prop := Claim7.holds Tryd.pinned (.plain (OpenSpec.ofChange solveBeforeSpec)) solveBeforeCard

/-- THE TIED CARD OF 'provostlaw12.SolveBest'. -/
def solveBestCard : Claim7 := { stood := { row := solveBestRow, standIns := [], harness := (true, "fa5551d7a440efb7bd6067dcbe9ff33a226fffac5b6065f05fefdbc02b0e50e0"), looks := false }, kinds := [], alts := [], laidByText := true, laidKinds := [.data], laidTests := true, laidLooks := .later }
def SolveBestCardSaid : Prop := Claim7.holds Tryd.pinned (.plain (OpenSpec.ofChange solveBestSpec)) solveBestCard

/-- THE TIED CARD OF 'provostlaw12.SolveOwn'. -/
def solveOwnCard : Claim7 := { stood := { row := solveOwnRow, standIns := [], harness := (true, "fa5551d7a440efb7bd6067dcbe9ff33a226fffac5b6065f05fefdbc02b0e50e0"), looks := false }, kinds := [], alts := [], laidByText := true, laidKinds := [.data], laidTests := true, laidLooks := .later }
def SolveOwnCardSaid : Prop := Claim7.holds Tryd.pinned (.plain (OpenSpec.ofChange solveOwnSpec)) solveOwnCard

/-- THE SECOND FORM's CARD OF 'provostlaw12.SolveCheck'. -/
def solveCheckUptoCard : Claim7 := { stood := { row := solveCheckUptoRow, standIns := [], harness := (true, "fa5551d7a440efb7bd6067dcbe9ff33a226fffac5b6065f05fefdbc02b0e50e0"), looks := false }, kinds := [], alts := [], laidByText := true, laidKinds := [.data], laidTests := true, laidLooks := .later }
def SolveCheckUptoCardSaid : Prop := Claim7.holds Tryd.pinned (.plain (OpenSpec.upto solveCheckSpec)) solveCheckUptoCard

/-- THE SECOND FORM's CARD OF 'provostlaw12.SolveLeast'. -/
def solveLeastUptoCard : Claim7 := { stood := { row := solveLeastUptoRow, standIns := [], harness := (true, "fa5551d7a440efb7bd6067dcbe9ff33a226fffac5b6065f05fefdbc02b0e50e0"), looks := false }, kinds := [], alts := [], laidByText := true, laidKinds := [.data], laidTests := true, laidLooks := .later }
def SolveLeastUptoCardSaid : Prop := Claim7.holds Tryd.pinned (.plain (OpenSpec.upto solveLeastSpec)) solveLeastUptoCard

/-- THE SECOND FORM's CARD OF 'provostlaw12.SolveMore'. -/
def solveMoreUptoCard : Claim7 := { stood := { row := solveMoreUptoRow, standIns := [], harness := (true, "fa5551d7a440efb7bd6067dcbe9ff33a226fffac5b6065f05fefdbc02b0e50e0"), looks := false }, kinds := [], alts := [], laidByText := true, laidKinds := [.data], laidTests := true, laidLooks := .later }
def SolveMoreUptoCardSaid : Prop := Claim7.holds Tryd.pinned (.plain (OpenSpec.upto solveMoreSpec)) solveMoreUptoCard

/-- THE SECOND FORM's CARD OF 'provostlaw12.SolveNames'. -/
def solveNamesUptoCard : Claim7 := { stood := { row := solveNamesUptoRow, standIns := [], harness := (true, "fa5551d7a440efb7bd6067dcbe9ff33a226fffac5b6065f05fefdbc02b0e50e0"), looks := false }, kinds := [], alts := [], laidByText := true, laidKinds := [.data], laidTests := true, laidLooks := .later }
def SolveNamesUptoCardSaid : Prop := Claim7.holds Tryd.pinned (.plain (OpenSpec.upto solveNamesSpec)) solveNamesUptoCard

/-- THE SECOND FORM's CARD OF 'provostlaw12.SolveGauge'. -/
def solveGaugeUptoCard : Claim7 := { stood := { row := solveGaugeUptoRow, standIns := [], harness := (true, "fa5551d7a440efb7bd6067dcbe9ff33a226fffac5b6065f05fefdbc02b0e50e0"), looks := false }, kinds := [], alts := [], laidByText := true, laidKinds := [.data], laidTests := true, laidLooks := .later }
def SolveGaugeUptoCardSaid : Prop := Claim7.holds Tryd.pinned (.plain (OpenSpec.upto solveGaugeSpec)) solveGaugeUptoCard

/-- THE SECOND FORM's CARD OF 'provostlaw12.SolveTight'. -/
def solveTightUptoCard : Claim7 := { stood := { row := solveTightUptoRow, standIns := [], harness := (true, "fa5551d7a440efb7bd6067dcbe9ff33a226fffac5b6065f05fefdbc02b0e50e0"), looks := false }, kinds := [], alts := [], laidByText := true, laidKinds := [.data], laidTests := true, laidLooks := .later }
def SolveTightUptoCardSaid : Prop := Claim7.holds Tryd.pinned (.plain (OpenSpec.upto solveTightSpec)) solveTightUptoCard

/-- THE SECOND FORM's CARD OF 'provostlaw12.SolveFix'. -/
def solveFixUptoCard : Claim7 := { stood := { row := solveFixUptoRow, standIns := [], harness := (true, "fa5551d7a440efb7bd6067dcbe9ff33a226fffac5b6065f05fefdbc02b0e50e0"), looks := false }, kinds := [], alts := [], laidByText := true, laidKinds := [.data], laidTests := true, laidLooks := .later }
def SolveFixUptoCardSaid : Prop := Claim7.holds Tryd.pinned (.plain (OpenSpec.upto solveFixSpec)) solveFixUptoCard

/-- THE SECOND FORM's CARD OF 'provostlaw12.SolveBefore'. -/
def solveBeforeUptoCard : Claim7 := { stood := { row := solveBeforeUptoRow, standIns := [], harness := (true, "fa5551d7a440efb7bd6067dcbe9ff33a226fffac5b6065f05fefdbc02b0e50e0"), looks := false }, kinds := [], alts := [], laidByText := true, laidKinds := [.data], laidTests := true, laidLooks := .later }
def SolveBeforeUptoCardSaid : Prop := Claim7.holds Tryd.pinned (.plain (OpenSpec.upto solveBeforeSpec)) solveBeforeUptoCard

/-- THE SECOND FORM's CARD OF 'provostlaw12.SolveBest'. -/
def solveBestUptoCard : Claim7 := { stood := { row := solveBestUptoRow, standIns := [], harness := (true, "fa5551d7a440efb7bd6067dcbe9ff33a226fffac5b6065f05fefdbc02b0e50e0"), looks := false }, kinds := [], alts := [], laidByText := true, laidKinds := [.data], laidTests := true, laidLooks := .later }
def SolveBestUptoCardSaid : Prop := Claim7.holds Tryd.pinned (.plain (OpenSpec.upto solveBestSpec)) solveBestUptoCard

/-- THE SECOND FORM's CARD OF 'provostlaw12.SolveOwn'. -/
def solveOwnUptoCard : Claim7 := { stood := { row := solveOwnUptoRow, standIns := [], harness := (true, "fa5551d7a440efb7bd6067dcbe9ff33a226fffac5b6065f05fefdbc02b0e50e0"), looks := false }, kinds := [], alts := [], laidByText := true, laidKinds := [.data], laidTests := true, laidLooks := .later }
def SolveOwnUptoCardSaid : Prop := Claim7.holds Tryd.pinned (.plain (OpenSpec.upto solveOwnSpec)) solveOwnUptoCard
end Rows
end Go.Proofs.YtnbihdflnjpinaaDoor
