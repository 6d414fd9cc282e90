/-
  NARROWER THAN 'FOR EVERY INPUT', by the rows' own cells (each row's printed sentence says how): SolveCheck: laid · SolveLeast: laid · SolveMore: laid · SolveNames: laid · SolveGauge: laid · SolveTight: laid · SolveFix: laid · SolveBefore: laid · SolveBest: laid · SolveOwn: laid.
  DERIVED. THE GIVEN ROWS OF THIS SEAT. 10 by the template 'for every input the law returns true; each argument reads behind the call as it read before'; 0 by the template 'total and deterministic' (their statements: YtnbihdflnjpinaaDoorTotals.lean).
  GIVEN WITH THE SEED: the statements are not yours to turn. If you find one false, say at which input.
  Laid BY PROGRAM, IN A SANDBOX (cutbox-rows.mjs): the forced cells as the released guide's own fill.sh prints them over the translation 041707dd5d1126e2… (all of the seat's roots in one cut). By AI agents, Wed Nov 11 2026. No macro, syntax, notation, axiom, sorry.
-/
import Derived.Test.YtnbihdflnjpinaaDoorChecked
import GoSem.Claim
import GoSem.ClaimJoined
import GoSem.ClaimMapViews
import Derived.JoinedTies
import Derived.KernelRfl
namespace Go.Proofs.YtnbihdflnjpinaaDoor
/- THE CELL 'sum', in the pinned program and in every row, IS THE sha256 OF THE DUMP (.gsa) THAT YtnbihdflnjpinaaDoorProg.lean LOADS. Nothing in Lean hashes anything: it is a label: what it is worth is what the hold of that sum in a sandbox is worth. -/
noncomputable def Tryd.pinned : Pinned := { name := "ytnbihdflnjpinaadoor", sum := "041707dd5d1126e2be04ad2071b6b09946d34b34ecbcf18925cb7d7d83d9c119", checked := Tryd.checked }
namespace Rows
def none {H : Type} : Left H := { results := [], args := [] }

/- WHAT THE LISTED PACKAGE-LEVEL VARIABLES READ AS WHEN THE CALL BEGINS. Each datum BY PROGRAM (the guide's laid-datum.mjs) off the statement by which the dump's own 'gosem.cut.vars' lays the variable. In a bare row this is a premise. The card (YtnbihdflnjpinaaDoorCards.lean) ties it to the program's text. -/
def laid_math_bits_deBruijn64tab {H : Type} : DataW H := .agg [.lit (.int .u8 0), .lit (.int .u8 1), .lit (.int .u8 56), .lit (.int .u8 2), .lit (.int .u8 57), .lit (.int .u8 49), .lit (.int .u8 28), .lit (.int .u8 3), .lit (.int .u8 61), .lit (.int .u8 58), .lit (.int .u8 42), .lit (.int .u8 50), .lit (.int .u8 38), .lit (.int .u8 29), .lit (.int .u8 17), .lit (.int .u8 4), .lit (.int .u8 62), .lit (.int .u8 47), .lit (.int .u8 59), .lit (.int .u8 36), .lit (.int .u8 45), .lit (.int .u8 43), .lit (.int .u8 51), .lit (.int .u8 22), .lit (.int .u8 53), .lit (.int .u8 39), .lit (.int .u8 33), .lit (.int .u8 30), .lit (.int .u8 24), .lit (.int .u8 18), .lit (.int .u8 12), .lit (.int .u8 5), .lit (.int .u8 63), .lit (.int .u8 55), .lit (.int .u8 48), .lit (.int .u8 27), .lit (.int .u8 60), .lit (.int .u8 41), .lit (.int .u8 37), .lit (.int .u8 16), .lit (.int .u8 46), .lit (.int .u8 35), .lit (.int .u8 44), .lit (.int .u8 21), .lit (.int .u8 52), .lit (.int .u8 32), .lit (.int .u8 23), .lit (.int .u8 11), .lit (.int .u8 54), .lit (.int .u8 26), .lit (.int .u8 40), .lit (.int .u8 15), .lit (.int .u8 34), .lit (.int .u8 20), .lit (.int .u8 31), .lit (.int .u8 10), .lit (.int .u8 25), .lit (.int .u8 14), .lit (.int .u8 19), .lit (.int .u8 9), .lit (.int .u8 13), .lit (.int .u8 8), .lit (.int .u8 7), .lit (.int .u8 6)]

/-- 'provostlaw12.SolveCheck': WHATEVER THE INPUT: true; the input reads as it did. -/
def solveCheckSpec : ChangeSpec := { name := "solveCheck", fn := fun _ => fun
  | [d1, d2] => { results := [.lit (.bool true)], args := [d1, d2] }
  | _ => none }
def solveCheckRow : OpenClaim := { program := "ytnbihdflnjpinaadoor", sum := "041707dd5d1126e2be04ad2071b6b09946d34b34ecbcf18925cb7d7d83d9c119", func := "provost/provostlaw12.SolveCheck", spec := "solveCheck", unfollowed := true, recurses := true, named := ["math/bits.deBruijn64tab"], apart := false, laid := [("math/bits.deBruijn64tab", laid_math_bits_deBruijn64tab)] }
def SolveCheckSaid : Prop := solveCheckRow.holds Tryd.pinned (OpenSpec.ofChange solveCheckSpec)

/-- ITS FALSE NEIGHBOUR: 'it returns false'. Refute it at one input. -/
def solveCheckWrong : ChangeSpec := { name := "solveCheck", fn := fun _ => fun
  | [d1, d2] => { results := [.lit (.bool false)], args := [d1, d2] }
  | _ => none }
def SolveCheckWrongFalsely : Prop := solveCheckRow.holds Tryd.pinned (OpenSpec.ofChange solveCheckWrong)

/-- 'provostlaw12.SolveLeast': WHATEVER THE INPUT: true; the input reads as it did. -/
def solveLeastSpec : ChangeSpec := { name := "solveLeast", fn := fun _ => fun
  | [d] => { results := [.lit (.bool true)], args := [d] }
  | _ => none }
def solveLeastRow : OpenClaim := { program := "ytnbihdflnjpinaadoor", sum := "041707dd5d1126e2be04ad2071b6b09946d34b34ecbcf18925cb7d7d83d9c119", func := "provost/provostlaw12.SolveLeast", spec := "solveLeast", unfollowed := true, recurses := true, named := ["math/bits.deBruijn64tab"], apart := false, laid := [("math/bits.deBruijn64tab", laid_math_bits_deBruijn64tab)] }
def SolveLeastSaid : Prop := solveLeastRow.holds Tryd.pinned (OpenSpec.ofChange solveLeastSpec)

/-- ITS FALSE NEIGHBOUR: 'it returns false'. Refute it at one input. -/
def solveLeastWrong : ChangeSpec := { name := "solveLeast", fn := fun _ => fun
  | [d] => { results := [.lit (.bool false)], args := [d] }
  | _ => none }
def SolveLeastWrongFalsely : Prop := solveLeastRow.holds Tryd.pinned (OpenSpec.ofChange solveLeastWrong)

/-- 'provostlaw12.SolveMore': WHATEVER THE INPUT: true; the input reads as it did. -/
def solveMoreSpec : ChangeSpec := { name := "solveMore", fn := fun _ => fun
  | [d1, d2, d3] => { results := [.lit (.bool true)], args := [d1, d2, d3] }
  | _ => none }
def solveMoreRow : OpenClaim := { program := "ytnbihdflnjpinaadoor", sum := "041707dd5d1126e2be04ad2071b6b09946d34b34ecbcf18925cb7d7d83d9c119", func := "provost/provostlaw12.SolveMore", spec := "solveMore", unfollowed := true, recurses := true, named := ["math/bits.deBruijn64tab"], apart := false, laid := [("math/bits.deBruijn64tab", laid_math_bits_deBruijn64tab)] }
def SolveMoreSaid : Prop := solveMoreRow.holds Tryd.pinned (OpenSpec.ofChange solveMoreSpec)

/-- ITS FALSE NEIGHBOUR: 'it returns false'. Refute it at one input. -/
def solveMoreWrong : ChangeSpec := { name := "solveMore", fn := fun _ => fun
  | [d1, d2, d3] => { results := [.lit (.bool false)], args := [d1, d2, d3] }
  | _ => none }
def SolveMoreWrongFalsely : Prop := solveMoreRow.holds Tryd.pinned (OpenSpec.ofChange solveMoreWrong)

/-- 'provostlaw12.SolveNames': WHATEVER THE INPUT: true; the input reads as it did. -/
def solveNamesSpec : ChangeSpec := { name := "solveNames", fn := fun _ => fun
  | [d1, d2] => { results := [.lit (.bool true)], args := [d1, d2] }
  | _ => none }
def solveNamesRow : OpenClaim := { program := "ytnbihdflnjpinaadoor", sum := "041707dd5d1126e2be04ad2071b6b09946d34b34ecbcf18925cb7d7d83d9c119", func := "provost/provostlaw12.SolveNames", spec := "solveNames", unfollowed := true, recurses := true, named := ["math/bits.deBruijn64tab"], apart := false, laid := [("math/bits.deBruijn64tab", laid_math_bits_deBruijn64tab)] }
def SolveNamesSaid : Prop := solveNamesRow.holds Tryd.pinned (OpenSpec.ofChange solveNamesSpec)

/-- ITS FALSE NEIGHBOUR: 'it returns false'. Refute it at one input. -/
def solveNamesWrong : ChangeSpec := { name := "solveNames", fn := fun _ => fun
  | [d1, d2] => { results := [.lit (.bool false)], args := [d1, d2] }
  | _ => none }
def SolveNamesWrongFalsely : Prop := solveNamesRow.holds Tryd.pinned (OpenSpec.ofChange solveNamesWrong)

/-- 'provostlaw12.SolveGauge': WHATEVER THE INPUT: true; the input reads as it did. -/
def solveGaugeSpec : ChangeSpec := { name := "solveGauge", fn := fun _ => fun
  | [d] => { results := [.lit (.bool true)], args := [d] }
  | _ => none }
def solveGaugeRow : OpenClaim := { program := "ytnbihdflnjpinaadoor", sum := "041707dd5d1126e2be04ad2071b6b09946d34b34ecbcf18925cb7d7d83d9c119", func := "provost/provostlaw12.SolveGauge", spec := "solveGauge", unfollowed := true, recurses := true, named := ["math/bits.deBruijn64tab"], apart := false, laid := [("math/bits.deBruijn64tab", laid_math_bits_deBruijn64tab)] }
def SolveGaugeSaid : Prop := solveGaugeRow.holds Tryd.pinned (OpenSpec.ofChange solveGaugeSpec)

/-- ITS FALSE NEIGHBOUR: 'it returns false'. Refute it at one input. -/
def solveGaugeWrong : ChangeSpec := { name := "solveGauge", fn := fun _ => fun
  | [d] => { results := [.lit (.bool false)], args := [d] }
  | _ => none }
def SolveGaugeWrongFalsely : Prop := solveGaugeRow.holds Tryd.pinned (OpenSpec.ofChange solveGaugeWrong)

/-- 'provostlaw12.SolveTight': WHATEVER THE INPUT: true; the input reads as it did. -/
def solveTightSpec : ChangeSpec := { name := "solveTight", fn := fun _ => fun
  | [d1, d2] => { results := [.lit (.bool true)], args := [d1, d2] }
  | _ => none }
def solveTightRow : OpenClaim := { program := "ytnbihdflnjpinaadoor", sum := "041707dd5d1126e2be04ad2071b6b09946d34b34ecbcf18925cb7d7d83d9c119", func := "provost/provostlaw12.SolveTight", spec := "solveTight", unfollowed := true, recurses := true, named := ["math/bits.deBruijn64tab"], apart := false, laid := [("math/bits.deBruijn64tab", laid_math_bits_deBruijn64tab)] }
def SolveTightSaid : Prop := solveTightRow.holds Tryd.pinned (OpenSpec.ofChange solveTightSpec)

/-- ITS FALSE NEIGHBOUR: 'it returns false'. Refute it at one input. -/
def solveTightWrong : ChangeSpec := { name := "solveTight", fn := fun _ => fun
  | [d1, d2] => { results := [.lit (.bool false)], args := [d1, d2] }
  | _ => none }
def SolveTightWrongFalsely : Prop := solveTightRow.holds Tryd.pinned (OpenSpec.ofChange solveTightWrong)

/-- 'provostlaw12.SolveFix': WHATEVER THE INPUT: true; the input reads as it did. -/
def solveFixSpec : ChangeSpec := { name := "solveFix", fn := fun _ => fun
  | [d1, d2, d3] => { results := [.lit (.bool true)], args := [d1, d2, d3] }
  | _ => none }
def solveFixRow : OpenClaim := { program := "ytnbihdflnjpinaadoor", sum := "041707dd5d1126e2be04ad2071b6b09946d34b34ecbcf18925cb7d7d83d9c119", func := "provost/provostlaw12.SolveFix", spec := "solveFix", unfollowed := true, recurses := true, named := ["math/bits.deBruijn64tab"], apart := false, laid := [("math/bits.deBruijn64tab", laid_math_bits_deBruijn64tab)] }
def SolveFixSaid : Prop := solveFixRow.holds Tryd.pinned (OpenSpec.ofChange solveFixSpec)

/-- ITS FALSE NEIGHBOUR: 'it returns false'. Refute it at one input. -/
def solveFixWrong : ChangeSpec := { name := "solveFix", fn := fun _ => fun
  | [d1, d2, d3] => { results := [.lit (.bool false)], args := [d1, d2, d3] }
  | _ => none }
def SolveFixWrongFalsely : Prop := solveFixRow.holds Tryd.pinned (OpenSpec.ofChange solveFixWrong)

/-- 'provostlaw12.SolveBefore': WHATEVER THE INPUT: true; the input reads as it did. -/
def solveBeforeSpec : ChangeSpec := { name := "solveBefore", fn := fun _ => fun
  | [d1, d2, d3] => { results := [.lit (.bool true)], args := [d1, d2, d3] }
  | _ => none }
def solveBeforeRow : OpenClaim := { program := "ytnbihdflnjpinaadoor", sum := "041707dd5d1126e2be04ad2071b6b09946d34b34ecbcf18925cb7d7d83d9c119", func := "provost/provostlaw12.SolveBefore", spec := "solveBefore", unfollowed := true, recurses := true, named := ["math/bits.deBruijn64tab"], apart := false, laid := [("math/bits.deBruijn64tab", laid_math_bits_deBruijn64tab)] }
def SolveBeforeSaid : Prop := solveBeforeRow.holds Tryd.pinned (OpenSpec.ofChange solveBeforeSpec)

/-- ITS FALSE NEIGHBOUR: 'it returns false'. Refute it at one input. -/
def solveBeforeWrong : ChangeSpec := { name := "solveBefore", fn := fun _ => fun
  | [d1, d2, d3] => { results := [.lit (.bool false)], args := [d1, d2, d3] }
  | _ => none }
def SolveBeforeWrongFalsely : Prop := solveBeforeRow.holds Tryd.pinned (OpenSpec.ofChange solveBeforeWrong)

/-- 'provostlaw12.SolveBest': WHATEVER THE INPUT: true; the input reads as it did. -/
def solveBestSpec : ChangeSpec := { name := "solveBest", fn := fun _ => fun
  | [d1, d2] => { results := [.lit (.bool true)], args := [d1, d2] }
  | _ => none }
def solveBestRow : OpenClaim := { program := "ytnbihdflnjpinaadoor", sum := "041707dd5d1126e2be04ad2071b6b09946d34b34ecbcf18925cb7d7d83d9c119", func := "provost/provostlaw12.SolveBest", spec := "solveBest", unfollowed := true, recurses := true, named := ["math/bits.deBruijn64tab"], apart := false, laid := [("math/bits.deBruijn64tab", laid_math_bits_deBruijn64tab)] }
def SolveBestSaid : Prop := solveBestRow.holds Tryd.pinned (OpenSpec.ofChange solveBestSpec)

/-- ITS FALSE NEIGHBOUR: 'it returns false'. Refute it at one input. -/
def solveBestWrong : ChangeSpec := { name := "solveBest", fn := fun _ => fun
  | [d1, d2] => { results := [.lit (.bool false)], args := [d1, d2] }
  | _ => none }
def SolveBestWrongFalsely : Prop := solveBestRow.holds Tryd.pinned (OpenSpec.ofChange solveBestWrong)

/-- 'provostlaw12.SolveOwn': WHATEVER THE INPUT: true; the input reads as it did. -/
def solveOwnSpec : ChangeSpec := { name := "solveOwn", fn := fun _ => fun
  | [d1, d2, d3] => { results := [.lit (.bool true)], args := [d1, d2, d3] }
  | _ => none }
def solveOwnRow : OpenClaim := { program := "ytnbihdflnjpinaadoor", sum := "041707dd5d1126e2be04ad2071b6b09946d34b34ecbcf18925cb7d7d83d9c119", func := "provost/provostlaw12.SolveOwn", spec := "solveOwn", unfollowed := true, recurses := true, named := ["math/bits.deBruijn64tab"], apart := false, laid := [("math/bits.deBruijn64tab", laid_math_bits_deBruijn64tab)] }
def SolveOwnSaid : Prop := solveOwnRow.holds Tryd.pinned (OpenSpec.ofChange solveOwnSpec)

/-- ITS FALSE NEIGHBOUR: 'it returns false'. Refute it at one input. -/
def solveOwnWrong : ChangeSpec := { name := "solveOwn", fn := fun _ => fun
  | [d1, d2, d3] => { results := [.lit (.bool false)], args := [d1, d2, d3] }
  | _ => none }
def SolveOwnWrongFalsely : Prop := solveOwnRow.holds Tryd.pinned (OpenSpec.ofChange solveOwnWrong)

/- THE SECOND FORM. 'bulk': how many values and letters a reading holds, each counted each time it is reached (what is shared counts as often as it is met; a slice's spare places count too). A statement '..UptoSaid' is the law's where the arguments, and the package variables that the reading takes, are together of bulk at most 1048576: NARROWER than '..Said'. Prove '..Said' where nothing that the law and all that it calls make is longer than what came in: it says more and counts as full. Else prove '..UptoSaid'. A law counts once. -/
mutual
def uptoBulk {H : Type} : DataW H → Nat
  | .lit (.string bytes) => bytes.length + 1
  | .lit _ => 1
  | .nil => 1
  | .ptr d => uptoBulk d + 1
  | .slice elems spare => uptoBulkAll elems + uptoBulkAll spare + 1
  | .agg parts => uptoBulkAll parts + 1
  | .iface _ d => uptoBulk d + 1
  | .map entries => uptoBulkEntries entries + 1
  | .held _ => 1
def uptoBulkAll {H : Type} : List (DataW H) → Nat
  | [] => 0
  | d :: r => uptoBulk d + uptoBulkAll r
def uptoBulkEntries {H : Type} : List (Lit × DataW H) → Nat
  | [] => 0
  | x :: r => uptoBulkEntry x + uptoBulkEntries r
def uptoBulkEntry {H : Type} : Lit × DataW H → Nat
  | (.string bytes, d) => bytes.length + uptoBulk d + 1
  | (_, d) => uptoBulk d + 1
 end
def uptoSmall : (H : Type) → List (DataW H) → Bool := fun _ ds => decide (uptoBulkAll ds ≤ 1048576)
def OpenSpec.upto (s : _root_.Go.ChangeSpec) : _root_.Go.OpenSpec := { _root_.Go.OpenSpec.ofChange s with cond := some uptoSmall }

/-- 'provostlaw12.SolveCheck', WHERE WHAT IT READS IS OF BULK AT MOST 1048576: true; the input reads as it did. -/
def solveCheckUptoRow : OpenClaim := { program := "ytnbihdflnjpinaadoor", sum := "041707dd5d1126e2be04ad2071b6b09946d34b34ecbcf18925cb7d7d83d9c119", func := "provost/provostlaw12.SolveCheck", spec := "solveCheck", unfollowed := true, recurses := true, named := ["math/bits.deBruijn64tab"], apart := false, laid := [("math/bits.deBruijn64tab", laid_math_bits_deBruijn64tab)], narrowed := true }
def SolveCheckUptoSaid : Prop := solveCheckUptoRow.holds Tryd.pinned (OpenSpec.upto solveCheckSpec)

/-- 'provostlaw12.SolveLeast', WHERE WHAT IT READS IS OF BULK AT MOST 1048576: true; the input reads as it did. -/
def solveLeastUptoRow : OpenClaim := { program := "ytnbihdflnjpinaadoor", sum := "041707dd5d1126e2be04ad2071b6b09946d34b34ecbcf18925cb7d7d83d9c119", func := "provost/provostlaw12.SolveLeast", spec := "solveLeast", unfollowed := true, recurses := true, named := ["math/bits.deBruijn64tab"], apart := false, laid := [("math/bits.deBruijn64tab", laid_math_bits_deBruijn64tab)], narrowed := true }
def SolveLeastUptoSaid : Prop := solveLeastUptoRow.holds Tryd.pinned (OpenSpec.upto solveLeastSpec)

/-- 'provostlaw12.SolveMore', WHERE WHAT IT READS IS OF BULK AT MOST 1048576: true; the input reads as it did. -/
def solveMoreUptoRow : OpenClaim := { program := "ytnbihdflnjpinaadoor", sum := "041707dd5d1126e2be04ad2071b6b09946d34b34ecbcf18925cb7d7d83d9c119", func := "provost/provostlaw12.SolveMore", spec := "solveMore", unfollowed := true, recurses := true, named := ["math/bits.deBruijn64tab"], apart := false, laid := [("math/bits.deBruijn64tab", laid_math_bits_deBruijn64tab)], narrowed := true }
def SolveMoreUptoSaid : Prop := solveMoreUptoRow.holds Tryd.pinned (OpenSpec.upto solveMoreSpec)

/-- 'provostlaw12.SolveNames', WHERE WHAT IT READS IS OF BULK AT MOST 1048576: true; the input reads as it did. -/
def solveNamesUptoRow : OpenClaim := { program := "ytnbihdflnjpinaadoor", sum := "041707dd5d1126e2be04ad2071b6b09946d34b34ecbcf18925cb7d7d83d9c119", func := "provost/provostlaw12.SolveNames", spec := "solveNames", unfollowed := true, recurses := true, named := ["math/bits.deBruijn64tab"], apart := false, laid := [("math/bits.deBruijn64tab", laid_math_bits_deBruijn64tab)], narrowed := true }
def SolveNamesUptoSaid : Prop := solveNamesUptoRow.holds Tryd.pinned (OpenSpec.upto solveNamesSpec)

/-- 'provostlaw12.SolveGauge', WHERE WHAT IT READS IS OF BULK AT MOST 1048576: true; the input reads as it did. -/
def solveGaugeUptoRow : OpenClaim := { program := "ytnbihdflnjpinaadoor", sum := "041707dd5d1126e2be04ad2071b6b09946d34b34ecbcf18925cb7d7d83d9c119", func := "provost/provostlaw12.SolveGauge", spec := "solveGauge", unfollowed := true, recurses := true, named := ["math/bits.deBruijn64tab"], apart := false, laid := [("math/bits.deBruijn64tab", laid_math_bits_deBruijn64tab)], narrowed := true }
def SolveGaugeUptoSaid : Prop := solveGaugeUptoRow.holds Tryd.pinned (OpenSpec.upto solveGaugeSpec)

/-- 'provostlaw12.SolveTight', WHERE WHAT IT READS IS OF BULK AT MOST 1048576: true; the input reads as it did. -/
def solveTightUptoRow : OpenClaim := { program := "ytnbihdflnjpinaadoor", sum := "041707dd5d1126e2be04ad2071b6b09946d34b34ecbcf18925cb7d7d83d9c119", func := "provost/provostlaw12.SolveTight", spec := "solveTight", unfollowed := true, recurses := true, named := ["math/bits.deBruijn64tab"], apart := false, laid := [("math/bits.deBruijn64tab", laid_math_bits_deBruijn64tab)], narrowed := true }
def SolveTightUptoSaid : Prop := solveTightUptoRow.holds Tryd.pinned (OpenSpec.upto solveTightSpec)

/-- 'provostlaw12.SolveFix', WHERE WHAT IT READS IS OF BULK AT MOST 1048576: true; the input reads as it did. -/
def solveFixUptoRow : OpenClaim := { program := "ytnbihdflnjpinaadoor", sum := "041707dd5d1126e2be04ad2071b6b09946d34b34ecbcf18925cb7d7d83d9c119", func := "provost/provostlaw12.SolveFix", spec := "solveFix", unfollowed := true, recurses := true, named := ["math/bits.deBruijn64tab"], apart := false, laid := [("math/bits.deBruijn64tab", laid_math_bits_deBruijn64tab)], narrowed := true }
def SolveFixUptoSaid : Prop := solveFixUptoRow.holds Tryd.pinned (OpenSpec.upto solveFixSpec)

/-- 'provostlaw12.SolveBefore', WHERE WHAT IT READS IS OF BULK AT MOST 1048576: true; the input reads as it did. -/
def solveBeforeUptoRow : OpenClaim := { program := "ytnbihdflnjpinaadoor", sum := "041707dd5d1126e2be04ad2071b6b09946d34b34ecbcf18925cb7d7d83d9c119", func := "provost/provostlaw12.SolveBefore", spec := "solveBefore", unfollowed := true, recurses := true, named := ["math/bits.deBruijn64tab"], apart := false, laid := [("math/bits.deBruijn64tab", laid_math_bits_deBruijn64tab)], narrowed := true }
def SolveBeforeUptoSaid : Prop := solveBeforeUptoRow.holds Tryd.pinned (OpenSpec.upto solveBeforeSpec)

/-- 'provostlaw12.SolveBest', WHERE WHAT IT READS IS OF BULK AT MOST 1048576: true; the input reads as it did. -/
def solveBestUptoRow : OpenClaim := { program := "ytnbihdflnjpinaadoor", sum := "041707dd5d1126e2be04ad2071b6b09946d34b34ecbcf18925cb7d7d83d9c119", func := "provost/provostlaw12.SolveBest", spec := "solveBest", unfollowed := true, recurses := true, named := ["math/bits.deBruijn64tab"], apart := false, laid := [("math/bits.deBruijn64tab", laid_math_bits_deBruijn64tab)], narrowed := true }
def SolveBestUptoSaid : Prop := solveBestUptoRow.holds Tryd.pinned (OpenSpec.upto solveBestSpec)

/-- 'provostlaw12.SolveOwn', WHERE WHAT IT READS IS OF BULK AT MOST 1048576: true; the input reads as it did. -/
def solveOwnUptoRow : OpenClaim := { program := "ytnbihdflnjpinaadoor", sum := "041707dd5d1126e2be04ad2071b6b09946d34b34ecbcf18925cb7d7d83d9c119", func := "provost/provostlaw12.SolveOwn", spec := "solveOwn", unfollowed := true, recurses := true, named := ["math/bits.deBruijn64tab"], apart := false, laid := [("math/bits.deBruijn64tab", laid_math_bits_deBruijn64tab)], narrowed := true }
def SolveOwnUptoSaid : Prop := solveOwnUptoRow.holds Tryd.pinned (OpenSpec.upto solveOwnSpec)

end Rows
end Go.Proofs.YtnbihdflnjpinaaDoor
