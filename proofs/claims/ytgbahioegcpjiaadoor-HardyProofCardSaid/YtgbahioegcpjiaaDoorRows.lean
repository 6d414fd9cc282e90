/-
  NARROWER THAN 'FOR EVERY INPUT', by the rows' own cells (each row's printed sentence says how): TallyPlans: laid · TallyLive: laid · CoreWhy: laid · CoreWithout: laid · CoreNeeded: laid · PlanSound: laid · PlanTurned: laid · HardyLose: laid · HardyWeak: laid · HardyGrade: laid · HardyProof: laid · HardyNeeded: laid.
  DERIVED. THE GIVEN ROWS OF THIS SEAT. 12 by the template 'for every input the law returns true; each argument reads behind the call as it read before'; 0 by the template 'total and deterministic' (their statements: YtgbahioegcpjiaaDoorTotals.lean).
  GIVEN WITH THE SEED: the statements are not yours to turn. If you find one false, say at which input.
  Laid BY PROGRAM, IN A SANDBOX (cutbox-rows.mjs): the forced cells as the released guide's own fill.sh prints them over the translation 17fefeaaeaa41297… (all of the seat's roots in one cut). By AI agents, Wed Nov 11 2026. No macro, syntax, notation, axiom, sorry.
-/
import Derived.Test.YtgbahioegcpjiaaDoorChecked
import GoSem.Claim
import GoSem.ClaimJoined
import GoSem.ClaimMapViews
import Derived.JoinedTies
import Derived.KernelRfl
namespace Go.Proofs.YtgbahioegcpjiaaDoor
/- THE CELL 'sum', in the pinned program and in every row, IS THE sha256 OF THE DUMP (.gsa) THAT YtgbahioegcpjiaaDoorProg.lean LOADS. Nothing in Lean hashes anything: it is a label: what it is worth is what the hold of that sum in a sandbox is worth. -/
noncomputable def Tryd.pinned : Pinned := { name := "ytgbahioegcpjiaadoor", sum := "17fefeaaeaa41297b3830a56e288da2e9aed957b5437ab3e4e5bb665cac286bd", checked := Tryd.checked }
namespace Rows
def none {H : Type} : Left H := { results := [], args := [] }

/- WHAT THE LISTED PACKAGE-LEVEL VARIABLES READ AS WHEN THE CALL BEGINS. Each datum BY PROGRAM (the guide's laid-datum.mjs) off the statement by which the dump's own 'gosem.cut.vars' lays the variable. In a bare row this is a premise. The card (YtgbahioegcpjiaaDoorCards.lean) ties it to the program's text. -/
def laid_math_bits_deBruijn64tab {H : Type} : DataW H := .agg [.lit (.int .u8 0), .lit (.int .u8 1), .lit (.int .u8 56), .lit (.int .u8 2), .lit (.int .u8 57), .lit (.int .u8 49), .lit (.int .u8 28), .lit (.int .u8 3), .lit (.int .u8 61), .lit (.int .u8 58), .lit (.int .u8 42), .lit (.int .u8 50), .lit (.int .u8 38), .lit (.int .u8 29), .lit (.int .u8 17), .lit (.int .u8 4), .lit (.int .u8 62), .lit (.int .u8 47), .lit (.int .u8 59), .lit (.int .u8 36), .lit (.int .u8 45), .lit (.int .u8 43), .lit (.int .u8 51), .lit (.int .u8 22), .lit (.int .u8 53), .lit (.int .u8 39), .lit (.int .u8 33), .lit (.int .u8 30), .lit (.int .u8 24), .lit (.int .u8 18), .lit (.int .u8 12), .lit (.int .u8 5), .lit (.int .u8 63), .lit (.int .u8 55), .lit (.int .u8 48), .lit (.int .u8 27), .lit (.int .u8 60), .lit (.int .u8 41), .lit (.int .u8 37), .lit (.int .u8 16), .lit (.int .u8 46), .lit (.int .u8 35), .lit (.int .u8 44), .lit (.int .u8 21), .lit (.int .u8 52), .lit (.int .u8 32), .lit (.int .u8 23), .lit (.int .u8 11), .lit (.int .u8 54), .lit (.int .u8 26), .lit (.int .u8 40), .lit (.int .u8 15), .lit (.int .u8 34), .lit (.int .u8 20), .lit (.int .u8 31), .lit (.int .u8 10), .lit (.int .u8 25), .lit (.int .u8 14), .lit (.int .u8 19), .lit (.int .u8 9), .lit (.int .u8 13), .lit (.int .u8 8), .lit (.int .u8 7), .lit (.int .u8 6)]

/-- 'provostlaw13.TallyPlans': WHATEVER THE INPUT: true; the input reads as it did. -/
def tallyPlansSpec : ChangeSpec := { name := "tallyPlans", fn := fun _ => fun
  | [d1, d2] => { results := [.lit (.bool true)], args := [d1, d2] }
  | _ => none }
def tallyPlansRow : OpenClaim := { program := "ytgbahioegcpjiaadoor", sum := "17fefeaaeaa41297b3830a56e288da2e9aed957b5437ab3e4e5bb665cac286bd", func := "provost/provostlaw13.TallyPlans", spec := "tallyPlans", unfollowed := true, recurses := true, named := ["math/bits.deBruijn64tab"], apart := false, laid := [("math/bits.deBruijn64tab", laid_math_bits_deBruijn64tab)] }
def TallyPlansSaid : Prop := tallyPlansRow.holds Tryd.pinned (OpenSpec.ofChange tallyPlansSpec)

/-- ITS FALSE NEIGHBOUR: 'it returns false'. Refute it at one input. -/
def tallyPlansWrong : ChangeSpec := { name := "tallyPlans", fn := fun _ => fun
  | [d1, d2] => { results := [.lit (.bool false)], args := [d1, d2] }
  | _ => none }
def TallyPlansWrongFalsely : Prop := tallyPlansRow.holds Tryd.pinned (OpenSpec.ofChange tallyPlansWrong)

/-- 'provostlaw13.TallyLive': WHATEVER THE INPUT: true; the input reads as it did. -/
def tallyLiveSpec : ChangeSpec := { name := "tallyLive", fn := fun _ => fun
  | [d] => { results := [.lit (.bool true)], args := [d] }
  | _ => none }
def tallyLiveRow : OpenClaim := { program := "ytgbahioegcpjiaadoor", sum := "17fefeaaeaa41297b3830a56e288da2e9aed957b5437ab3e4e5bb665cac286bd", func := "provost/provostlaw13.TallyLive", spec := "tallyLive", unfollowed := true, recurses := true, named := ["math/bits.deBruijn64tab"], apart := false, laid := [("math/bits.deBruijn64tab", laid_math_bits_deBruijn64tab)] }
def TallyLiveSaid : Prop := tallyLiveRow.holds Tryd.pinned (OpenSpec.ofChange tallyLiveSpec)

/-- ITS FALSE NEIGHBOUR: 'it returns false'. Refute it at one input. -/
def tallyLiveWrong : ChangeSpec := { name := "tallyLive", fn := fun _ => fun
  | [d] => { results := [.lit (.bool false)], args := [d] }
  | _ => none }
def TallyLiveWrongFalsely : Prop := tallyLiveRow.holds Tryd.pinned (OpenSpec.ofChange tallyLiveWrong)

/-- 'provostlaw15.CoreWhy': WHATEVER THE INPUT: true; the input reads as it did. -/
def coreWhySpec : ChangeSpec := { name := "coreWhy", fn := fun _ => fun
  | [d] => { results := [.lit (.bool true)], args := [d] }
  | _ => none }
def coreWhyRow : OpenClaim := { program := "ytgbahioegcpjiaadoor", sum := "17fefeaaeaa41297b3830a56e288da2e9aed957b5437ab3e4e5bb665cac286bd", func := "provost/provostlaw15.CoreWhy", spec := "coreWhy", unfollowed := true, recurses := true, named := ["math/bits.deBruijn64tab"], apart := false, laid := [("math/bits.deBruijn64tab", laid_math_bits_deBruijn64tab)] }
def CoreWhySaid : Prop := coreWhyRow.holds Tryd.pinned (OpenSpec.ofChange coreWhySpec)

/-- ITS FALSE NEIGHBOUR: 'it returns false'. Refute it at one input. -/
def coreWhyWrong : ChangeSpec := { name := "coreWhy", fn := fun _ => fun
  | [d] => { results := [.lit (.bool false)], args := [d] }
  | _ => none }
def CoreWhyWrongFalsely : Prop := coreWhyRow.holds Tryd.pinned (OpenSpec.ofChange coreWhyWrong)

/-- 'provostlaw15.CoreWithout': WHATEVER THE INPUT: true; the input reads as it did. -/
def coreWithoutSpec : ChangeSpec := { name := "coreWithout", fn := fun _ => fun
  | [d1, d2, d3] => { results := [.lit (.bool true)], args := [d1, d2, d3] }
  | _ => none }
def coreWithoutRow : OpenClaim := { program := "ytgbahioegcpjiaadoor", sum := "17fefeaaeaa41297b3830a56e288da2e9aed957b5437ab3e4e5bb665cac286bd", func := "provost/provostlaw15.CoreWithout", spec := "coreWithout", unfollowed := true, recurses := true, named := ["math/bits.deBruijn64tab"], apart := false, laid := [("math/bits.deBruijn64tab", laid_math_bits_deBruijn64tab)] }
def CoreWithoutSaid : Prop := coreWithoutRow.holds Tryd.pinned (OpenSpec.ofChange coreWithoutSpec)

/-- ITS FALSE NEIGHBOUR: 'it returns false'. Refute it at one input. -/
def coreWithoutWrong : ChangeSpec := { name := "coreWithout", fn := fun _ => fun
  | [d1, d2, d3] => { results := [.lit (.bool false)], args := [d1, d2, d3] }
  | _ => none }
def CoreWithoutWrongFalsely : Prop := coreWithoutRow.holds Tryd.pinned (OpenSpec.ofChange coreWithoutWrong)

/-- 'provostlaw15.CoreNeeded': WHATEVER THE INPUT: true; the input reads as it did. -/
def coreNeededSpec : ChangeSpec := { name := "coreNeeded", fn := fun _ => fun
  | [d] => { results := [.lit (.bool true)], args := [d] }
  | _ => none }
def coreNeededRow : OpenClaim := { program := "ytgbahioegcpjiaadoor", sum := "17fefeaaeaa41297b3830a56e288da2e9aed957b5437ab3e4e5bb665cac286bd", func := "provost/provostlaw15.CoreNeeded", spec := "coreNeeded", unfollowed := true, recurses := true, named := ["math/bits.deBruijn64tab"], apart := false, laid := [("math/bits.deBruijn64tab", laid_math_bits_deBruijn64tab)] }
def CoreNeededSaid : Prop := coreNeededRow.holds Tryd.pinned (OpenSpec.ofChange coreNeededSpec)

/-- ITS FALSE NEIGHBOUR: 'it returns false'. Refute it at one input. -/
def coreNeededWrong : ChangeSpec := { name := "coreNeeded", fn := fun _ => fun
  | [d] => { results := [.lit (.bool false)], args := [d] }
  | _ => none }
def CoreNeededWrongFalsely : Prop := coreNeededRow.holds Tryd.pinned (OpenSpec.ofChange coreNeededWrong)

/-- 'provostlaw14.PlanSound': WHATEVER THE INPUT: true; the input reads as it did. -/
def planSoundSpec : ChangeSpec := { name := "planSound", fn := fun _ => fun
  | [d1, d2] => { results := [.lit (.bool true)], args := [d1, d2] }
  | _ => none }
def planSoundRow : OpenClaim := { program := "ytgbahioegcpjiaadoor", sum := "17fefeaaeaa41297b3830a56e288da2e9aed957b5437ab3e4e5bb665cac286bd", func := "provost/provostlaw14.PlanSound", spec := "planSound", unfollowed := true, recurses := true, named := ["math/bits.deBruijn64tab"], apart := false, laid := [("math/bits.deBruijn64tab", laid_math_bits_deBruijn64tab)] }
def PlanSoundSaid : Prop := planSoundRow.holds Tryd.pinned (OpenSpec.ofChange planSoundSpec)

/-- ITS FALSE NEIGHBOUR: 'it returns false'. Refute it at one input. -/
def planSoundWrong : ChangeSpec := { name := "planSound", fn := fun _ => fun
  | [d1, d2] => { results := [.lit (.bool false)], args := [d1, d2] }
  | _ => none }
def PlanSoundWrongFalsely : Prop := planSoundRow.holds Tryd.pinned (OpenSpec.ofChange planSoundWrong)

/-- 'provostlaw14.PlanTurned': WHATEVER THE INPUT: true; the input reads as it did. -/
def planTurnedSpec : ChangeSpec := { name := "planTurned", fn := fun _ => fun
  | [d1, d2, d3] => { results := [.lit (.bool true)], args := [d1, d2, d3] }
  | _ => none }
def planTurnedRow : OpenClaim := { program := "ytgbahioegcpjiaadoor", sum := "17fefeaaeaa41297b3830a56e288da2e9aed957b5437ab3e4e5bb665cac286bd", func := "provost/provostlaw14.PlanTurned", spec := "planTurned", unfollowed := true, recurses := true, named := ["math/bits.deBruijn64tab"], apart := false, laid := [("math/bits.deBruijn64tab", laid_math_bits_deBruijn64tab)] }
def PlanTurnedSaid : Prop := planTurnedRow.holds Tryd.pinned (OpenSpec.ofChange planTurnedSpec)

/-- ITS FALSE NEIGHBOUR: 'it returns false'. Refute it at one input. -/
def planTurnedWrong : ChangeSpec := { name := "planTurned", fn := fun _ => fun
  | [d1, d2, d3] => { results := [.lit (.bool false)], args := [d1, d2, d3] }
  | _ => none }
def PlanTurnedWrongFalsely : Prop := planTurnedRow.holds Tryd.pinned (OpenSpec.ofChange planTurnedWrong)

/-- 'provostlaw16.HardyLose': WHATEVER THE INPUT: true; the input reads as it did. -/
def hardyLoseSpec : ChangeSpec := { name := "hardyLose", fn := fun _ => fun
  | [d1, d2] => { results := [.lit (.bool true)], args := [d1, d2] }
  | _ => none }
def hardyLoseRow : OpenClaim := { program := "ytgbahioegcpjiaadoor", sum := "17fefeaaeaa41297b3830a56e288da2e9aed957b5437ab3e4e5bb665cac286bd", func := "provost/provostlaw16.HardyLose", spec := "hardyLose", unfollowed := true, recurses := true, named := ["math/bits.deBruijn64tab"], apart := false, laid := [("math/bits.deBruijn64tab", laid_math_bits_deBruijn64tab)] }
def HardyLoseSaid : Prop := hardyLoseRow.holds Tryd.pinned (OpenSpec.ofChange hardyLoseSpec)

/-- ITS FALSE NEIGHBOUR: 'it returns false'. Refute it at one input. -/
def hardyLoseWrong : ChangeSpec := { name := "hardyLose", fn := fun _ => fun
  | [d1, d2] => { results := [.lit (.bool false)], args := [d1, d2] }
  | _ => none }
def HardyLoseWrongFalsely : Prop := hardyLoseRow.holds Tryd.pinned (OpenSpec.ofChange hardyLoseWrong)

/-- 'provostlaw16.HardyWeak': WHATEVER THE INPUT: true; the input reads as it did. -/
def hardyWeakSpec : ChangeSpec := { name := "hardyWeak", fn := fun _ => fun
  | [d1, d2] => { results := [.lit (.bool true)], args := [d1, d2] }
  | _ => none }
def hardyWeakRow : OpenClaim := { program := "ytgbahioegcpjiaadoor", sum := "17fefeaaeaa41297b3830a56e288da2e9aed957b5437ab3e4e5bb665cac286bd", func := "provost/provostlaw16.HardyWeak", spec := "hardyWeak", unfollowed := true, recurses := true, named := ["math/bits.deBruijn64tab"], apart := false, laid := [("math/bits.deBruijn64tab", laid_math_bits_deBruijn64tab)] }
def HardyWeakSaid : Prop := hardyWeakRow.holds Tryd.pinned (OpenSpec.ofChange hardyWeakSpec)

/-- ITS FALSE NEIGHBOUR: 'it returns false'. Refute it at one input. -/
def hardyWeakWrong : ChangeSpec := { name := "hardyWeak", fn := fun _ => fun
  | [d1, d2] => { results := [.lit (.bool false)], args := [d1, d2] }
  | _ => none }
def HardyWeakWrongFalsely : Prop := hardyWeakRow.holds Tryd.pinned (OpenSpec.ofChange hardyWeakWrong)

/-- 'provostlaw16.HardyGrade': WHATEVER THE INPUT: true; the input reads as it did. -/
def hardyGradeSpec : ChangeSpec := { name := "hardyGrade", fn := fun _ => fun
  | [d] => { results := [.lit (.bool true)], args := [d] }
  | _ => none }
def hardyGradeRow : OpenClaim := { program := "ytgbahioegcpjiaadoor", sum := "17fefeaaeaa41297b3830a56e288da2e9aed957b5437ab3e4e5bb665cac286bd", func := "provost/provostlaw16.HardyGrade", spec := "hardyGrade", unfollowed := true, recurses := true, named := ["math/bits.deBruijn64tab"], apart := false, laid := [("math/bits.deBruijn64tab", laid_math_bits_deBruijn64tab)] }
def HardyGradeSaid : Prop := hardyGradeRow.holds Tryd.pinned (OpenSpec.ofChange hardyGradeSpec)

/-- ITS FALSE NEIGHBOUR: 'it returns false'. Refute it at one input. -/
def hardyGradeWrong : ChangeSpec := { name := "hardyGrade", fn := fun _ => fun
  | [d] => { results := [.lit (.bool false)], args := [d] }
  | _ => none }
def HardyGradeWrongFalsely : Prop := hardyGradeRow.holds Tryd.pinned (OpenSpec.ofChange hardyGradeWrong)

/-- 'provostlaw16.HardyProof': WHATEVER THE INPUT: true; the input reads as it did. -/
def hardyProofSpec : ChangeSpec := { name := "hardyProof", fn := fun _ => fun
  | [d1, d2] => { results := [.lit (.bool true)], args := [d1, d2] }
  | _ => none }
def hardyProofRow : OpenClaim := { program := "ytgbahioegcpjiaadoor", sum := "17fefeaaeaa41297b3830a56e288da2e9aed957b5437ab3e4e5bb665cac286bd", func := "provost/provostlaw16.HardyProof", spec := "hardyProof", unfollowed := true, recurses := true, named := ["math/bits.deBruijn64tab"], apart := false, laid := [("math/bits.deBruijn64tab", laid_math_bits_deBruijn64tab)] }
def HardyProofSaid : Prop := hardyProofRow.holds Tryd.pinned (OpenSpec.ofChange hardyProofSpec)

/-- ITS FALSE NEIGHBOUR: 'it returns false'. Refute it at one input. -/
def hardyProofWrong : ChangeSpec := { name := "hardyProof", fn := fun _ => fun
  | [d1, d2] => { results := [.lit (.bool false)], args := [d1, d2] }
  | _ => none }
def HardyProofWrongFalsely : Prop := hardyProofRow.holds Tryd.pinned (OpenSpec.ofChange hardyProofWrong)

/-- 'provostlaw16.HardyNeeded': WHATEVER THE INPUT: true; the input reads as it did. -/
def hardyNeededSpec : ChangeSpec := { name := "hardyNeeded", fn := fun _ => fun
  | [d] => { results := [.lit (.bool true)], args := [d] }
  | _ => none }
def hardyNeededRow : OpenClaim := { program := "ytgbahioegcpjiaadoor", sum := "17fefeaaeaa41297b3830a56e288da2e9aed957b5437ab3e4e5bb665cac286bd", func := "provost/provostlaw16.HardyNeeded", spec := "hardyNeeded", unfollowed := true, recurses := true, named := ["math/bits.deBruijn64tab"], apart := false, laid := [("math/bits.deBruijn64tab", laid_math_bits_deBruijn64tab)] }
def HardyNeededSaid : Prop := hardyNeededRow.holds Tryd.pinned (OpenSpec.ofChange hardyNeededSpec)

/-- ITS FALSE NEIGHBOUR: 'it returns false'. Refute it at one input. -/
def hardyNeededWrong : ChangeSpec := { name := "hardyNeeded", fn := fun _ => fun
  | [d] => { results := [.lit (.bool false)], args := [d] }
  | _ => none }
def HardyNeededWrongFalsely : Prop := hardyNeededRow.holds Tryd.pinned (OpenSpec.ofChange hardyNeededWrong)

/- THE SECOND FORM. 'bulk': how many values and letters a reading holds, each counted each time it is reached (what is shared counts as often as it is met; a slice's spare places count too). A statement '..UptoSaid' is the law's where the arguments, and the package variables that the reading takes, are together of bulk at most 1048576: NARROWER than '..Said'. Prove '..Said' where nothing that the law and all that it calls make is longer than what came in: it says more and counts as full. Else prove '..UptoSaid'. A law counts once. -/
mutual
def uptoBulk {H : Type} : DataW H → Nat
  | .lit (.string bytes) => bytes.length + 1
  | .lit _ => 1
  | .nil => 1
  | .ptr d => uptoBulk d + 1
  | .slice elems spare => uptoBulkAll elems + uptoBulkAll spare + 1
  | .agg parts => uptoBulkAll parts + 1
  | .iface _ d => uptoBulk d + 1
  | .map entries => uptoBulkEntries entries + 1
  | .held _ => 1
def uptoBulkAll {H : Type} : List (DataW H) → Nat
  | [] => 0
  | d :: r => uptoBulk d + uptoBulkAll r
def uptoBulkEntries {H : Type} : List (Lit × DataW H) → Nat
  | [] => 0
  | x :: r => uptoBulkEntry x + uptoBulkEntries r
def uptoBulkEntry {H : Type} : Lit × DataW H → Nat
  | (.string bytes, d) => bytes.length + uptoBulk d + 1
  | (_, d) => uptoBulk d + 1
 end
def uptoSmall : (H : Type) → List (DataW H) → Bool := fun _ ds => decide (uptoBulkAll ds ≤ 1048576)
def OpenSpec.upto (s : _root_.Go.ChangeSpec) : _root_.Go.OpenSpec := { _root_.Go.OpenSpec.ofChange s with cond := some uptoSmall }

/-- 'provostlaw13.TallyPlans', WHERE WHAT IT READS IS OF BULK AT MOST 1048576: true; the input reads as it did. -/
def tallyPlansUptoRow : OpenClaim := { program := "ytgbahioegcpjiaadoor", sum := "17fefeaaeaa41297b3830a56e288da2e9aed957b5437ab3e4e5bb665cac286bd", func := "provost/provostlaw13.TallyPlans", spec := "tallyPlans", unfollowed := true, recurses := true, named := ["math/bits.deBruijn64tab"], apart := false, laid := [("math/bits.deBruijn64tab", laid_math_bits_deBruijn64tab)], narrowed := true }
def TallyPlansUptoSaid : Prop := tallyPlansUptoRow.holds Tryd.pinned (OpenSpec.upto tallyPlansSpec)

/-- 'provostlaw13.TallyLive', WHERE WHAT IT READS IS OF BULK AT MOST 1048576: true; the input reads as it did. -/
def tallyLiveUptoRow : OpenClaim := { program := "ytgbahioegcpjiaadoor", sum := "17fefeaaeaa41297b3830a56e288da2e9aed957b5437ab3e4e5bb665cac286bd", func := "provost/provostlaw13.TallyLive", spec := "tallyLive", unfollowed := true, recurses := true, named := ["math/bits.deBruijn64tab"], apart := false, laid := [("math/bits.deBruijn64tab", laid_math_bits_deBruijn64tab)], narrowed := true }
def TallyLiveUptoSaid : Prop := tallyLiveUptoRow.holds Tryd.pinned (OpenSpec.upto tallyLiveSpec)

/-- 'provostlaw15.CoreWhy', WHERE WHAT IT READS IS OF BULK AT MOST 1048576: true; the input reads as it did. -/
def coreWhyUptoRow : OpenClaim := { program := "ytgbahioegcpjiaadoor", sum := "17fefeaaeaa41297b3830a56e288da2e9aed957b5437ab3e4e5bb665cac286bd", func := "provost/provostlaw15.CoreWhy", spec := "coreWhy", unfollowed := true, recurses := true, named := ["math/bits.deBruijn64tab"], apart := false, laid := [("math/bits.deBruijn64tab", laid_math_bits_deBruijn64tab)], narrowed := true }
def CoreWhyUptoSaid : Prop := coreWhyUptoRow.holds Tryd.pinned (OpenSpec.upto coreWhySpec)

/-- 'provostlaw15.CoreWithout', WHERE WHAT IT READS IS OF BULK AT MOST 1048576: true; the input reads as it did. -/
def coreWithoutUptoRow : OpenClaim := { program := "ytgbahioegcpjiaadoor", sum := "17fefeaaeaa41297b3830a56e288da2e9aed957b5437ab3e4e5bb665cac286bd", func := "provost/provostlaw15.CoreWithout", spec := "coreWithout", unfollowed := true, recurses := true, named := ["math/bits.deBruijn64tab"], apart := false, laid := [("math/bits.deBruijn64tab", laid_math_bits_deBruijn64tab)], narrowed := true }
def CoreWithoutUptoSaid : Prop := coreWithoutUptoRow.holds Tryd.pinned (OpenSpec.upto coreWithoutSpec)

/-- 'provostlaw15.CoreNeeded', WHERE WHAT IT READS IS OF BULK AT MOST 1048576: true; the input reads as it did. -/
def coreNeededUptoRow : OpenClaim := { program := "ytgbahioegcpjiaadoor", sum := "17fefeaaeaa41297b3830a56e288da2e9aed957b5437ab3e4e5bb665cac286bd", func := "provost/provostlaw15.CoreNeeded", spec := "coreNeeded", unfollowed := true, recurses := true, named := ["math/bits.deBruijn64tab"], apart := false, laid := [("math/bits.deBruijn64tab", laid_math_bits_deBruijn64tab)], narrowed := true }
def CoreNeededUptoSaid : Prop := coreNeededUptoRow.holds Tryd.pinned (OpenSpec.upto coreNeededSpec)

/-- 'provostlaw14.PlanSound', WHERE WHAT IT READS IS OF BULK AT MOST 1048576: true; the input reads as it did. -/
def planSoundUptoRow : OpenClaim := { program := "ytgbahioegcpjiaadoor", sum := "17fefeaaeaa41297b3830a56e288da2e9aed957b5437ab3e4e5bb665cac286bd", func := "provost/provostlaw14.PlanSound", spec := "planSound", unfollowed := true, recurses := true, named := ["math/bits.deBruijn64tab"], apart := false, laid := [("math/bits.deBruijn64tab", laid_math_bits_deBruijn64tab)], narrowed := true }
def PlanSoundUptoSaid : Prop := planSoundUptoRow.holds Tryd.pinned (OpenSpec.upto planSoundSpec)

/-- 'provostlaw14.PlanTurned', WHERE WHAT IT READS IS OF BULK AT MOST 1048576: true; the input reads as it did. -/
def planTurnedUptoRow : OpenClaim := { program := "ytgbahioegcpjiaadoor", sum := "17fefeaaeaa41297b3830a56e288da2e9aed957b5437ab3e4e5bb665cac286bd", func := "provost/provostlaw14.PlanTurned", spec := "planTurned", unfollowed := true, recurses := true, named := ["math/bits.deBruijn64tab"], apart := false, laid := [("math/bits.deBruijn64tab", laid_math_bits_deBruijn64tab)], narrowed := true }
def PlanTurnedUptoSaid : Prop := planTurnedUptoRow.holds Tryd.pinned (OpenSpec.upto planTurnedSpec)

/-- 'provostlaw16.HardyLose', WHERE WHAT IT READS IS OF BULK AT MOST 1048576: true; the input reads as it did. -/
def hardyLoseUptoRow : OpenClaim := { program := "ytgbahioegcpjiaadoor", sum := "17fefeaaeaa41297b3830a56e288da2e9aed957b5437ab3e4e5bb665cac286bd", func := "provost/provostlaw16.HardyLose", spec := "hardyLose", unfollowed := true, recurses := true, named := ["math/bits.deBruijn64tab"], apart := false, laid := [("math/bits.deBruijn64tab", laid_math_bits_deBruijn64tab)], narrowed := true }
def HardyLoseUptoSaid : Prop := hardyLoseUptoRow.holds Tryd.pinned (OpenSpec.upto hardyLoseSpec)

/-- 'provostlaw16.HardyWeak', WHERE WHAT IT READS IS OF BULK AT MOST 1048576: true; the input reads as it did. -/
def hardyWeakUptoRow : OpenClaim := { program := "ytgbahioegcpjiaadoor", sum := "17fefeaaeaa41297b3830a56e288da2e9aed957b5437ab3e4e5bb665cac286bd", func := "provost/provostlaw16.HardyWeak", spec := "hardyWeak", unfollowed := true, recurses := true, named := ["math/bits.deBruijn64tab"], apart := false, laid := [("math/bits.deBruijn64tab", laid_math_bits_deBruijn64tab)], narrowed := true }
def HardyWeakUptoSaid : Prop := hardyWeakUptoRow.holds Tryd.pinned (OpenSpec.upto hardyWeakSpec)

/-- 'provostlaw16.HardyGrade', WHERE WHAT IT READS IS OF BULK AT MOST 1048576: true; the input reads as it did. -/
def hardyGradeUptoRow : OpenClaim := { program := "ytgbahioegcpjiaadoor", sum := "17fefeaaeaa41297b3830a56e288da2e9aed957b5437ab3e4e5bb665cac286bd", func := "provost/provostlaw16.HardyGrade", spec := "hardyGrade", unfollowed := true, recurses := true, named := ["math/bits.deBruijn64tab"], apart := false, laid := [("math/bits.deBruijn64tab", laid_math_bits_deBruijn64tab)], narrowed := true }
def HardyGradeUptoSaid : Prop := hardyGradeUptoRow.holds Tryd.pinned (OpenSpec.upto hardyGradeSpec)

/-- 'provostlaw16.HardyProof', WHERE WHAT IT READS IS OF BULK AT MOST 1048576: true; the input reads as it did. -/
def hardyProofUptoRow : OpenClaim := { program := "ytgbahioegcpjiaadoor", sum := "17fefeaaeaa41297b3830a56e288da2e9aed957b5437ab3e4e5bb665cac286bd", func := "provost/provostlaw16.HardyProof", spec := "hardyProof", unfollowed := true, recurses := true, named := ["math/bits.deBruijn64tab"], apart := false, laid := [("math/bits.deBruijn64tab", laid_math_bits_deBruijn64tab)], narrowed := true }
def HardyProofUptoSaid : Prop := hardyProofUptoRow.holds Tryd.pinned (OpenSpec.upto hardyProofSpec)

/-- 'provostlaw16.HardyNeeded', WHERE WHAT IT READS IS OF BULK AT MOST 1048576: true; the input reads as it did. -/
def hardyNeededUptoRow : OpenClaim := { program := "ytgbahioegcpjiaadoor", sum := "17fefeaaeaa41297b3830a56e288da2e9aed957b5437ab3e4e5bb665cac286bd", func := "provost/provostlaw16.HardyNeeded", spec := "hardyNeeded", unfollowed := true, recurses := true, named := ["math/bits.deBruijn64tab"], apart := false, laid := [("math/bits.deBruijn64tab", laid_math_bits_deBruijn64tab)], narrowed := true }
def HardyNeededUptoSaid : Prop := hardyNeededUptoRow.holds Tryd.pinned (OpenSpec.upto hardyNeededSpec)

end Rows
end Go.Proofs.YtgbahioegcpjiaaDoor
