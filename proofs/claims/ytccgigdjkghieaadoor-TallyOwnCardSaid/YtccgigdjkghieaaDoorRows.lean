/-
  NARROWER THAN 'FOR EVERY INPUT', by the rows' own cells (each row's printed sentence says how): SolveMore: laid · TallyPlans: laid · TallyLive: laid · CoreWhy: laid · CoreWithout: laid · CoreOwn: laid · SolveOwn: laid · TallySizes: laid · TallyOwn: laid · TallyEach: laid · TallyBounds: laid · TallyAll: laid.
  DERIVED. THE GIVEN ROWS OF THIS SEAT. 12 by the template 'for every input the law returns true; each argument reads behind the call as it read before'; 0 by the template 'total and deterministic' (their statements: YtccgigdjkghieaaDoorTotals.lean).
  GIVEN WITH THE SEED: the statements are not yours to turn. If you find one false, say at which input.
  Laid BY PROGRAM, IN A SANDBOX (cutbox-rows.mjs): the forced cells as the released guide's own fill.sh prints them over the translation 1cbb7af72db38eb8… (all of the seat's roots in one cut). By AI agents, Wed Nov 11 2026. No macro, syntax, notation, axiom, sorry.
-/
import Derived.Test.YtccgigdjkghieaaDoorChecked
import GoSem.Claim
import GoSem.ClaimJoined
import GoSem.ClaimMapViews
import Derived.JoinedTies
import Derived.KernelRfl
namespace Go.Proofs.YtccgigdjkghieaaDoor
/- THE CELL 'sum', in the pinned program and in every row, IS THE sha256 OF THE DUMP (.gsa) THAT YtccgigdjkghieaaDoorProg.lean LOADS. Nothing in Lean hashes anything: it is a label: what it is worth is what the hold of that sum in a sandbox is worth. -/
noncomputable def Tryd.pinned : Pinned := { name := "ytccgigdjkghieaadoor", sum := "1cbb7af72db38eb8fa75a93734fb9c6b5341ebff6ed054132f3c59283102a476", checked := Tryd.checked }
namespace Rows
def none {H : Type} : Left H := { results := [], args := [] }

/- WHAT THE LISTED PACKAGE-LEVEL VARIABLES READ AS WHEN THE CALL BEGINS. Each datum BY PROGRAM (the guide's laid-datum.mjs) off the statement by which the dump's own 'gosem.cut.vars' lays the variable. In a bare row this is a premise. The card (YtccgigdjkghieaaDoorCards.lean) ties it to the program's text. -/
def laid_math_bits_deBruijn64tab {H : Type} : DataW H := .agg [.lit (.int .u8 0), .lit (.int .u8 1), .lit (.int .u8 56), .lit (.int .u8 2), .lit (.int .u8 57), .lit (.int .u8 49), .lit (.int .u8 28), .lit (.int .u8 3), .lit (.int .u8 61), .lit (.int .u8 58), .lit (.int .u8 42), .lit (.int .u8 50), .lit (.int .u8 38), .lit (.int .u8 29), .lit (.int .u8 17), .lit (.int .u8 4), .lit (.int .u8 62), .lit (.int .u8 47), .lit (.int .u8 59), .lit (.int .u8 36), .lit (.int .u8 45), .lit (.int .u8 43), .lit (.int .u8 51), .lit (.int .u8 22), .lit (.int .u8 53), .lit (.int .u8 39), .lit (.int .u8 33), .lit (.int .u8 30), .lit (.int .u8 24), .lit (.int .u8 18), .lit (.int .u8 12), .lit (.int .u8 5), .lit (.int .u8 63), .lit (.int .u8 55), .lit (.int .u8 48), .lit (.int .u8 27), .lit (.int .u8 60), .lit (.int .u8 41), .lit (.int .u8 37), .lit (.int .u8 16), .lit (.int .u8 46), .lit (.int .u8 35), .lit (.int .u8 44), .lit (.int .u8 21), .lit (.int .u8 52), .lit (.int .u8 32), .lit (.int .u8 23), .lit (.int .u8 11), .lit (.int .u8 54), .lit (.int .u8 26), .lit (.int .u8 40), .lit (.int .u8 15), .lit (.int .u8 34), .lit (.int .u8 20), .lit (.int .u8 31), .lit (.int .u8 10), .lit (.int .u8 25), .lit (.int .u8 14), .lit (.int .u8 19), .lit (.int .u8 9), .lit (.int .u8 13), .lit (.int .u8 8), .lit (.int .u8 7), .lit (.int .u8 6)]

/-- 'provostlaw12.SolveMore': WHATEVER THE INPUT: true; the input reads as it did. -/
def solveMoreSpec : ChangeSpec := { name := "solveMore", fn := fun _ => fun
  | [d1, d2, d3] => { results := [.lit (.bool true)], args := [d1, d2, d3] }
  | _ => none }
def solveMoreRow : OpenClaim := { program := "ytccgigdjkghieaadoor", sum := "1cbb7af72db38eb8fa75a93734fb9c6b5341ebff6ed054132f3c59283102a476", func := "provost/provostlaw12.SolveMore", spec := "solveMore", unfollowed := true, recurses := true, named := ["math/bits.deBruijn64tab"], apart := false, laid := [("math/bits.deBruijn64tab", laid_math_bits_deBruijn64tab)] }
def SolveMoreSaid : Prop := solveMoreRow.holds Tryd.pinned (OpenSpec.ofChange solveMoreSpec)

/-- ITS FALSE NEIGHBOUR: 'it returns false'. Refute it at one input. -/
def solveMoreWrong : ChangeSpec := { name := "solveMore", fn := fun _ => fun
  | [d1, d2, d3] => { results := [.lit (.bool false)], args := [d1, d2, d3] }
  | _ => none }
def SolveMoreWrongFalsely : Prop := solveMoreRow.holds Tryd.pinned (OpenSpec.ofChange solveMoreWrong)

/-- 'provostlaw13.TallyPlans': WHATEVER THE INPUT: true; the input reads as it did. -/
def tallyPlansSpec : ChangeSpec := { name := "tallyPlans", fn := fun _ => fun
  | [d1, d2] => { results := [.lit (.bool true)], args := [d1, d2] }
  | _ => none }
def tallyPlansRow : OpenClaim := { program := "ytccgigdjkghieaadoor", sum := "1cbb7af72db38eb8fa75a93734fb9c6b5341ebff6ed054132f3c59283102a476", func := "provost/provostlaw13.TallyPlans", spec := "tallyPlans", unfollowed := true, recurses := true, named := ["math/bits.deBruijn64tab"], apart := false, laid := [("math/bits.deBruijn64tab", laid_math_bits_deBruijn64tab)] }
def TallyPlansSaid : Prop := tallyPlansRow.holds Tryd.pinned (OpenSpec.ofChange tallyPlansSpec)

/-- ITS FALSE NEIGHBOUR: 'it returns false'. Refute it at one input. -/
def tallyPlansWrong : ChangeSpec := { name := "tallyPlans", fn := fun _ => fun
  | [d1, d2] => { results := [.lit (.bool false)], args := [d1, d2] }
  | _ => none }
def TallyPlansWrongFalsely : Prop := tallyPlansRow.holds Tryd.pinned (OpenSpec.ofChange tallyPlansWrong)

/-- 'provostlaw13.TallyLive': WHATEVER THE INPUT: true; the input reads as it did. -/
def tallyLiveSpec : ChangeSpec := { name := "tallyLive", fn := fun _ => fun
  | [d] => { results := [.lit (.bool true)], args := [d] }
  | _ => none }
def tallyLiveRow : OpenClaim := { program := "ytccgigdjkghieaadoor", sum := "1cbb7af72db38eb8fa75a93734fb9c6b5341ebff6ed054132f3c59283102a476", func := "provost/provostlaw13.TallyLive", spec := "tallyLive", unfollowed := true, recurses := true, named := ["math/bits.deBruijn64tab"], apart := false, laid := [("math/bits.deBruijn64tab", laid_math_bits_deBruijn64tab)] }
def TallyLiveSaid : Prop := tallyLiveRow.holds Tryd.pinned (OpenSpec.ofChange tallyLiveSpec)

/-- ITS FALSE NEIGHBOUR: 'it returns false'. Refute it at one input. -/
def tallyLiveWrong : ChangeSpec := { name := "tallyLive", fn := fun _ => fun
  | [d] => { results := [.lit (.bool false)], args := [d] }
  | _ => none }
def TallyLiveWrongFalsely : Prop := tallyLiveRow.holds Tryd.pinned (OpenSpec.ofChange tallyLiveWrong)

/-- 'provostlaw15.CoreWhy': WHATEVER THE INPUT: true; the input reads as it did. -/
def coreWhySpec : ChangeSpec := { name := "coreWhy", fn := fun _ => fun
  | [d] => { results := [.lit (.bool true)], args := [d] }
  | _ => none }
def coreWhyRow : OpenClaim := { program := "ytccgigdjkghieaadoor", sum := "1cbb7af72db38eb8fa75a93734fb9c6b5341ebff6ed054132f3c59283102a476", func := "provost/provostlaw15.CoreWhy", spec := "coreWhy", unfollowed := true, recurses := true, named := ["math/bits.deBruijn64tab"], apart := false, laid := [("math/bits.deBruijn64tab", laid_math_bits_deBruijn64tab)] }
def CoreWhySaid : Prop := coreWhyRow.holds Tryd.pinned (OpenSpec.ofChange coreWhySpec)

/-- ITS FALSE NEIGHBOUR: 'it returns false'. Refute it at one input. -/
def coreWhyWrong : ChangeSpec := { name := "coreWhy", fn := fun _ => fun
  | [d] => { results := [.lit (.bool false)], args := [d] }
  | _ => none }
def CoreWhyWrongFalsely : Prop := coreWhyRow.holds Tryd.pinned (OpenSpec.ofChange coreWhyWrong)

/-- 'provostlaw15.CoreWithout': WHATEVER THE INPUT: true; the input reads as it did. -/
def coreWithoutSpec : ChangeSpec := { name := "coreWithout", fn := fun _ => fun
  | [d1, d2, d3] => { results := [.lit (.bool true)], args := [d1, d2, d3] }
  | _ => none }
def coreWithoutRow : OpenClaim := { program := "ytccgigdjkghieaadoor", sum := "1cbb7af72db38eb8fa75a93734fb9c6b5341ebff6ed054132f3c59283102a476", func := "provost/provostlaw15.CoreWithout", spec := "coreWithout", unfollowed := true, recurses := true, named := ["math/bits.deBruijn64tab"], apart := false, laid := [("math/bits.deBruijn64tab", laid_math_bits_deBruijn64tab)] }
def CoreWithoutSaid : Prop := coreWithoutRow.holds Tryd.pinned (OpenSpec.ofChange coreWithoutSpec)

/-- ITS FALSE NEIGHBOUR: 'it returns false'. Refute it at one input. -/
def coreWithoutWrong : ChangeSpec := { name := "coreWithout", fn := fun _ => fun
  | [d1, d2, d3] => { results := [.lit (.bool false)], args := [d1, d2, d3] }
  | _ => none }
def CoreWithoutWrongFalsely : Prop := coreWithoutRow.holds Tryd.pinned (OpenSpec.ofChange coreWithoutWrong)

/-- 'provostlaw15.CoreOwn': WHATEVER THE INPUT: true; the input reads as it did. -/
def coreOwnSpec : ChangeSpec := { name := "coreOwn", fn := fun _ => fun
  | [d1, d2, d3] => { results := [.lit (.bool true)], args := [d1, d2, d3] }
  | _ => none }
def coreOwnRow : OpenClaim := { program := "ytccgigdjkghieaadoor", sum := "1cbb7af72db38eb8fa75a93734fb9c6b5341ebff6ed054132f3c59283102a476", func := "provost/provostlaw15.CoreOwn", spec := "coreOwn", unfollowed := true, recurses := true, named := ["math/bits.deBruijn64tab"], apart := false, laid := [("math/bits.deBruijn64tab", laid_math_bits_deBruijn64tab)] }
def CoreOwnSaid : Prop := coreOwnRow.holds Tryd.pinned (OpenSpec.ofChange coreOwnSpec)

/-- ITS FALSE NEIGHBOUR: 'it returns false'. Refute it at one input. -/
def coreOwnWrong : ChangeSpec := { name := "coreOwn", fn := fun _ => fun
  | [d1, d2, d3] => { results := [.lit (.bool false)], args := [d1, d2, d3] }
  | _ => none }
def CoreOwnWrongFalsely : Prop := coreOwnRow.holds Tryd.pinned (OpenSpec.ofChange coreOwnWrong)

/-- 'provostlaw12.SolveOwn': WHATEVER THE INPUT: true; the input reads as it did. -/
def solveOwnSpec : ChangeSpec := { name := "solveOwn", fn := fun _ => fun
  | [d1, d2, d3] => { results := [.lit (.bool true)], args := [d1, d2, d3] }
  | _ => none }
def solveOwnRow : OpenClaim := { program := "ytccgigdjkghieaadoor", sum := "1cbb7af72db38eb8fa75a93734fb9c6b5341ebff6ed054132f3c59283102a476", func := "provost/provostlaw12.SolveOwn", spec := "solveOwn", unfollowed := true, recurses := true, named := ["math/bits.deBruijn64tab"], apart := false, laid := [("math/bits.deBruijn64tab", laid_math_bits_deBruijn64tab)] }
def SolveOwnSaid : Prop := solveOwnRow.holds Tryd.pinned (OpenSpec.ofChange solveOwnSpec)

/-- ITS FALSE NEIGHBOUR: 'it returns false'. Refute it at one input. -/
def solveOwnWrong : ChangeSpec := { name := "solveOwn", fn := fun _ => fun
  | [d1, d2, d3] => { results := [.lit (.bool false)], args := [d1, d2, d3] }
  | _ => none }
def SolveOwnWrongFalsely : Prop := solveOwnRow.holds Tryd.pinned (OpenSpec.ofChange solveOwnWrong)

/-- 'provostlaw13.TallySizes': WHATEVER THE INPUT: true; the input reads as it did. -/
def tallySizesSpec : ChangeSpec := { name := "tallySizes", fn := fun _ => fun
  | [d] => { results := [.lit (.bool true)], args := [d] }
  | _ => none }
def tallySizesRow : OpenClaim := { program := "ytccgigdjkghieaadoor", sum := "1cbb7af72db38eb8fa75a93734fb9c6b5341ebff6ed054132f3c59283102a476", func := "provost/provostlaw13.TallySizes", spec := "tallySizes", unfollowed := true, recurses := true, named := ["math/bits.deBruijn64tab"], apart := false, laid := [("math/bits.deBruijn64tab", laid_math_bits_deBruijn64tab)] }
def TallySizesSaid : Prop := tallySizesRow.holds Tryd.pinned (OpenSpec.ofChange tallySizesSpec)

/-- ITS FALSE NEIGHBOUR: 'it returns false'. Refute it at one input. -/
def tallySizesWrong : ChangeSpec := { name := "tallySizes", fn := fun _ => fun
  | [d] => { results := [.lit (.bool false)], args := [d] }
  | _ => none }
def TallySizesWrongFalsely : Prop := tallySizesRow.holds Tryd.pinned (OpenSpec.ofChange tallySizesWrong)

/-- 'provostlaw13.TallyOwn': WHATEVER THE INPUT: true; the input reads as it did. -/
def tallyOwnSpec : ChangeSpec := { name := "tallyOwn", fn := fun _ => fun
  | [d] => { results := [.lit (.bool true)], args := [d] }
  | _ => none }
def tallyOwnRow : OpenClaim := { program := "ytccgigdjkghieaadoor", sum := "1cbb7af72db38eb8fa75a93734fb9c6b5341ebff6ed054132f3c59283102a476", func := "provost/provostlaw13.TallyOwn", spec := "tallyOwn", unfollowed := true, recurses := true, named := ["math/bits.deBruijn64tab"], apart := false, laid := [("math/bits.deBruijn64tab", laid_math_bits_deBruijn64tab)] }
def TallyOwnSaid : Prop := tallyOwnRow.holds Tryd.pinned (OpenSpec.ofChange tallyOwnSpec)

/-- ITS FALSE NEIGHBOUR: 'it returns false'. Refute it at one input. -/
def tallyOwnWrong : ChangeSpec := { name := "tallyOwn", fn := fun _ => fun
  | [d] => { results := [.lit (.bool false)], args := [d] }
  | _ => none }
def TallyOwnWrongFalsely : Prop := tallyOwnRow.holds Tryd.pinned (OpenSpec.ofChange tallyOwnWrong)

/-- 'provostlaw13.TallyEach': WHATEVER THE INPUT: true; the input reads as it did. -/
def tallyEachSpec : ChangeSpec := { name := "tallyEach", fn := fun _ => fun
  | [d] => { results := [.lit (.bool true)], args := [d] }
  | _ => none }
def tallyEachRow : OpenClaim := { program := "ytccgigdjkghieaadoor", sum := "1cbb7af72db38eb8fa75a93734fb9c6b5341ebff6ed054132f3c59283102a476", func := "provost/provostlaw13.TallyEach", spec := "tallyEach", unfollowed := true, recurses := true, named := ["math/bits.deBruijn64tab"], apart := false, laid := [("math/bits.deBruijn64tab", laid_math_bits_deBruijn64tab)] }
def TallyEachSaid : Prop := tallyEachRow.holds Tryd.pinned (OpenSpec.ofChange tallyEachSpec)

/-- ITS FALSE NEIGHBOUR: 'it returns false'. Refute it at one input. -/
def tallyEachWrong : ChangeSpec := { name := "tallyEach", fn := fun _ => fun
  | [d] => { results := [.lit (.bool false)], args := [d] }
  | _ => none }
def TallyEachWrongFalsely : Prop := tallyEachRow.holds Tryd.pinned (OpenSpec.ofChange tallyEachWrong)

/-- 'provostlaw13.TallyBounds': WHATEVER THE INPUT: true; the input reads as it did. -/
def tallyBoundsSpec : ChangeSpec := { name := "tallyBounds", fn := fun _ => fun
  | [d] => { results := [.lit (.bool true)], args := [d] }
  | _ => none }
def tallyBoundsRow : OpenClaim := { program := "ytccgigdjkghieaadoor", sum := "1cbb7af72db38eb8fa75a93734fb9c6b5341ebff6ed054132f3c59283102a476", func := "provost/provostlaw13.TallyBounds", spec := "tallyBounds", unfollowed := true, recurses := true, named := ["math/bits.deBruijn64tab"], apart := false, laid := [("math/bits.deBruijn64tab", laid_math_bits_deBruijn64tab)] }
def TallyBoundsSaid : Prop := tallyBoundsRow.holds Tryd.pinned (OpenSpec.ofChange tallyBoundsSpec)

/-- ITS FALSE NEIGHBOUR: 'it returns false'. Refute it at one input. -/
def tallyBoundsWrong : ChangeSpec := { name := "tallyBounds", fn := fun _ => fun
  | [d] => { results := [.lit (.bool false)], args := [d] }
  | _ => none }
def TallyBoundsWrongFalsely : Prop := tallyBoundsRow.holds Tryd.pinned (OpenSpec.ofChange tallyBoundsWrong)

/-- 'provostlaw13.TallyAll': WHATEVER THE INPUT: true; the input reads as it did. -/
def tallyAllSpec : ChangeSpec := { name := "tallyAll", fn := fun _ => fun
  | [d1, d2] => { results := [.lit (.bool true)], args := [d1, d2] }
  | _ => none }
def tallyAllRow : OpenClaim := { program := "ytccgigdjkghieaadoor", sum := "1cbb7af72db38eb8fa75a93734fb9c6b5341ebff6ed054132f3c59283102a476", func := "provost/provostlaw13.TallyAll", spec := "tallyAll", unfollowed := true, recurses := true, named := ["math/bits.deBruijn64tab"], apart := false, laid := [("math/bits.deBruijn64tab", laid_math_bits_deBruijn64tab)] }
def TallyAllSaid : Prop := tallyAllRow.holds Tryd.pinned (OpenSpec.ofChange tallyAllSpec)

/-- ITS FALSE NEIGHBOUR: 'it returns false'. Refute it at one input. -/
def tallyAllWrong : ChangeSpec := { name := "tallyAll", fn := fun _ => fun
  | [d1, d2] => { results := [.lit (.bool false)], args := [d1, d2] }
  | _ => none }
def TallyAllWrongFalsely : Prop := tallyAllRow.holds Tryd.pinned (OpenSpec.ofChange tallyAllWrong)

/- THE SECOND FORM. 'bulk': how many values and letters a reading holds, each counted each time it is reached (what is shared counts as often as it is met; a slice's spare places count too). A statement '..UptoSaid' is the law's where the arguments, and the package variables that the reading takes, are together of bulk at most 1048576: NARROWER than '..Said'. Prove '..Said' where nothing that the law and all that it calls make is longer than what came in: it says more and counts as full. Else prove '..UptoSaid'. A law counts once. -/
mutual
def uptoBulk {H : Type} : DataW H → Nat
  | .lit (.string bytes) => bytes.length + 1
  | .lit _ => 1
  | .nil => 1
  | .ptr d => uptoBulk d + 1
  | .slice elems spare => uptoBulkAll elems + uptoBulkAll spare + 1
  | .agg parts => uptoBulkAll parts + 1
  | .iface _ d => uptoBulk d + 1
  | .map entries => uptoBulkEntries entries + 1
  | .held _ => 1
def uptoBulkAll {H : Type} : List (DataW H) → Nat
  | [] => 0
  | d :: r => uptoBulk d + uptoBulkAll r
def uptoBulkEntries {H : Type} : List (Lit × DataW H) → Nat
  | [] => 0
  | x :: r => uptoBulkEntry x + uptoBulkEntries r
def uptoBulkEntry {H : Type} : Lit × DataW H → Nat
  | (.string bytes, d) => bytes.length + uptoBulk d + 1
  | (_, d) => uptoBulk d + 1
 end
def uptoSmall : (H : Type) → List (DataW H) → Bool := fun _ ds => decide (uptoBulkAll ds ≤ 1048576)
def OpenSpec.upto (s : _root_.Go.ChangeSpec) : _root_.Go.OpenSpec := { _root_.Go.OpenSpec.ofChange s with cond := some uptoSmall }

/-- 'provostlaw12.SolveMore', WHERE WHAT IT READS IS OF BULK AT MOST 1048576: true; the input reads as it did. -/
def solveMoreUptoRow : OpenClaim := { program := "ytccgigdjkghieaadoor", sum := "1cbb7af72db38eb8fa75a93734fb9c6b5341ebff6ed054132f3c59283102a476", func := "provost/provostlaw12.SolveMore", spec := "solveMore", unfollowed := true, recurses := true, named := ["math/bits.deBruijn64tab"], apart := false, laid := [("math/bits.deBruijn64tab", laid_math_bits_deBruijn64tab)], narrowed := true }
def SolveMoreUptoSaid : Prop := solveMoreUptoRow.holds Tryd.pinned (OpenSpec.upto solveMoreSpec)

/-- 'provostlaw13.TallyPlans', WHERE WHAT IT READS IS OF BULK AT MOST 1048576: true; the input reads as it did. -/
def tallyPlansUptoRow : OpenClaim := { program := "ytccgigdjkghieaadoor", sum := "1cbb7af72db38eb8fa75a93734fb9c6b5341ebff6ed054132f3c59283102a476", func := "provost/provostlaw13.TallyPlans", spec := "tallyPlans", unfollowed := true, recurses := true, named := ["math/bits.deBruijn64tab"], apart := false, laid := [("math/bits.deBruijn64tab", laid_math_bits_deBruijn64tab)], narrowed := true }
def TallyPlansUptoSaid : Prop := tallyPlansUptoRow.holds Tryd.pinned (OpenSpec.upto tallyPlansSpec)

/-- 'provostlaw13.TallyLive', WHERE WHAT IT READS IS OF BULK AT MOST 1048576: true; the input reads as it did. -/
def tallyLiveUptoRow : OpenClaim := { program := "ytccgigdjkghieaadoor", sum := "1cbb7af72db38eb8fa75a93734fb9c6b5341ebff6ed054132f3c59283102a476", func := "provost/provostlaw13.TallyLive", spec := "tallyLive", unfollowed := true, recurses := true, named := ["math/bits.deBruijn64tab"], apart := false, laid := [("math/bits.deBruijn64tab", laid_math_bits_deBruijn64tab)], narrowed := true }
def TallyLiveUptoSaid : Prop := tallyLiveUptoRow.holds Tryd.pinned (OpenSpec.upto tallyLiveSpec)

/-- 'provostlaw15.CoreWhy', WHERE WHAT IT READS IS OF BULK AT MOST 1048576: true; the input reads as it did. -/
def coreWhyUptoRow : OpenClaim := { program := "ytccgigdjkghieaadoor", sum := "1cbb7af72db38eb8fa75a93734fb9c6b5341ebff6ed054132f3c59283102a476", func := "provost/provostlaw15.CoreWhy", spec := "coreWhy", unfollowed := true, recurses := true, named := ["math/bits.deBruijn64tab"], apart := false, laid := [("math/bits.deBruijn64tab", laid_math_bits_deBruijn64tab)], narrowed := true }
def CoreWhyUptoSaid : Prop := coreWhyUptoRow.holds Tryd.pinned (OpenSpec.upto coreWhySpec)

/-- 'provostlaw15.CoreWithout', WHERE WHAT IT READS IS OF BULK AT MOST 1048576: true; the input reads as it did. -/
def coreWithoutUptoRow : OpenClaim := { program := "ytccgigdjkghieaadoor", sum := "1cbb7af72db38eb8fa75a93734fb9c6b5341ebff6ed054132f3c59283102a476", func := "provost/provostlaw15.CoreWithout", spec := "coreWithout", unfollowed := true, recurses := true, named := ["math/bits.deBruijn64tab"], apart := false, laid := [("math/bits.deBruijn64tab", laid_math_bits_deBruijn64tab)], narrowed := true }
def CoreWithoutUptoSaid : Prop := coreWithoutUptoRow.holds Tryd.pinned (OpenSpec.upto coreWithoutSpec)

/-- 'provostlaw15.CoreOwn', WHERE WHAT IT READS IS OF BULK AT MOST 1048576: true; the input reads as it did. -/
def coreOwnUptoRow : OpenClaim := { program := "ytccgigdjkghieaadoor", sum := "1cbb7af72db38eb8fa75a93734fb9c6b5341ebff6ed054132f3c59283102a476", func := "provost/provostlaw15.CoreOwn", spec := "coreOwn", unfollowed := true, recurses := true, named := ["math/bits.deBruijn64tab"], apart := false, laid := [("math/bits.deBruijn64tab", laid_math_bits_deBruijn64tab)], narrowed := true }
def CoreOwnUptoSaid : Prop := coreOwnUptoRow.holds Tryd.pinned (OpenSpec.upto coreOwnSpec)

/-- 'provostlaw12.SolveOwn', WHERE WHAT IT READS IS OF BULK AT MOST 1048576: true; the input reads as it did. -/
def solveOwnUptoRow : OpenClaim := { program := "ytccgigdjkghieaadoor", sum := "1cbb7af72db38eb8fa75a93734fb9c6b5341ebff6ed054132f3c59283102a476", func := "provost/provostlaw12.SolveOwn", spec := "solveOwn", unfollowed := true, recurses := true, named := ["math/bits.deBruijn64tab"], apart := false, laid := [("math/bits.deBruijn64tab", laid_math_bits_deBruijn64tab)], narrowed := true }
def SolveOwnUptoSaid : Prop := solveOwnUptoRow.holds Tryd.pinned (OpenSpec.upto solveOwnSpec)

/-- 'provostlaw13.TallySizes', WHERE WHAT IT READS IS OF BULK AT MOST 1048576: true; the input reads as it did. -/
def tallySizesUptoRow : OpenClaim := { program := "ytccgigdjkghieaadoor", sum := "1cbb7af72db38eb8fa75a93734fb9c6b5341ebff6ed054132f3c59283102a476", func := "provost/provostlaw13.TallySizes", spec := "tallySizes", unfollowed := true, recurses := true, named := ["math/bits.deBruijn64tab"], apart := false, laid := [("math/bits.deBruijn64tab", laid_math_bits_deBruijn64tab)], narrowed := true }
def TallySizesUptoSaid : Prop := tallySizesUptoRow.holds Tryd.pinned (OpenSpec.upto tallySizesSpec)

/-- 'provostlaw13.TallyOwn', WHERE WHAT IT READS IS OF BULK AT MOST 1048576: true; the input reads as it did. -/
def tallyOwnUptoRow : OpenClaim := { program := "ytccgigdjkghieaadoor", sum := "1cbb7af72db38eb8fa75a93734fb9c6b5341ebff6ed054132f3c59283102a476", func := "provost/provostlaw13.TallyOwn", spec := "tallyOwn", unfollowed := true, recurses := true, named := ["math/bits.deBruijn64tab"], apart := false, laid := [("math/bits.deBruijn64tab", laid_math_bits_deBruijn64tab)], narrowed := true }
def TallyOwnUptoSaid : Prop := tallyOwnUptoRow.holds Tryd.pinned (OpenSpec.upto tallyOwnSpec)

/-- 'provostlaw13.TallyEach', WHERE WHAT IT READS IS OF BULK AT MOST 1048576: true; the input reads as it did. -/
def tallyEachUptoRow : OpenClaim := { program := "ytccgigdjkghieaadoor", sum := "1cbb7af72db38eb8fa75a93734fb9c6b5341ebff6ed054132f3c59283102a476", func := "provost/provostlaw13.TallyEach", spec := "tallyEach", unfollowed := true, recurses := true, named := ["math/bits.deBruijn64tab"], apart := false, laid := [("math/bits.deBruijn64tab", laid_math_bits_deBruijn64tab)], narrowed := true }
def TallyEachUptoSaid : Prop := tallyEachUptoRow.holds Tryd.pinned (OpenSpec.upto tallyEachSpec)

/-- 'provostlaw13.TallyBounds', WHERE WHAT IT READS IS OF BULK AT MOST 1048576: true; the input reads as it did. -/
def tallyBoundsUptoRow : OpenClaim := { program := "ytccgigdjkghieaadoor", sum := "1cbb7af72db38eb8fa75a93734fb9c6b5341ebff6ed054132f3c59283102a476", func := "provost/provostlaw13.TallyBounds", spec := "tallyBounds", unfollowed := true, recurses := true, named := ["math/bits.deBruijn64tab"], apart := false, laid := [("math/bits.deBruijn64tab", laid_math_bits_deBruijn64tab)], narrowed := true }
def TallyBoundsUptoSaid : Prop := tallyBoundsUptoRow.holds Tryd.pinned (OpenSpec.upto tallyBoundsSpec)

/-- 'provostlaw13.TallyAll', WHERE WHAT IT READS IS OF BULK AT MOST 1048576: true; the input reads as it did. -/
def tallyAllUptoRow : OpenClaim := { program := "ytccgigdjkghieaadoor", sum := "1cbb7af72db38eb8fa75a93734fb9c6b5341ebff6ed054132f3c59283102a476", func := "provost/provostlaw13.TallyAll", spec := "tallyAll", unfollowed := true, recurses := true, named := ["math/bits.deBruijn64tab"], apart := false, laid := [("math/bits.deBruijn64tab", laid_math_bits_deBruijn64tab)], narrowed := true }
def TallyAllUptoSaid : Prop := tallyAllUptoRow.holds Tryd.pinned (OpenSpec.upto tallyAllSpec)

end Rows
end Go.Proofs.YtccgigdjkghieaaDoor
