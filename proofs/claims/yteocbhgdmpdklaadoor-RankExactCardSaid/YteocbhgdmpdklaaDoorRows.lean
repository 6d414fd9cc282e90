/-
  NARROWER THAN 'FOR EVERY INPUT', by the rows' own cells (each row's printed sentence says how): OrderCovers: laid · OrderDowns: laid · OrderReady: laid · OrderCount: laid · RankDepth: laid · RankGoes: laid · OrderExact: laid · RankReach: laid · RankExact: laid · OrderRows: laid · OrderOwn: laid.
  DERIVED. THE GIVEN ROWS OF THIS SEAT. 11 by the template 'for every input the law returns true; each argument reads behind the call as it read before'; 0 by the template 'total and deterministic' (their statements: YteocbhgdmpdklaaDoorTotals.lean).
  GIVEN WITH THE SEED: the statements are not yours to turn. If you find one false, say at which input.
  Laid BY PROGRAM, IN A SANDBOX (cutbox-rows.mjs): the forced cells as the released guide's own fill.sh prints them over the translation 25ec6e7009285323… (all of the seat's roots in one cut). By AI agents, Wed Nov 11 2026. No macro, syntax, notation, axiom, sorry.
-/
import Derived.Test.YteocbhgdmpdklaaDoorChecked
import GoSem.Claim
import GoSem.ClaimJoined
import GoSem.ClaimMapViews
import Derived.JoinedTies
import Derived.KernelRfl
namespace Go.Proofs.YteocbhgdmpdklaaDoor
/- THE CELL 'sum', in the pinned program and in every row, IS THE sha256 OF THE DUMP (.gsa) THAT YteocbhgdmpdklaaDoorProg.lean LOADS. Nothing in Lean hashes anything: it is a label: what it is worth is what the hold of that sum in a sandbox is worth. -/
noncomputable def Tryd.pinned : Pinned := { name := "yteocbhgdmpdklaadoor", sum := "25ec6e7009285323c2d34989c9d13c21716c00c3ee25a73e50f99f230b472682", checked := Tryd.checked }
namespace Rows
def none {H : Type} : Left H := { results := [], args := [] }

/- WHAT THE LISTED PACKAGE-LEVEL VARIABLES READ AS WHEN THE CALL BEGINS. Each datum BY PROGRAM (the guide's laid-datum.mjs) off the statement by which the dump's own 'gosem.cut.vars' lays the variable. In a bare row this is a premise. The card (YteocbhgdmpdklaaDoorCards.lean) ties it to the program's text. -/
def laid_math_bits_deBruijn64tab {H : Type} : DataW H := .agg [.lit (.int .u8 0), .lit (.int .u8 1), .lit (.int .u8 56), .lit (.int .u8 2), .lit (.int .u8 57), .lit (.int .u8 49), .lit (.int .u8 28), .lit (.int .u8 3), .lit (.int .u8 61), .lit (.int .u8 58), .lit (.int .u8 42), .lit (.int .u8 50), .lit (.int .u8 38), .lit (.int .u8 29), .lit (.int .u8 17), .lit (.int .u8 4), .lit (.int .u8 62), .lit (.int .u8 47), .lit (.int .u8 59), .lit (.int .u8 36), .lit (.int .u8 45), .lit (.int .u8 43), .lit (.int .u8 51), .lit (.int .u8 22), .lit (.int .u8 53), .lit (.int .u8 39), .lit (.int .u8 33), .lit (.int .u8 30), .lit (.int .u8 24), .lit (.int .u8 18), .lit (.int .u8 12), .lit (.int .u8 5), .lit (.int .u8 63), .lit (.int .u8 55), .lit (.int .u8 48), .lit (.int .u8 27), .lit (.int .u8 60), .lit (.int .u8 41), .lit (.int .u8 37), .lit (.int .u8 16), .lit (.int .u8 46), .lit (.int .u8 35), .lit (.int .u8 44), .lit (.int .u8 21), .lit (.int .u8 52), .lit (.int .u8 32), .lit (.int .u8 23), .lit (.int .u8 11), .lit (.int .u8 54), .lit (.int .u8 26), .lit (.int .u8 40), .lit (.int .u8 15), .lit (.int .u8 34), .lit (.int .u8 20), .lit (.int .u8 31), .lit (.int .u8 10), .lit (.int .u8 25), .lit (.int .u8 14), .lit (.int .u8 19), .lit (.int .u8 9), .lit (.int .u8 13), .lit (.int .u8 8), .lit (.int .u8 7), .lit (.int .u8 6)]

/-- 'provostlaw03.OrderCovers': WHATEVER THE INPUT: true; the input reads as it did. -/
def orderCoversSpec : ChangeSpec := { name := "orderCovers", fn := fun _ => fun
  | [d] => { results := [.lit (.bool true)], args := [d] }
  | _ => none }
def orderCoversRow : OpenClaim := { program := "yteocbhgdmpdklaadoor", sum := "25ec6e7009285323c2d34989c9d13c21716c00c3ee25a73e50f99f230b472682", func := "provost/provostlaw03.OrderCovers", spec := "orderCovers", unfollowed := true, recurses := true, named := ["math/bits.deBruijn64tab"], apart := false, laid := [("math/bits.deBruijn64tab", laid_math_bits_deBruijn64tab)] }
def OrderCoversSaid : Prop := orderCoversRow.holds Tryd.pinned (OpenSpec.ofChange orderCoversSpec)

/-- ITS FALSE NEIGHBOUR: 'it returns false'. Refute it at one input. -/
def orderCoversWrong : ChangeSpec := { name := "orderCovers", fn := fun _ => fun
  | [d] => { results := [.lit (.bool false)], args := [d] }
  | _ => none }
def OrderCoversWrongFalsely : Prop := orderCoversRow.holds Tryd.pinned (OpenSpec.ofChange orderCoversWrong)

/-- 'provostlaw03.OrderDowns': WHATEVER THE INPUT: true; the input reads as it did. -/
def orderDownsSpec : ChangeSpec := { name := "orderDowns", fn := fun _ => fun
  | [d] => { results := [.lit (.bool true)], args := [d] }
  | _ => none }
def orderDownsRow : OpenClaim := { program := "yteocbhgdmpdklaadoor", sum := "25ec6e7009285323c2d34989c9d13c21716c00c3ee25a73e50f99f230b472682", func := "provost/provostlaw03.OrderDowns", spec := "orderDowns", unfollowed := true, recurses := true, named := ["math/bits.deBruijn64tab"], apart := false, laid := [("math/bits.deBruijn64tab", laid_math_bits_deBruijn64tab)] }
def OrderDownsSaid : Prop := orderDownsRow.holds Tryd.pinned (OpenSpec.ofChange orderDownsSpec)

/-- ITS FALSE NEIGHBOUR: 'it returns false'. Refute it at one input. -/
def orderDownsWrong : ChangeSpec := { name := "orderDowns", fn := fun _ => fun
  | [d] => { results := [.lit (.bool false)], args := [d] }
  | _ => none }
def OrderDownsWrongFalsely : Prop := orderDownsRow.holds Tryd.pinned (OpenSpec.ofChange orderDownsWrong)

/-- 'provostlaw03.OrderReady': WHATEVER THE INPUT: true; the input reads as it did. -/
def orderReadySpec : ChangeSpec := { name := "orderReady", fn := fun _ => fun
  | [d] => { results := [.lit (.bool true)], args := [d] }
  | _ => none }
def orderReadyRow : OpenClaim := { program := "yteocbhgdmpdklaadoor", sum := "25ec6e7009285323c2d34989c9d13c21716c00c3ee25a73e50f99f230b472682", func := "provost/provostlaw03.OrderReady", spec := "orderReady", unfollowed := true, recurses := true, named := ["math/bits.deBruijn64tab"], apart := false, laid := [("math/bits.deBruijn64tab", laid_math_bits_deBruijn64tab)] }
def OrderReadySaid : Prop := orderReadyRow.holds Tryd.pinned (OpenSpec.ofChange orderReadySpec)

/-- ITS FALSE NEIGHBOUR: 'it returns false'. Refute it at one input. -/
def orderReadyWrong : ChangeSpec := { name := "orderReady", fn := fun _ => fun
  | [d] => { results := [.lit (.bool false)], args := [d] }
  | _ => none }
def OrderReadyWrongFalsely : Prop := orderReadyRow.holds Tryd.pinned (OpenSpec.ofChange orderReadyWrong)

/-- 'provostlaw03.OrderCount': WHATEVER THE INPUT: true; the input reads as it did. -/
def orderCountSpec : ChangeSpec := { name := "orderCount", fn := fun _ => fun
  | [d] => { results := [.lit (.bool true)], args := [d] }
  | _ => none }
def orderCountRow : OpenClaim := { program := "yteocbhgdmpdklaadoor", sum := "25ec6e7009285323c2d34989c9d13c21716c00c3ee25a73e50f99f230b472682", func := "provost/provostlaw03.OrderCount", spec := "orderCount", unfollowed := true, recurses := true, named := ["math/bits.deBruijn64tab"], apart := false, laid := [("math/bits.deBruijn64tab", laid_math_bits_deBruijn64tab)] }
def OrderCountSaid : Prop := orderCountRow.holds Tryd.pinned (OpenSpec.ofChange orderCountSpec)

/-- ITS FALSE NEIGHBOUR: 'it returns false'. Refute it at one input. -/
def orderCountWrong : ChangeSpec := { name := "orderCount", fn := fun _ => fun
  | [d] => { results := [.lit (.bool false)], args := [d] }
  | _ => none }
def OrderCountWrongFalsely : Prop := orderCountRow.holds Tryd.pinned (OpenSpec.ofChange orderCountWrong)

/-- 'provostlaw08.RankDepth': WHATEVER THE INPUT: true; the input reads as it did. -/
def rankDepthSpec : ChangeSpec := { name := "rankDepth", fn := fun _ => fun
  | [d] => { results := [.lit (.bool true)], args := [d] }
  | _ => none }
def rankDepthRow : OpenClaim := { program := "yteocbhgdmpdklaadoor", sum := "25ec6e7009285323c2d34989c9d13c21716c00c3ee25a73e50f99f230b472682", func := "provost/provostlaw08.RankDepth", spec := "rankDepth", unfollowed := true, recurses := true, named := ["math/bits.deBruijn64tab"], apart := false, laid := [("math/bits.deBruijn64tab", laid_math_bits_deBruijn64tab)] }
def RankDepthSaid : Prop := rankDepthRow.holds Tryd.pinned (OpenSpec.ofChange rankDepthSpec)

/-- ITS FALSE NEIGHBOUR: 'it returns false'. Refute it at one input. -/
def rankDepthWrong : ChangeSpec := { name := "rankDepth", fn := fun _ => fun
  | [d] => { results := [.lit (.bool false)], args := [d] }
  | _ => none }
def RankDepthWrongFalsely : Prop := rankDepthRow.holds Tryd.pinned (OpenSpec.ofChange rankDepthWrong)

/-- 'provostlaw08.RankGoes': WHATEVER THE INPUT: true; the input reads as it did. -/
def rankGoesSpec : ChangeSpec := { name := "rankGoes", fn := fun _ => fun
  | [d1, d2, d3] => { results := [.lit (.bool true)], args := [d1, d2, d3] }
  | _ => none }
def rankGoesRow : OpenClaim := { program := "yteocbhgdmpdklaadoor", sum := "25ec6e7009285323c2d34989c9d13c21716c00c3ee25a73e50f99f230b472682", func := "provost/provostlaw08.RankGoes", spec := "rankGoes", unfollowed := true, recurses := true, named := ["math/bits.deBruijn64tab"], apart := false, laid := [("math/bits.deBruijn64tab", laid_math_bits_deBruijn64tab)] }
def RankGoesSaid : Prop := rankGoesRow.holds Tryd.pinned (OpenSpec.ofChange rankGoesSpec)

/-- ITS FALSE NEIGHBOUR: 'it returns false'. Refute it at one input. -/
def rankGoesWrong : ChangeSpec := { name := "rankGoes", fn := fun _ => fun
  | [d1, d2, d3] => { results := [.lit (.bool false)], args := [d1, d2, d3] }
  | _ => none }
def RankGoesWrongFalsely : Prop := rankGoesRow.holds Tryd.pinned (OpenSpec.ofChange rankGoesWrong)

/-- 'provostlaw03.OrderExact': WHATEVER THE INPUT: true; the input reads as it did. -/
def orderExactSpec : ChangeSpec := { name := "orderExact", fn := fun _ => fun
  | [d] => { results := [.lit (.bool true)], args := [d] }
  | _ => none }
def orderExactRow : OpenClaim := { program := "yteocbhgdmpdklaadoor", sum := "25ec6e7009285323c2d34989c9d13c21716c00c3ee25a73e50f99f230b472682", func := "provost/provostlaw03.OrderExact", spec := "orderExact", unfollowed := true, recurses := true, named := ["math/bits.deBruijn64tab"], apart := false, laid := [("math/bits.deBruijn64tab", laid_math_bits_deBruijn64tab)] }
def OrderExactSaid : Prop := orderExactRow.holds Tryd.pinned (OpenSpec.ofChange orderExactSpec)

/-- ITS FALSE NEIGHBOUR: 'it returns false'. Refute it at one input. -/
def orderExactWrong : ChangeSpec := { name := "orderExact", fn := fun _ => fun
  | [d] => { results := [.lit (.bool false)], args := [d] }
  | _ => none }
def OrderExactWrongFalsely : Prop := orderExactRow.holds Tryd.pinned (OpenSpec.ofChange orderExactWrong)

/-- 'provostlaw08.RankReach': WHATEVER THE INPUT: true; the input reads as it did. -/
def rankReachSpec : ChangeSpec := { name := "rankReach", fn := fun _ => fun
  | [d] => { results := [.lit (.bool true)], args := [d] }
  | _ => none }
def rankReachRow : OpenClaim := { program := "yteocbhgdmpdklaadoor", sum := "25ec6e7009285323c2d34989c9d13c21716c00c3ee25a73e50f99f230b472682", func := "provost/provostlaw08.RankReach", spec := "rankReach", unfollowed := true, recurses := true, named := ["math/bits.deBruijn64tab"], apart := false, laid := [("math/bits.deBruijn64tab", laid_math_bits_deBruijn64tab)] }
def RankReachSaid : Prop := rankReachRow.holds Tryd.pinned (OpenSpec.ofChange rankReachSpec)

/-- ITS FALSE NEIGHBOUR: 'it returns false'. Refute it at one input. -/
def rankReachWrong : ChangeSpec := { name := "rankReach", fn := fun _ => fun
  | [d] => { results := [.lit (.bool false)], args := [d] }
  | _ => none }
def RankReachWrongFalsely : Prop := rankReachRow.holds Tryd.pinned (OpenSpec.ofChange rankReachWrong)

/-- 'provostlaw08.RankExact': WHATEVER THE INPUT: true; the input reads as it did. -/
def rankExactSpec : ChangeSpec := { name := "rankExact", fn := fun _ => fun
  | [d] => { results := [.lit (.bool true)], args := [d] }
  | _ => none }
def rankExactRow : OpenClaim := { program := "yteocbhgdmpdklaadoor", sum := "25ec6e7009285323c2d34989c9d13c21716c00c3ee25a73e50f99f230b472682", func := "provost/provostlaw08.RankExact", spec := "rankExact", unfollowed := true, recurses := true, named := ["math/bits.deBruijn64tab"], apart := false, laid := [("math/bits.deBruijn64tab", laid_math_bits_deBruijn64tab)] }
def RankExactSaid : Prop := rankExactRow.holds Tryd.pinned (OpenSpec.ofChange rankExactSpec)

/-- ITS FALSE NEIGHBOUR: 'it returns false'. Refute it at one input. -/
def rankExactWrong : ChangeSpec := { name := "rankExact", fn := fun _ => fun
  | [d] => { results := [.lit (.bool false)], args := [d] }
  | _ => none }
def RankExactWrongFalsely : Prop := rankExactRow.holds Tryd.pinned (OpenSpec.ofChange rankExactWrong)

/-- 'provostlaw03.OrderRows': WHATEVER THE INPUT: true; the input reads as it did. -/
def orderRowsSpec : ChangeSpec := { name := "orderRows", fn := fun _ => fun
  | [d] => { results := [.lit (.bool true)], args := [d] }
  | _ => none }
def orderRowsRow : OpenClaim := { program := "yteocbhgdmpdklaadoor", sum := "25ec6e7009285323c2d34989c9d13c21716c00c3ee25a73e50f99f230b472682", func := "provost/provostlaw03.OrderRows", spec := "orderRows", unfollowed := true, recurses := true, named := ["math/bits.deBruijn64tab"], apart := false, laid := [("math/bits.deBruijn64tab", laid_math_bits_deBruijn64tab)] }
def OrderRowsSaid : Prop := orderRowsRow.holds Tryd.pinned (OpenSpec.ofChange orderRowsSpec)

/-- ITS FALSE NEIGHBOUR: 'it returns false'. Refute it at one input. -/
def orderRowsWrong : ChangeSpec := { name := "orderRows", fn := fun _ => fun
  | [d] => { results := [.lit (.bool false)], args := [d] }
  | _ => none }
def OrderRowsWrongFalsely : Prop := orderRowsRow.holds Tryd.pinned (OpenSpec.ofChange orderRowsWrong)

/-- 'provostlaw03.OrderOwn': WHATEVER THE INPUT: true; the input reads as it did. -/
def orderOwnSpec : ChangeSpec := { name := "orderOwn", fn := fun _ => fun
  | [d] => { results := [.lit (.bool true)], args := [d] }
  | _ => none }
def orderOwnRow : OpenClaim := { program := "yteocbhgdmpdklaadoor", sum := "25ec6e7009285323c2d34989c9d13c21716c00c3ee25a73e50f99f230b472682", func := "provost/provostlaw03.OrderOwn", spec := "orderOwn", unfollowed := true, recurses := true, named := ["math/bits.deBruijn64tab"], apart := false, laid := [("math/bits.deBruijn64tab", laid_math_bits_deBruijn64tab)] }
def OrderOwnSaid : Prop := orderOwnRow.holds Tryd.pinned (OpenSpec.ofChange orderOwnSpec)

/-- ITS FALSE NEIGHBOUR: 'it returns false'. Refute it at one input. -/
def orderOwnWrong : ChangeSpec := { name := "orderOwn", fn := fun _ => fun
  | [d] => { results := [.lit (.bool false)], args := [d] }
  | _ => none }
def OrderOwnWrongFalsely : Prop := orderOwnRow.holds Tryd.pinned (OpenSpec.ofChange orderOwnWrong)

/- THE SECOND FORM. 'bulk': how many values and letters a reading holds, each counted each time it is reached (what is shared counts as often as it is met; a slice's spare places count too). A statement '..UptoSaid' is the law's where the arguments, and the package variables that the reading takes, are together of bulk at most 1048576: NARROWER than '..Said'. Prove '..Said' where nothing that the law and all that it calls make is longer than what came in: it says more and counts as full. Else prove '..UptoSaid'. A law counts once. -/
mutual
def uptoBulk {H : Type} : DataW H → Nat
  | .lit (.string bytes) => bytes.length + 1
  | .lit _ => 1
  | .nil => 1
  | .ptr d => uptoBulk d + 1
  | .slice elems spare => uptoBulkAll elems + uptoBulkAll spare + 1
  | .agg parts => uptoBulkAll parts + 1
  | .iface _ d => uptoBulk d + 1
  | .map entries => uptoBulkEntries entries + 1
  | .held _ => 1
def uptoBulkAll {H : Type} : List (DataW H) → Nat
  | [] => 0
  | d :: r => uptoBulk d + uptoBulkAll r
def uptoBulkEntries {H : Type} : List (Lit × DataW H) → Nat
  | [] => 0
  | x :: r => uptoBulkEntry x + uptoBulkEntries r
def uptoBulkEntry {H : Type} : Lit × DataW H → Nat
  | (.string bytes, d) => bytes.length + uptoBulk d + 1
  | (_, d) => uptoBulk d + 1
 end
def uptoSmall : (H : Type) → List (DataW H) → Bool := fun _ ds => decide (uptoBulkAll ds ≤ 1048576)
def OpenSpec.upto (s : _root_.Go.ChangeSpec) : _root_.Go.OpenSpec := { _root_.Go.OpenSpec.ofChange s with cond := some uptoSmall }

/-- 'provostlaw03.OrderCovers', WHERE WHAT IT READS IS OF BULK AT MOST 1048576: true; the input reads as it did. -/
def orderCoversUptoRow : OpenClaim := { program := "yteocbhgdmpdklaadoor", sum := "25ec6e7009285323c2d34989c9d13c21716c00c3ee25a73e50f99f230b472682", func := "provost/provostlaw03.OrderCovers", spec := "orderCovers", unfollowed := true, recurses := true, named := ["math/bits.deBruijn64tab"], apart := false, laid := [("math/bits.deBruijn64tab", laid_math_bits_deBruijn64tab)], narrowed := true }
def OrderCoversUptoSaid : Prop := orderCoversUptoRow.holds Tryd.pinned (OpenSpec.upto orderCoversSpec)

/-- 'provostlaw03.OrderDowns', WHERE WHAT IT READS IS OF BULK AT MOST 1048576: true; the input reads as it did. -/
def orderDownsUptoRow : OpenClaim := { program := "yteocbhgdmpdklaadoor", sum := "25ec6e7009285323c2d34989c9d13c21716c00c3ee25a73e50f99f230b472682", func := "provost/provostlaw03.OrderDowns", spec := "orderDowns", unfollowed := true, recurses := true, named := ["math/bits.deBruijn64tab"], apart := false, laid := [("math/bits.deBruijn64tab", laid_math_bits_deBruijn64tab)], narrowed := true }
def OrderDownsUptoSaid : Prop := orderDownsUptoRow.holds Tryd.pinned (OpenSpec.upto orderDownsSpec)

/-- 'provostlaw03.OrderReady', WHERE WHAT IT READS IS OF BULK AT MOST 1048576: true; the input reads as it did. -/
def orderReadyUptoRow : OpenClaim := { program := "yteocbhgdmpdklaadoor", sum := "25ec6e7009285323c2d34989c9d13c21716c00c3ee25a73e50f99f230b472682", func := "provost/provostlaw03.OrderReady", spec := "orderReady", unfollowed := true, recurses := true, named := ["math/bits.deBruijn64tab"], apart := false, laid := [("math/bits.deBruijn64tab", laid_math_bits_deBruijn64tab)], narrowed := true }
def OrderReadyUptoSaid : Prop := orderReadyUptoRow.holds Tryd.pinned (OpenSpec.upto orderReadySpec)

/-- 'provostlaw03.OrderCount', WHERE WHAT IT READS IS OF BULK AT MOST 1048576: true; the input reads as it did. -/
def orderCountUptoRow : OpenClaim := { program := "yteocbhgdmpdklaadoor", sum := "25ec6e7009285323c2d34989c9d13c21716c00c3ee25a73e50f99f230b472682", func := "provost/provostlaw03.OrderCount", spec := "orderCount", unfollowed := true, recurses := true, named := ["math/bits.deBruijn64tab"], apart := false, laid := [("math/bits.deBruijn64tab", laid_math_bits_deBruijn64tab)], narrowed := true }
def OrderCountUptoSaid : Prop := orderCountUptoRow.holds Tryd.pinned (OpenSpec.upto orderCountSpec)

/-- 'provostlaw08.RankDepth', WHERE WHAT IT READS IS OF BULK AT MOST 1048576: true; the input reads as it did. -/
def rankDepthUptoRow : OpenClaim := { program := "yteocbhgdmpdklaadoor", sum := "25ec6e7009285323c2d34989c9d13c21716c00c3ee25a73e50f99f230b472682", func := "provost/provostlaw08.RankDepth", spec := "rankDepth", unfollowed := true, recurses := true, named := ["math/bits.deBruijn64tab"], apart := false, laid := [("math/bits.deBruijn64tab", laid_math_bits_deBruijn64tab)], narrowed := true }
def RankDepthUptoSaid : Prop := rankDepthUptoRow.holds Tryd.pinned (OpenSpec.upto rankDepthSpec)

/-- 'provostlaw08.RankGoes', WHERE WHAT IT READS IS OF BULK AT MOST 1048576: true; the input reads as it did. -/
def rankGoesUptoRow : OpenClaim := { program := "yteocbhgdmpdklaadoor", sum := "25ec6e7009285323c2d34989c9d13c21716c00c3ee25a73e50f99f230b472682", func := "provost/provostlaw08.RankGoes", spec := "rankGoes", unfollowed := true, recurses := true, named := ["math/bits.deBruijn64tab"], apart := false, laid := [("math/bits.deBruijn64tab", laid_math_bits_deBruijn64tab)], narrowed := true }
def RankGoesUptoSaid : Prop := rankGoesUptoRow.holds Tryd.pinned (OpenSpec.upto rankGoesSpec)

/-- 'provostlaw03.OrderExact', WHERE WHAT IT READS IS OF BULK AT MOST 1048576: true; the input reads as it did. -/
def orderExactUptoRow : OpenClaim := { program := "yteocbhgdmpdklaadoor", sum := "25ec6e7009285323c2d34989c9d13c21716c00c3ee25a73e50f99f230b472682", func := "provost/provostlaw03.OrderExact", spec := "orderExact", unfollowed := true, recurses := true, named := ["math/bits.deBruijn64tab"], apart := false, laid := [("math/bits.deBruijn64tab", laid_math_bits_deBruijn64tab)], narrowed := true }
def OrderExactUptoSaid : Prop := orderExactUptoRow.holds Tryd.pinned (OpenSpec.upto orderExactSpec)

/-- 'provostlaw08.RankReach', WHERE WHAT IT READS IS OF BULK AT MOST 1048576: true; the input reads as it did. -/
def rankReachUptoRow : OpenClaim := { program := "yteocbhgdmpdklaadoor", sum := "25ec6e7009285323c2d34989c9d13c21716c00c3ee25a73e50f99f230b472682", func := "provost/provostlaw08.RankReach", spec := "rankReach", unfollowed := true, recurses := true, named := ["math/bits.deBruijn64tab"], apart := false, laid := [("math/bits.deBruijn64tab", laid_math_bits_deBruijn64tab)], narrowed := true }
def RankReachUptoSaid : Prop := rankReachUptoRow.holds Tryd.pinned (OpenSpec.upto rankReachSpec)

/-- 'provostlaw08.RankExact', WHERE WHAT IT READS IS OF BULK AT MOST 1048576: true; the input reads as it did. -/
def rankExactUptoRow : OpenClaim := { program := "yteocbhgdmpdklaadoor", sum := "25ec6e7009285323c2d34989c9d13c21716c00c3ee25a73e50f99f230b472682", func := "provost/provostlaw08.RankExact", spec := "rankExact", unfollowed := true, recurses := true, named := ["math/bits.deBruijn64tab"], apart := false, laid := [("math/bits.deBruijn64tab", laid_math_bits_deBruijn64tab)], narrowed := true }
def RankExactUptoSaid : Prop := rankExactUptoRow.holds Tryd.pinned (OpenSpec.upto rankExactSpec)

/-- 'provostlaw03.OrderRows', WHERE WHAT IT READS IS OF BULK AT MOST 1048576: true; the input reads as it did. -/
def orderRowsUptoRow : OpenClaim := { program := "yteocbhgdmpdklaadoor", sum := "25ec6e7009285323c2d34989c9d13c21716c00c3ee25a73e50f99f230b472682", func := "provost/provostlaw03.OrderRows", spec := "orderRows", unfollowed := true, recurses := true, named := ["math/bits.deBruijn64tab"], apart := false, laid := [("math/bits.deBruijn64tab", laid_math_bits_deBruijn64tab)], narrowed := true }
def OrderRowsUptoSaid : Prop := orderRowsUptoRow.holds Tryd.pinned (OpenSpec.upto orderRowsSpec)

/-- 'provostlaw03.OrderOwn', WHERE WHAT IT READS IS OF BULK AT MOST 1048576: true; the input reads as it did. -/
def orderOwnUptoRow : OpenClaim := { program := "yteocbhgdmpdklaadoor", sum := "25ec6e7009285323c2d34989c9d13c21716c00c3ee25a73e50f99f230b472682", func := "provost/provostlaw03.OrderOwn", spec := "orderOwn", unfollowed := true, recurses := true, named := ["math/bits.deBruijn64tab"], apart := false, laid := [("math/bits.deBruijn64tab", laid_math_bits_deBruijn64tab)], narrowed := true }
def OrderOwnUptoSaid : Prop := orderOwnUptoRow.holds Tryd.pinned (OpenSpec.upto orderOwnSpec)

end Rows
end Go.Proofs.YteocbhgdmpdklaaDoor
