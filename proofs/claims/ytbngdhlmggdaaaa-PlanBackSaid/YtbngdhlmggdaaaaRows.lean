/-
  No cell of these rows narrows 'for every input' (looked for: loops, veiled, ifaces, maps, wideKeys, modest, calm, conditions, laid).
  DERIVED. THE GIVEN ROWS OF THIS SEAT. 5 by the template 'for every input the law returns true; each argument reads behind the call as it read before'; 0 by the template 'total and deterministic' (their statements: YtbngdhlmggdaaaaTotals.lean).
  GIVEN WITH THE SEED: the statements are not yours to turn. If you find one false, say at which input.
  Laid BY PROGRAM, IN A SANDBOX (cutbox-rows.mjs): the forced cells as the released guide's own fill.sh prints them over the translation 61584bdcb2d484e2… (all of the seat's roots in one cut). By AI agents, Wed Nov 11 2026. No macro, syntax, notation, axiom, sorry.
-/
import Derived.Test.YtbngdhlmggdaaaaChecked
import GoSem.Claim
import GoSem.ClaimJoined
import GoSem.ClaimMapViews
import Derived.JoinedTies
import Derived.KernelRfl
namespace Go.Proofs.Ytbngdhlmggdaaaa
/- THE CELL 'sum', in the pinned program and in every row, IS THE sha256 OF THE DUMP (.gsa) THAT YtbngdhlmggdaaaaProg.lean LOADS. Nothing in Lean hashes anything: it is a label: what it is worth is what the hold of that sum in a sandbox is worth. -/
noncomputable def Try.pinned : Pinned := { name := "ytbngdhlmggdaaaa", sum := "61584bdcb2d484e2d0f67cdce24ae6cd64275d34eea032738209833edeb3052f", checked := Try.checked }
namespace Rows
def none {H : Type} : Left H := { results := [], args := [] }

/-- 'provostlaw14.PlanFlaws': WHATEVER THE INPUT: true; the input reads as it did. -/
def planFlawsSpec : ChangeSpec := { name := "planFlaws", fn := fun _ => fun
  | [d1, d2] => { results := [.lit (.bool true)], args := [d1, d2] }
  | _ => none }
def planFlawsRow : OpenClaim := { program := "ytbngdhlmggdaaaa", sum := "61584bdcb2d484e2d0f67cdce24ae6cd64275d34eea032738209833edeb3052f", func := "provost/provostlaw14.PlanFlaws", spec := "planFlaws", unfollowed := true, recurses := true, apart := false }
def PlanFlawsSaid : Prop := planFlawsRow.holds Try.pinned (OpenSpec.ofChange planFlawsSpec)

/-- ITS FALSE NEIGHBOUR: 'it returns false'. Refute it at one input. -/
def planFlawsWrong : ChangeSpec := { name := "planFlaws", fn := fun _ => fun
  | [d1, d2] => { results := [.lit (.bool false)], args := [d1, d2] }
  | _ => none }
def PlanFlawsWrongFalsely : Prop := planFlawsRow.holds Try.pinned (OpenSpec.ofChange planFlawsWrong)

/-- 'provostlaw14.PlanWrite': WHATEVER THE INPUT: true; the input reads as it did. -/
def planWriteSpec : ChangeSpec := { name := "planWrite", fn := fun _ => fun
  | [d1, d2] => { results := [.lit (.bool true)], args := [d1, d2] }
  | _ => none }
def planWriteRow : OpenClaim := { program := "ytbngdhlmggdaaaa", sum := "61584bdcb2d484e2d0f67cdce24ae6cd64275d34eea032738209833edeb3052f", func := "provost/provostlaw14.PlanWrite", spec := "planWrite", unfollowed := true, recurses := true, apart := false }
def PlanWriteSaid : Prop := planWriteRow.holds Try.pinned (OpenSpec.ofChange planWriteSpec)

/-- ITS FALSE NEIGHBOUR: 'it returns false'. Refute it at one input. -/
def planWriteWrong : ChangeSpec := { name := "planWrite", fn := fun _ => fun
  | [d1, d2] => { results := [.lit (.bool false)], args := [d1, d2] }
  | _ => none }
def PlanWriteWrongFalsely : Prop := planWriteRow.holds Try.pinned (OpenSpec.ofChange planWriteWrong)

/-- 'provostlaw14.PlanRead': WHATEVER THE INPUT: true; the input reads as it did. -/
def planReadSpec : ChangeSpec := { name := "planRead", fn := fun _ => fun
  | [d] => { results := [.lit (.bool true)], args := [d] }
  | _ => none }
def planReadRow : OpenClaim := { program := "ytbngdhlmggdaaaa", sum := "61584bdcb2d484e2d0f67cdce24ae6cd64275d34eea032738209833edeb3052f", func := "provost/provostlaw14.PlanRead", spec := "planRead", unfollowed := true, recurses := true, apart := false }
def PlanReadSaid : Prop := planReadRow.holds Try.pinned (OpenSpec.ofChange planReadSpec)

/-- ITS FALSE NEIGHBOUR: 'it returns false'. Refute it at one input. -/
def planReadWrong : ChangeSpec := { name := "planRead", fn := fun _ => fun
  | [d] => { results := [.lit (.bool false)], args := [d] }
  | _ => none }
def PlanReadWrongFalsely : Prop := planReadRow.holds Try.pinned (OpenSpec.ofChange planReadWrong)

/-- 'provostlaw14.PlanOwn': WHATEVER THE INPUT: true; the input reads as it did. -/
def planOwnSpec : ChangeSpec := { name := "planOwn", fn := fun _ => fun
  | [d1, d2, d3] => { results := [.lit (.bool true)], args := [d1, d2, d3] }
  | _ => none }
def planOwnRow : OpenClaim := { program := "ytbngdhlmggdaaaa", sum := "61584bdcb2d484e2d0f67cdce24ae6cd64275d34eea032738209833edeb3052f", func := "provost/provostlaw14.PlanOwn", spec := "planOwn", unfollowed := true, recurses := true, apart := false }
def PlanOwnSaid : Prop := planOwnRow.holds Try.pinned (OpenSpec.ofChange planOwnSpec)

/-- ITS FALSE NEIGHBOUR: 'it returns false'. Refute it at one input. -/
def planOwnWrong : ChangeSpec := { name := "planOwn", fn := fun _ => fun
  | [d1, d2, d3] => { results := [.lit (.bool false)], args := [d1, d2, d3] }
  | _ => none }
def PlanOwnWrongFalsely : Prop := planOwnRow.holds Try.pinned (OpenSpec.ofChange planOwnWrong)

/-- 'provostlaw14.PlanBack': WHATEVER THE INPUT: true; the input reads as it did. -/
def planBackSpec : ChangeSpec := { name := "planBack", fn := fun _ => fun
  | [d1, d2, d3] => { results := [.lit (.bool true)], args := [d1, d2, d3] }
  | _ => none }
def planBackRow : OpenClaim := { program := "ytbngdhlmggdaaaa", sum := "61584bdcb2d484e2d0f67cdce24ae6cd64275d34eea032738209833edeb3052f", func := "provost/provostlaw14.PlanBack", spec := "planBack", unfollowed := true, recurses := true, apart := false }
def PlanBackSaid : Prop := planBackRow.holds Try.pinned (OpenSpec.ofChange planBackSpec)

/-- ITS FALSE NEIGHBOUR: 'it returns false'. Refute it at one input. -/
def planBackWrong : ChangeSpec := { name := "planBack", fn := fun _ => fun
  | [d1, d2, d3] => { results := [.lit (.bool false)], args := [d1, d2, d3] }
  | _ => none }
def PlanBackWrongFalsely : Prop := planBackRow.holds Try.pinned (OpenSpec.ofChange planBackWrong)

/- THE SECOND FORM. 'bulk': how many values and letters a reading holds, each counted each time it is reached (what is shared counts as often as it is met; a slice's spare places count too). A statement '..UptoSaid' is the law's where the arguments, and the package variables that the reading takes, are together of bulk at most 1048576: NARROWER than '..Said'. Prove '..Said' where nothing that the law and all that it calls make is longer than what came in: it says more and counts as full. Else prove '..UptoSaid'. A law counts once. -/
mutual
def uptoBulk {H : Type} : DataW H → Nat
  | .lit (.string bytes) => bytes.length + 1
  | .lit _ => 1
  | .nil => 1
  | .ptr d => uptoBulk d + 1
  | .slice elems spare => uptoBulkAll elems + uptoBulkAll spare + 1
  | .agg parts => uptoBulkAll parts + 1
  | .iface _ d => uptoBulk d + 1
  | .map entries => uptoBulkEntries entries + 1
  | .held _ => 1
def uptoBulkAll {H : Type} : List (DataW H) → Nat
  | [] => 0
  | d :: r => uptoBulk d + uptoBulkAll r
def uptoBulkEntries {H : Type} : List (Lit × DataW H) → Nat
  | [] => 0
  | x :: r => uptoBulkEntry x + uptoBulkEntries r
def uptoBulkEntry {H : Type} : Lit × DataW H → Nat
  | (.string bytes, d) => bytes.length + uptoBulk d + 1
  | (_, d) => uptoBulk d + 1
 end
def uptoSmall : (H : Type) → List (DataW H) → Bool := fun _ ds => decide (uptoBulkAll ds ≤ 1048576)
def OpenSpec.upto (s : _root_.Go.ChangeSpec) : _root_.Go.OpenSpec := { _root_.Go.OpenSpec.ofChange s with cond := some uptoSmall }

/-- 'provostlaw14.PlanFlaws', WHERE WHAT IT READS IS OF BULK AT MOST 1048576: true; the input reads as it did. -/
def planFlawsUptoRow : OpenClaim := { program := "ytbngdhlmggdaaaa", sum := "61584bdcb2d484e2d0f67cdce24ae6cd64275d34eea032738209833edeb3052f", func := "provost/provostlaw14.PlanFlaws", spec := "planFlaws", unfollowed := true, recurses := true, apart := false, narrowed := true }
def PlanFlawsUptoSaid : Prop := planFlawsUptoRow.holds Try.pinned (OpenSpec.upto planFlawsSpec)

/-- 'provostlaw14.PlanWrite', WHERE WHAT IT READS IS OF BULK AT MOST 1048576: true; the input reads as it did. -/
def planWriteUptoRow : OpenClaim := { program := "ytbngdhlmggdaaaa", sum := "61584bdcb2d484e2d0f67cdce24ae6cd64275d34eea032738209833edeb3052f", func := "provost/provostlaw14.PlanWrite", spec := "planWrite", unfollowed := true, recurses := true, apart := false, narrowed := true }
def PlanWriteUptoSaid : Prop := planWriteUptoRow.holds Try.pinned (OpenSpec.upto planWriteSpec)

/-- 'provostlaw14.PlanRead', WHERE WHAT IT READS IS OF BULK AT MOST 1048576: true; the input reads as it did. -/
def planReadUptoRow : OpenClaim := { program := "ytbngdhlmggdaaaa", sum := "61584bdcb2d484e2d0f67cdce24ae6cd64275d34eea032738209833edeb3052f", func := "provost/provostlaw14.PlanRead", spec := "planRead", unfollowed := true, recurses := true, apart := false, narrowed := true }
def PlanReadUptoSaid : Prop := planReadUptoRow.holds Try.pinned (OpenSpec.upto planReadSpec)

/-- 'provostlaw14.PlanOwn', WHERE WHAT IT READS IS OF BULK AT MOST 1048576: true; the input reads as it did. -/
def planOwnUptoRow : OpenClaim := { program := "ytbngdhlmggdaaaa", sum := "61584bdcb2d484e2d0f67cdce24ae6cd64275d34eea032738209833edeb3052f", func := "provost/provostlaw14.PlanOwn", spec := "planOwn", unfollowed := true, recurses := true, apart := false, narrowed := true }
def PlanOwnUptoSaid : Prop := planOwnUptoRow.holds Try.pinned (OpenSpec.upto planOwnSpec)

/-- 'provostlaw14.PlanBack', WHERE WHAT IT READS IS OF BULK AT MOST 1048576: true; the input reads as it did. -/
def planBackUptoRow : OpenClaim := { program := "ytbngdhlmggdaaaa", sum := "61584bdcb2d484e2d0f67cdce24ae6cd64275d34eea032738209833edeb3052f", func := "provost/provostlaw14.PlanBack", spec := "planBack", unfollowed := true, recurses := true, apart := false, narrowed := true }
def PlanBackUptoSaid : Prop := planBackUptoRow.holds Try.pinned (OpenSpec.upto planBackSpec)

end Rows
end Go.Proofs.Ytbngdhlmggdaaaa
