/-
  NARROWER THAN 'FOR EVERY INPUT', by the rows' own cells (each row's printed sentence says how): MatchLeast: laid · MatchFree: laid · MatchCount: laid · MatchShort: laid · MatchProof: laid · MatchOwn: laid.
  DERIVED. THE GIVEN ROWS OF THIS SEAT. 6 by the template 'for every input the law returns true; each argument reads behind the call as it read before'; 0 by the template 'total and deterministic' (their statements: YtpekleeidllllaaDoorTotals.lean).
  GIVEN WITH THE SEED: the statements are not yours to turn. If you find one false, say at which input.
  Laid BY PROGRAM, IN A SANDBOX (cutbox-rows.mjs): the forced cells as the released guide's own fill.sh prints them over the translation 281dcf466045a865… (all of the seat's roots in one cut). By AI agents, Wed Nov 11 2026. No macro, syntax, notation, axiom, sorry.
-/
import Derived.Test.YtpekleeidllllaaDoorChecked
import GoSem.Claim
import GoSem.ClaimJoined
import GoSem.ClaimMapViews
import Derived.JoinedTies
import Derived.KernelRfl
namespace Go.Proofs.YtpekleeidllllaaDoor
/- THE CELL 'sum', in the pinned program and in every row, IS THE sha256 OF THE DUMP (.gsa) THAT YtpekleeidllllaaDoorProg.lean LOADS. Nothing in Lean hashes anything: it is a label: what it is worth is what the hold of that sum in a sandbox is worth. -/
noncomputable def Tryd.pinned : Pinned := { name := "ytpekleeidllllaadoor", sum := "281dcf466045a865e0f43c08128dd0af046ec9c4b65eda8541c4d2527dc5dcf1", checked := Tryd.checked }
namespace Rows
def none {H : Type} : Left H := { results := [], args := [] }

/- WHAT THE LISTED PACKAGE-LEVEL VARIABLES READ AS WHEN THE CALL BEGINS. Each datum BY PROGRAM (the guide's laid-datum.mjs) off the statement by which the dump's own 'gosem.cut.vars' lays the variable. In a bare row this is a premise. The card (YtpekleeidllllaaDoorCards.lean) ties it to the program's text. -/
def laid_math_bits_deBruijn64tab {H : Type} : DataW H := .agg [.lit (.int .u8 0), .lit (.int .u8 1), .lit (.int .u8 56), .lit (.int .u8 2), .lit (.int .u8 57), .lit (.int .u8 49), .lit (.int .u8 28), .lit (.int .u8 3), .lit (.int .u8 61), .lit (.int .u8 58), .lit (.int .u8 42), .lit (.int .u8 50), .lit (.int .u8 38), .lit (.int .u8 29), .lit (.int .u8 17), .lit (.int .u8 4), .lit (.int .u8 62), .lit (.int .u8 47), .lit (.int .u8 59), .lit (.int .u8 36), .lit (.int .u8 45), .lit (.int .u8 43), .lit (.int .u8 51), .lit (.int .u8 22), .lit (.int .u8 53), .lit (.int .u8 39), .lit (.int .u8 33), .lit (.int .u8 30), .lit (.int .u8 24), .lit (.int .u8 18), .lit (.int .u8 12), .lit (.int .u8 5), .lit (.int .u8 63), .lit (.int .u8 55), .lit (.int .u8 48), .lit (.int .u8 27), .lit (.int .u8 60), .lit (.int .u8 41), .lit (.int .u8 37), .lit (.int .u8 16), .lit (.int .u8 46), .lit (.int .u8 35), .lit (.int .u8 44), .lit (.int .u8 21), .lit (.int .u8 52), .lit (.int .u8 32), .lit (.int .u8 23), .lit (.int .u8 11), .lit (.int .u8 54), .lit (.int .u8 26), .lit (.int .u8 40), .lit (.int .u8 15), .lit (.int .u8 34), .lit (.int .u8 20), .lit (.int .u8 31), .lit (.int .u8 10), .lit (.int .u8 25), .lit (.int .u8 14), .lit (.int .u8 19), .lit (.int .u8 9), .lit (.int .u8 13), .lit (.int .u8 8), .lit (.int .u8 7), .lit (.int .u8 6)]

/-- 'provostlaw11.MatchLeast': WHATEVER THE INPUT: true; the input reads as it did. -/
def matchLeastSpec : ChangeSpec := { name := "matchLeast", fn := fun _ => fun
  | [d1, d2] => { results := [.lit (.bool true)], args := [d1, d2] }
  | _ => none }
def matchLeastRow : OpenClaim := { program := "ytpekleeidllllaadoor", sum := "281dcf466045a865e0f43c08128dd0af046ec9c4b65eda8541c4d2527dc5dcf1", func := "provost/provostlaw11.MatchLeast", spec := "matchLeast", unfollowed := true, recurses := true, named := ["math/bits.deBruijn64tab"], apart := false, laid := [("math/bits.deBruijn64tab", laid_math_bits_deBruijn64tab)] }
def MatchLeastSaid : Prop := matchLeastRow.holds Tryd.pinned (OpenSpec.ofChange matchLeastSpec)

/-- ITS FALSE NEIGHBOUR: 'it returns false'. Refute it at one input. -/
def matchLeastWrong : ChangeSpec := { name := "matchLeast", fn := fun _ => fun
  | [d1, d2] => { results := [.lit (.bool false)], args := [d1, d2] }
  | _ => none }
def MatchLeastWrongFalsely : Prop := matchLeastRow.holds Tryd.pinned (OpenSpec.ofChange matchLeastWrong)

/-- 'provostlaw11.MatchFree': WHATEVER THE INPUT: true; the input reads as it did. -/
def matchFreeSpec : ChangeSpec := { name := "matchFree", fn := fun _ => fun
  | [d] => { results := [.lit (.bool true)], args := [d] }
  | _ => none }
def matchFreeRow : OpenClaim := { program := "ytpekleeidllllaadoor", sum := "281dcf466045a865e0f43c08128dd0af046ec9c4b65eda8541c4d2527dc5dcf1", func := "provost/provostlaw11.MatchFree", spec := "matchFree", unfollowed := true, recurses := true, named := ["math/bits.deBruijn64tab"], apart := false, laid := [("math/bits.deBruijn64tab", laid_math_bits_deBruijn64tab)] }
def MatchFreeSaid : Prop := matchFreeRow.holds Tryd.pinned (OpenSpec.ofChange matchFreeSpec)

/-- ITS FALSE NEIGHBOUR: 'it returns false'. Refute it at one input. -/
def matchFreeWrong : ChangeSpec := { name := "matchFree", fn := fun _ => fun
  | [d] => { results := [.lit (.bool false)], args := [d] }
  | _ => none }
def MatchFreeWrongFalsely : Prop := matchFreeRow.holds Tryd.pinned (OpenSpec.ofChange matchFreeWrong)

/-- 'provostlaw11.MatchCount': WHATEVER THE INPUT: true; the input reads as it did. -/
def matchCountSpec : ChangeSpec := { name := "matchCount", fn := fun _ => fun
  | [d1, d2] => { results := [.lit (.bool true)], args := [d1, d2] }
  | _ => none }
def matchCountRow : OpenClaim := { program := "ytpekleeidllllaadoor", sum := "281dcf466045a865e0f43c08128dd0af046ec9c4b65eda8541c4d2527dc5dcf1", func := "provost/provostlaw11.MatchCount", spec := "matchCount", unfollowed := true, recurses := true, named := ["math/bits.deBruijn64tab"], apart := false, laid := [("math/bits.deBruijn64tab", laid_math_bits_deBruijn64tab)] }
def MatchCountSaid : Prop := matchCountRow.holds Tryd.pinned (OpenSpec.ofChange matchCountSpec)

/-- ITS FALSE NEIGHBOUR: 'it returns false'. Refute it at one input. -/
def matchCountWrong : ChangeSpec := { name := "matchCount", fn := fun _ => fun
  | [d1, d2] => { results := [.lit (.bool false)], args := [d1, d2] }
  | _ => none }
def MatchCountWrongFalsely : Prop := matchCountRow.holds Tryd.pinned (OpenSpec.ofChange matchCountWrong)

/-- 'provostlaw11.MatchShort': WHATEVER THE INPUT: true; the input reads as it did. -/
def matchShortSpec : ChangeSpec := { name := "matchShort", fn := fun _ => fun
  | [d] => { results := [.lit (.bool true)], args := [d] }
  | _ => none }
def matchShortRow : OpenClaim := { program := "ytpekleeidllllaadoor", sum := "281dcf466045a865e0f43c08128dd0af046ec9c4b65eda8541c4d2527dc5dcf1", func := "provost/provostlaw11.MatchShort", spec := "matchShort", unfollowed := true, recurses := true, named := ["math/bits.deBruijn64tab"], apart := false, laid := [("math/bits.deBruijn64tab", laid_math_bits_deBruijn64tab)] }
def MatchShortSaid : Prop := matchShortRow.holds Tryd.pinned (OpenSpec.ofChange matchShortSpec)

/-- ITS FALSE NEIGHBOUR: 'it returns false'. Refute it at one input. -/
def matchShortWrong : ChangeSpec := { name := "matchShort", fn := fun _ => fun
  | [d] => { results := [.lit (.bool false)], args := [d] }
  | _ => none }
def MatchShortWrongFalsely : Prop := matchShortRow.holds Tryd.pinned (OpenSpec.ofChange matchShortWrong)

/-- 'provostlaw11.MatchProof': WHATEVER THE INPUT: true; the input reads as it did. -/
def matchProofSpec : ChangeSpec := { name := "matchProof", fn := fun _ => fun
  | [d] => { results := [.lit (.bool true)], args := [d] }
  | _ => none }
def matchProofRow : OpenClaim := { program := "ytpekleeidllllaadoor", sum := "281dcf466045a865e0f43c08128dd0af046ec9c4b65eda8541c4d2527dc5dcf1", func := "provost/provostlaw11.MatchProof", spec := "matchProof", unfollowed := true, recurses := true, named := ["math/bits.deBruijn64tab"], apart := false, laid := [("math/bits.deBruijn64tab", laid_math_bits_deBruijn64tab)] }
def MatchProofSaid : Prop := matchProofRow.holds Tryd.pinned (OpenSpec.ofChange matchProofSpec)

/-- ITS FALSE NEIGHBOUR: 'it returns false'. Refute it at one input. -/
def matchProofWrong : ChangeSpec := { name := "matchProof", fn := fun _ => fun
  | [d] => { results := [.lit (.bool false)], args := [d] }
  | _ => none }
def MatchProofWrongFalsely : Prop := matchProofRow.holds Tryd.pinned (OpenSpec.ofChange matchProofWrong)

/-- 'provostlaw11.MatchOwn': WHATEVER THE INPUT: true; the input reads as it did. -/
def matchOwnSpec : ChangeSpec := { name := "matchOwn", fn := fun _ => fun
  | [d] => { results := [.lit (.bool true)], args := [d] }
  | _ => none }
def matchOwnRow : OpenClaim := { program := "ytpekleeidllllaadoor", sum := "281dcf466045a865e0f43c08128dd0af046ec9c4b65eda8541c4d2527dc5dcf1", func := "provost/provostlaw11.MatchOwn", spec := "matchOwn", unfollowed := true, recurses := true, named := ["math/bits.deBruijn64tab"], apart := false, laid := [("math/bits.deBruijn64tab", laid_math_bits_deBruijn64tab)] }
def MatchOwnSaid : Prop := matchOwnRow.holds Tryd.pinned (OpenSpec.ofChange matchOwnSpec)

/-- ITS FALSE NEIGHBOUR: 'it returns false'. Refute it at one input. -/
def matchOwnWrong : ChangeSpec := { name := "matchOwn", fn := fun _ => fun
  | [d] => { results := [.lit (.bool false)], args := [d] }
  | _ => none }
def MatchOwnWrongFalsely : Prop := matchOwnRow.holds Tryd.pinned (OpenSpec.ofChange matchOwnWrong)

/- THE SECOND FORM. 'bulk': how many values and letters a reading holds, each counted each time it is reached (what is shared counts as often as it is met; a slice's spare places count too). A statement '..UptoSaid' is the law's where the arguments, and the package variables that the reading takes, are together of bulk at most 1048576: NARROWER than '..Said'. Prove '..Said' where nothing that the law and all that it calls make is longer than what came in: it says more and counts as full. Else prove '..UptoSaid'. A law counts once. -/
mutual
def uptoBulk {H : Type} : DataW H → Nat
  | .lit (.string bytes) => bytes.length + 1
  | .lit _ => 1
  | .nil => 1
  | .ptr d => uptoBulk d + 1
  | .slice elems spare => uptoBulkAll elems + uptoBulkAll spare + 1
  | .agg parts => uptoBulkAll parts + 1
  | .iface _ d => uptoBulk d + 1
  | .map entries => uptoBulkEntries entries + 1
  | .held _ => 1
def uptoBulkAll {H : Type} : List (DataW H) → Nat
  | [] => 0
  | d :: r => uptoBulk d + uptoBulkAll r
def uptoBulkEntries {H : Type} : List (Lit × DataW H) → Nat
  | [] => 0
  | x :: r => uptoBulkEntry x + uptoBulkEntries r
def uptoBulkEntry {H : Type} : Lit × DataW H → Nat
  | (.string bytes, d) => bytes.length + uptoBulk d + 1
  | (_, d) => uptoBulk d + 1
 end
def uptoSmall : (H : Type) → List (DataW H) → Bool := fun _ ds => decide (uptoBulkAll ds ≤ 1048576)
def OpenSpec.upto (s : _root_.Go.ChangeSpec) : _root_.Go.OpenSpec := { _root_.Go.OpenSpec.ofChange s with cond := some uptoSmall }

/-- 'provostlaw11.MatchLeast', WHERE WHAT IT READS IS OF BULK AT MOST 1048576: true; the input reads as it did. -/
def matchLeastUptoRow : OpenClaim := { program := "ytpekleeidllllaadoor", sum := "281dcf466045a865e0f43c08128dd0af046ec9c4b65eda8541c4d2527dc5dcf1", func := "provost/provostlaw11.MatchLeast", spec := "matchLeast", unfollowed := true, recurses := true, named := ["math/bits.deBruijn64tab"], apart := false, laid := [("math/bits.deBruijn64tab", laid_math_bits_deBruijn64tab)], narrowed := true }
def MatchLeastUptoSaid : Prop := matchLeastUptoRow.holds Tryd.pinned (OpenSpec.upto matchLeastSpec)

/-- 'provostlaw11.MatchFree', WHERE WHAT IT READS IS OF BULK AT MOST 1048576: true; the input reads as it did. -/
def matchFreeUptoRow : OpenClaim := { program := "ytpekleeidllllaadoor", sum := "281dcf466045a865e0f43c08128dd0af046ec9c4b65eda8541c4d2527dc5dcf1", func := "provost/provostlaw11.MatchFree", spec := "matchFree", unfollowed := true, recurses := true, named := ["math/bits.deBruijn64tab"], apart := false, laid := [("math/bits.deBruijn64tab", laid_math_bits_deBruijn64tab)], narrowed := true }
def MatchFreeUptoSaid : Prop := matchFreeUptoRow.holds Tryd.pinned (OpenSpec.upto matchFreeSpec)

/-- 'provostlaw11.MatchCount', WHERE WHAT IT READS IS OF BULK AT MOST 1048576: true; the input reads as it did. -/
def matchCountUptoRow : OpenClaim := { program := "ytpekleeidllllaadoor", sum := "281dcf466045a865e0f43c08128dd0af046ec9c4b65eda8541c4d2527dc5dcf1", func := "provost/provostlaw11.MatchCount", spec := "matchCount", unfollowed := true, recurses := true, named := ["math/bits.deBruijn64tab"], apart := false, laid := [("math/bits.deBruijn64tab", laid_math_bits_deBruijn64tab)], narrowed := true }
def MatchCountUptoSaid : Prop := matchCountUptoRow.holds Tryd.pinned (OpenSpec.upto matchCountSpec)

/-- 'provostlaw11.MatchShort', WHERE WHAT IT READS IS OF BULK AT MOST 1048576: true; the input reads as it did. -/
def matchShortUptoRow : OpenClaim := { program := "ytpekleeidllllaadoor", sum := "281dcf466045a865e0f43c08128dd0af046ec9c4b65eda8541c4d2527dc5dcf1", func := "provost/provostlaw11.MatchShort", spec := "matchShort", unfollowed := true, recurses := true, named := ["math/bits.deBruijn64tab"], apart := false, laid := [("math/bits.deBruijn64tab", laid_math_bits_deBruijn64tab)], narrowed := true }
def MatchShortUptoSaid : Prop := matchShortUptoRow.holds Tryd.pinned (OpenSpec.upto matchShortSpec)

/-- 'provostlaw11.MatchProof', WHERE WHAT IT READS IS OF BULK AT MOST 1048576: true; the input reads as it did. -/
def matchProofUptoRow : OpenClaim := { program := "ytpekleeidllllaadoor", sum := "281dcf466045a865e0f43c08128dd0af046ec9c4b65eda8541c4d2527dc5dcf1", func := "provost/provostlaw11.MatchProof", spec := "matchProof", unfollowed := true, recurses := true, named := ["math/bits.deBruijn64tab"], apart := false, laid := [("math/bits.deBruijn64tab", laid_math_bits_deBruijn64tab)], narrowed := true }
def MatchProofUptoSaid : Prop := matchProofUptoRow.holds Tryd.pinned (OpenSpec.upto matchProofSpec)

/-- 'provostlaw11.MatchOwn', WHERE WHAT IT READS IS OF BULK AT MOST 1048576: true; the input reads as it did. -/
def matchOwnUptoRow : OpenClaim := { program := "ytpekleeidllllaadoor", sum := "281dcf466045a865e0f43c08128dd0af046ec9c4b65eda8541c4d2527dc5dcf1", func := "provost/provostlaw11.MatchOwn", spec := "matchOwn", unfollowed := true, recurses := true, named := ["math/bits.deBruijn64tab"], apart := false, laid := [("math/bits.deBruijn64tab", laid_math_bits_deBruijn64tab)], narrowed := true }
def MatchOwnUptoSaid : Prop := matchOwnUptoRow.holds Tryd.pinned (OpenSpec.upto matchOwnSpec)

end Rows
end Go.Proofs.YtpekleeidllllaaDoor
