/- What all rows of this seat share: the start, the worlds. (printed by a program of this work: rows.py) -/
import Derived.Test.YtbngdhlmggdaaaaV21
import Derived.Test.YtbngdhlmggdaaaaTB
import Derived.Test.YtbngdhlmggdaaaaRows
import Derived.LaidMore
import Derived.SizedLaws
import Derived.Stop.Joined
set_option autoImplicit false
set_option linter.unusedVariables false
set_option maxRecDepth 100000
namespace Go.Proofs.Ytbngdhlmggdaaaa.VT
open Go Go.V Go.RowKit Go.ChangeShapes Go.WideShapes Go.ChangeAt Go.WideMaps Go.WideElems

theorem own : ownKnob Try.prog.godebug = none := by kernel_rfl
theorem laidOut : laidOutB Try.prog = true := by kernel_rfl
end Go.Proofs.Ytbngdhlmggdaaaa.VT
