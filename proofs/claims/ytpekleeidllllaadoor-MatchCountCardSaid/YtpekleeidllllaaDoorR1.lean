/- what the rows take, opened -/
import Derived.Test.YtpekleeidllllaaDoorR0
set_option autoImplicit false
set_option linter.unusedVariables false
set_option maxRecDepth 100000
namespace Go.Proofs.YtpekleeidllllaaDoor.VT
open Go Go.V Go.RowKit Go.ChangeShapes

abbrev T29 : Type := BitVec 64
abbrev e29 : T29 → List VVal := fun x => [iW x]
abbrev k29 : T29 → Prop := fun _ => True
theorem op29 : Opens Tryd.prog 29 T29 e29 k29 := Opens.word Tryd.underlying29 (by kernel_rfl)
abbrev T22 : Type := List T29
abbrev e22 : T22 → List VVal := fun x => [(fun l : List T29 => VVal.fsl (l.map iW) l.length 1 false) x]
abbrev k22 : T22 → Prop := fun l => l.length * 8 ≤ 140737488351232 ∧ ∀ x, x ∈ l → k29 x
theorem op22 : Opens Tryd.prog 22 T22 e22 k22 := Opens.slice1 (g := iW) 8 op29 Tryd.underlying22 (by kernel_rfl) (by kernel_rfl) (by kernel_rfl)
abbrev T3 : Type := Int
abbrev e3 : T3 → List VVal := fun x => [iI x]
abbrev k3 : T3 → Prop := fun n => -9223372036854775808 ≤ n ∧ n < 9223372036854775808
theorem op3 : Opens Tryd.prog 3 T3 e3 k3 := Opens.int Tryd.underlying3 (by kernel_rfl)
end Go.Proofs.YtpekleeidllllaaDoor.VT
