/- what the rows take, opened -/
import Derived.Test.YteocbhgdmpdklaaDoorR0
set_option autoImplicit false
set_option linter.unusedVariables false
set_option maxRecDepth 100000
namespace Go.Proofs.YteocbhgdmpdklaaDoor.VT
open Go Go.V Go.RowKit Go.ChangeShapes

abbrev T3 : Type := Int
abbrev e3 : T3 → List VVal := fun x => [iI x]
abbrev k3 : T3 → Prop := fun n => -9223372036854775808 ≤ n ∧ n < 9223372036854775808
theorem op3 : Opens Tryd.prog 3 T3 e3 k3 := Opens.int Tryd.underlying3 (by kernel_rfl)
abbrev T41 : Type := T3 × T3
abbrev e41 : T41 → List VVal := fun x => e3 x.1 ++ e3 x.2
abbrev k41 : T41 → Prop := fun x => k3 x.1 ∧ k3 x.2
theorem op41 : Opens Tryd.prog 41 T41 e41 k41 := Opens.array2 op3 Tryd.underlying41 (by kernel_rfl)
abbrev T22 : Type := List T41
abbrev e22 : T22 → List VVal := fun x => [(fun l : List T41 => VVal.fsl (l.flatMap e41) l.length 2 false) x]
abbrev k22 : T22 → Prop := fun l => l.length * 16 ≤ 140737488351232 ∧ ∀ x, x ∈ l → k41 x
theorem op22 : Opens Tryd.prog 22 T22 e22 k22 := Opens.slice 2 16 op41 Tryd.underlying22 (by kernel_rfl) (by kernel_rfl) (by kernel_rfl) (by decide)
abbrev T23 : Type := BitVec 64
abbrev e23 : T23 → List VVal := fun x => [iW x]
abbrev k23 : T23 → Prop := fun _ => True
theorem op23 : Opens Tryd.prog 23 T23 e23 k23 := Opens.word Tryd.underlying23 (by kernel_rfl)
abbrev T24 : Type := List T3
abbrev e24 : T24 → List VVal := fun x => [(fun l : List T3 => VVal.fsl (l.map iI) l.length 1 false) x]
abbrev k24 : T24 → Prop := fun l => l.length * 8 ≤ 140737488351232 ∧ ∀ x, x ∈ l → k3 x
theorem op24 : Opens Tryd.prog 24 T24 e24 k24 := Opens.slice1 (g := iI) 8 op3 Tryd.underlying24 (by kernel_rfl) (by kernel_rfl) (by kernel_rfl)
abbrev T26 : Type := T3 × T22 × T3 × T3 × T23 × T24 × T23 × Unit
abbrev e26 : T26 → List VVal := fun x => e3 (x.1) ++ (e22 (x.2.1) ++ (e3 (x.2.2.1) ++ (e3 (x.2.2.2.1) ++ (e23 (x.2.2.2.2.1) ++ (e24 (x.2.2.2.2.2.1) ++ (e23 (x.2.2.2.2.2.2.1) ++ ([])))))))
abbrev k26 : T26 → Prop := fun x => k3 (x.1) ∧ (k22 (x.2.1) ∧ (k3 (x.2.2.1) ∧ (k3 (x.2.2.2.1) ∧ (k23 (x.2.2.2.2.1) ∧ (k24 (x.2.2.2.2.2.1) ∧ (k23 (x.2.2.2.2.2.2.1) ∧ (True)))))))
theorem op26 : Opens Tryd.prog 26 T26 e26 k26 := Opens.struct Tryd.underlying26 (.cons op3 (by kernel_rfl) (.cons op22 (by kernel_rfl) (.cons op3 (by kernel_rfl) (.cons op3 (by kernel_rfl) (.cons op23 (by kernel_rfl) (.cons op24 (by kernel_rfl) (.cons op23 (by kernel_rfl) (.nil _)))))))) (fun a => by kernel_rfl)
abbrev T54 : Type := T3 × T3 × T3 × T3 × T23 × Unit
abbrev e54 : T54 → List VVal := fun x => e3 (x.1) ++ (e3 (x.2.1) ++ (e3 (x.2.2.1) ++ (e3 (x.2.2.2.1) ++ (e23 (x.2.2.2.2.1) ++ ([])))))
abbrev k54 : T54 → Prop := fun x => k3 (x.1) ∧ (k3 (x.2.1) ∧ (k3 (x.2.2.1) ∧ (k3 (x.2.2.2.1) ∧ (k23 (x.2.2.2.2.1) ∧ (True)))))
theorem op54 : Opens Tryd.prog 54 T54 e54 k54 := Opens.struct Tryd.underlying54 (.cons op3 (by kernel_rfl) (.cons op3 (by kernel_rfl) (.cons op3 (by kernel_rfl) (.cons op3 (by kernel_rfl) (.cons op23 (by kernel_rfl) (.nil _)))))) (fun a => by kernel_rfl)
abbrev T49 : Type := List T54
abbrev e49 : T49 → List VVal := fun x => [(fun l : List T54 => VVal.fsl (l.flatMap e54) l.length 5 false) x]
abbrev k49 : T49 → Prop := fun l => l.length * 40 ≤ 140737488351232 ∧ ∀ x, x ∈ l → k54 x
theorem op49 : Opens Tryd.prog 49 T49 e49 k49 := Opens.slice 5 40 op54 Tryd.underlying49 (by kernel_rfl) (by kernel_rfl) (by kernel_rfl) (by decide)
end Go.Proofs.YteocbhgdmpdklaaDoor.VT
