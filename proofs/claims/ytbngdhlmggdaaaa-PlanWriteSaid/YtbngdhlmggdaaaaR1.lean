/- what the rows take, opened -/
import Derived.Test.YtbngdhlmggdaaaaR0
set_option autoImplicit false
set_option linter.unusedVariables false
set_option maxRecDepth 100000
namespace Go.Proofs.Ytbngdhlmggdaaaa.VT
open Go Go.V Go.RowKit Go.ChangeShapes

abbrev T3 : Type := Int
abbrev e3 : T3 → List VVal := fun x => [iI x]
abbrev k3 : T3 → Prop := fun n => -9223372036854775808 ≤ n ∧ n < 9223372036854775808
theorem op3 : Opens Try.prog 3 T3 e3 k3 := Opens.int Try.underlying3 (by kernel_rfl)
abbrev T68 : Type := BitVec 64
abbrev e68 : T68 → List VVal := fun x => [iW x]
abbrev k68 : T68 → Prop := fun _ => True
theorem op68 : Opens Try.prog 68 T68 e68 k68 := Opens.word Try.underlying68 (by kernel_rfl)
abbrev T22 : Type := List T68
abbrev e22 : T22 → List VVal := fun x => [(fun l : List T68 => VVal.fsl (l.map iW) l.length 1 false) x]
abbrev k22 : T22 → Prop := fun l => l.length * 8 ≤ 140737488351232 ∧ ∀ x, x ∈ l → k68 x
theorem op22 : Opens Try.prog 22 T22 e22 k22 := Opens.slice1 (g := iW) 8 op68 Try.underlying22 (by kernel_rfl) (by kernel_rfl) (by kernel_rfl)
abbrev T23 : Type := List T3
abbrev e23 : T23 → List VVal := fun x => [(fun l : List T3 => VVal.fsl (l.map iI) l.length 1 false) x]
abbrev k23 : T23 → Prop := fun l => l.length * 8 ≤ 140737488351232 ∧ ∀ x, x ∈ l → k3 x
theorem op23 : Opens Try.prog 23 T23 e23 k23 := Opens.slice1 (g := iI) 8 op3 Try.underlying23 (by kernel_rfl) (by kernel_rfl) (by kernel_rfl)
abbrev T63 : Type := T3 × T3 × T23 × Unit
abbrev e63 : T63 → List VVal := fun x => e3 (x.1) ++ (e3 (x.2.1) ++ (e23 (x.2.2.1) ++ ([])))
abbrev k63 : T63 → Prop := fun x => k3 (x.1) ∧ (k3 (x.2.1) ∧ (k23 (x.2.2.1) ∧ (True)))
theorem op63 : Opens Try.prog 63 T63 e63 k63 := Opens.struct Try.underlying63 (.cons op3 (by kernel_rfl) (.cons op3 (by kernel_rfl) (.cons op23 (by kernel_rfl) (.nil _)))) (fun a => by kernel_rfl)
abbrev T24 : Type := List T63
abbrev e24 : T24 → List VVal := fun x => [(fun l : List T63 => VVal.fsl (l.flatMap e63) l.length 3 false) x]
abbrev k24 : T24 → Prop := fun l => l.length * 40 ≤ 140737488351232 ∧ ∀ x, x ∈ l → k63 x
theorem op24 : Opens Try.prog 24 T24 e24 k24 := Opens.slice 3 40 op63 Try.underlying24 (by kernel_rfl) (by kernel_rfl) (by kernel_rfl) (by decide)
abbrev T26 : Type := T3 × T22 × T23 × T24 × Unit
abbrev e26 : T26 → List VVal := fun x => e3 (x.1) ++ (e22 (x.2.1) ++ (e23 (x.2.2.1) ++ (e24 (x.2.2.2.1) ++ ([]))))
abbrev k26 : T26 → Prop := fun x => k3 (x.1) ∧ (k22 (x.2.1) ∧ (k23 (x.2.2.1) ∧ (k24 (x.2.2.2.1) ∧ (True))))
theorem op26 : Opens Try.prog 26 T26 e26 k26 := Opens.struct Try.underlying26 (.cons op3 (by kernel_rfl) (.cons op22 (by kernel_rfl) (.cons op23 (by kernel_rfl) (.cons op24 (by kernel_rfl) (.nil _))))) (fun a => by kernel_rfl)
abbrev T5 : Type := UInt8
abbrev e5 : T5 → List VVal := fun x => [(fun w : UInt8 => VVal.int .u8 w.toNat) x]
abbrev k5 : T5 → Prop := fun _ => True
theorem op5 : Opens Try.prog 5 T5 e5 k5 := Opens.byte Try.underlying5 (by kernel_rfl)
abbrev T38 : Type := List T5
abbrev e38 : T38 → List VVal := fun x => [(fun l : List T5 => VVal.fsl (l.map (fun w : UInt8 => VVal.int .u8 w.toNat)) l.length 1 false) x]
abbrev k38 : T38 → Prop := fun l => l.length * 1 ≤ 140737488351232 ∧ ∀ x, x ∈ l → k5 x
theorem op38 : Opens Try.prog 38 T38 e38 k38 := Opens.slice1 (g := (fun w : UInt8 => VVal.int .u8 w.toNat)) 1 op5 Try.underlying38 (by kernel_rfl) (by kernel_rfl) (by kernel_rfl)
end Go.Proofs.Ytbngdhlmggdaaaa.VT
