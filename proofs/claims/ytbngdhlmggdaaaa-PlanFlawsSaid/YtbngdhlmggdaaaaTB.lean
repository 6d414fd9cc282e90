/- What is known of this seat's program. (printed by a program of this work: conf.py) -/
import Derived.Test.YtbngdhlmggdaaaaTA
import Derived.Test.YtbngdhlmggdaaaaP1
import Derived.KernelRfl
set_option autoImplicit false
set_option linter.unusedVariables false
set_option maxRecDepth 100000
namespace Go.Proofs.Ytbngdhlmggdaaaa.VT
open Go Go.V Go.RowKit

theorem mixed : Try.prog.follows .mixedOrders = true := by kernel_rfl

noncomputable def cfg : Cfg := { T := tys, meth := fun _ _ => none, fn := fun f => Try.prog.funcs[f]? }

theorem cfgOk {w0 : World} : CfgOk Try.prog cfg w0 where
  mixed := mixed
  tys := tysOk
  fns f fn hf := ⟨hf, names_ok (by kernel_rfl) hf⟩
  meths t name f h := by cases h

/-- the worlds in which the statements begin -/
structure SW where
  w : World

noncomputable def psys (x : SW) : V.Sys := ⟨Try.prog, cfg, x.w, cfgOk⟩
end Go.Proofs.Ytbngdhlmggdaaaa.VT
