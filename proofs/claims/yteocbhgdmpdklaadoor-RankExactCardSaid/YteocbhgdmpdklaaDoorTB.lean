/- What is known of this seat's program; math/bits.TrailingZeros64 is taken by its contract. (printed by a program of this work: conf.py) -/
import Derived.Test.YteocbhgdmpdklaaDoorTA
import Derived.Test.YteocbhgdmpdklaaDoorP1
import Derived.Shelf.Spec.TrailingZeros
import Derived.KernelRfl
set_option autoImplicit false
set_option linter.unusedVariables false
set_option maxRecDepth 100000
namespace Go.Proofs.YteocbhgdmpdklaaDoor.VT
open Go Go.V Go.Shelf Go.RowKit

noncomputable def ren : Ren := { f := fun _ => 104, t := fun t => if t = 54 then 128 else if t = 22 then 23 else if t = 25 then 127 else t, g := fun _ => 0 }
theorem mixed : Tryd.prog.follows .mixedOrders = true := by kernel_rfl
theorem tzLays : Lays7.n29 Tryd.prog ren := by
  constructor
  case mixed => exact mixed
  case f29 => exact Tryd.func104.trans (by kernel_rfl)
  case t0 => exact Tryd.underlying0
  case a0 => exact Tryd.isAgg0
  case z0 => exact Tryd.sizeOf0
  case v0 => exact Tryd.zeroValue0
  case i0 => kernel_rfl
  case t3 => exact Tryd.underlying3
  case a3 => exact Tryd.isAgg3
  case z3 => exact Tryd.sizeOf3
  case v3 => exact Tryd.zeroValue3
  case i3 => kernel_rfl
  case t4 => exact Tryd.underlying4
  case a4 => exact Tryd.isAgg4
  case z4 => exact Tryd.sizeOf4
  case v4 => exact Tryd.zeroValue4
  case i4 => kernel_rfl
  case t5 => exact Tryd.underlying5
  case a5 => exact Tryd.isAgg5
  case z5 => exact Tryd.sizeOf5
  case v5 => exact Tryd.zeroValue5
  case i5 => kernel_rfl
  case t22 => exact Tryd.underlying23
  case a22 => exact Tryd.isAgg23
  case z22 => exact Tryd.sizeOf23
  case v22 => exact Tryd.zeroValue23
  case i22 => kernel_rfl
  case t25 => exact Tryd.underlying127
  case a25 => exact Tryd.isAgg127
  case z25 => exact Tryd.sizeOf127
  case v25 => exact Tryd.zeroValue127
  case i25 => kernel_rfl
  case t54 => exact Tryd.underlying128
  case a54 => exact Tryd.isAgg128
  case z54 => exact Tryd.sizeOf128
  case g1 => kernel_rfl

noncomputable def cfg : Cfg := { T := tys, meth := fun _ _ => none, fn := fun f => Tryd.prog.funcs[f]? }

theorem cfgOk {w0 : World} : CfgOk Tryd.prog cfg w0 where
  mixed := mixed
  tys := tysOk
  fns f fn hf := ⟨hf, names_ok (by kernel_rfl) hf⟩
  meths t name f h := by cases h

/-- the worlds in which the statements begin -/
structure SW where
  w : World
  h0 : 0 < w.heap.size
  hT : TabAt 0 Lib.deBruijn64tab w

noncomputable def psys (x : SW) : V.Sys := ⟨Tryd.prog, cfg, x.w, cfgOk⟩

theorem tz_spec {x : SW} (H : VHeap) (m : BitVec 64) : F (psys x) 104 [iW m] H fun v G => v = .int .i64 (Lib.ctz 64 m.toNat) ∧ G = H := by
  intro n w ι args' s ra
  refine ⟨Tryd.call104 args' w, ?_⟩
  obtain ⟨y, hy, ry⟩ := one_rel' ra
  have hy' : args' = #[y] := by apply Array.ext'; simpa using hy
  simp only [Rel] at ry
  subst hy' ry
  have hT' : TabAt 0 Lib.deBruijn64tab w := by
    intro j hj
    have := x.hT j hj
    rw [← this]
    simp only [World.cell?]
    rw [s.below.block 0 x.h0]
    rfl

  have := Any7.bits_TrailingZeros64 tzLays m.toNat m.isLt w (fun _ => hT')
  refine callsIn_wide.2 (this.mono ?_)
  rintro e w' ⟨rfl, rfl⟩
  exact ⟨_, _, H, ι, rfl, Inj.ex_refl _ _, Nat.le_refl _, s, by simp [Rel], rfl, rfl⟩
end Go.Proofs.YteocbhgdmpdklaaDoor.VT
