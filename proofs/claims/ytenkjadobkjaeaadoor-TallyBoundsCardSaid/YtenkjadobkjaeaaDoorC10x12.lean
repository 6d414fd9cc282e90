/- Proved: Rows.TallyBoundsCardSaid, the statement TallyBounds with its card, of the given program at the commit; no conditions beyond those in the statement. -/
import Derived.Test.YtenkjadobkjaeaaDoorC10x11
import Derived.Shelf.Spec.TrailingZeros
import Derived.KernelRfl
set_option autoImplicit false
set_option linter.unusedVariables false
set_option maxRecDepth 100000
namespace Go.Proofs.YtenkjadobkjaeaaDoor.VT
open Go Go.V Go.Shelf Go.RowKit
noncomputable def ren : Ren := { f := fun _ => 149, t := fun t => if t = 54 then 162 else if t = 22 then 35 else if t = 25 then 137 else t, g := fun _ => 0 }
theorem mixed : Tryd.prog.follows .mixedOrders = true := by kernel_rfl
theorem tzLays : Lays7.n29 Tryd.prog ren := by
  constructor
  case mixed => exact mixed
  case f29 => exact Tryd.func149.trans XH6
  case t0 => exact Tryd.underlying0
  case a0 => exact Tryd.isAgg0
  case z0 => exact Tryd.sizeOf0
  case v0 => exact Tryd.zeroValue0
  case i0 => kernel_rfl
  case t3 => exact Tryd.underlying3
  case a3 => exact Tryd.isAgg3
  case z3 => exact Tryd.sizeOf3
  case v3 => exact Tryd.zeroValue3
  case i3 => kernel_rfl
  case t4 => exact Tryd.underlying4
  case a4 => exact Tryd.isAgg4
  case z4 => exact Tryd.sizeOf4
  case v4 => exact Tryd.zeroValue4
  case i4 => kernel_rfl
  case t5 => exact Tryd.underlying5
  case a5 => exact Tryd.isAgg5
  case z5 => exact Tryd.sizeOf5
  case v5 => exact Tryd.zeroValue5
  case i5 => kernel_rfl
  case t22 => exact Tryd.underlying35
  case a22 => exact Tryd.isAgg35
  case z22 => exact Tryd.sizeOf35
  case v22 => exact Tryd.zeroValue35
  case i22 => kernel_rfl
  case t25 => exact Tryd.underlying137
  case a25 => exact Tryd.isAgg137
  case z25 => exact Tryd.sizeOf137
  case v25 => exact Tryd.zeroValue137
  case i25 => kernel_rfl
  case t54 => exact Tryd.underlying162
  case a54 => exact Tryd.isAgg162
  case z54 => exact Tryd.sizeOf162
  case g1 => kernel_rfl
noncomputable def cfg : Cfg := { T := tys, meth := fun _ _ => none, fn := fun f => Tryd.prog.funcs[f]? }
theorem cfgOk {w0 : World} : CfgOk Tryd.prog cfg w0 where
  mixed := mixed
  tys := tysOk
  fns f fn hf := ⟨hf, names_ok XH6 hf⟩
  meths t name f h := by cases h
structure SW where
  w : World
  h0 : 0 < w.heap.size
  hT : TabAt 0 Lib.deBruijn64tab w
noncomputable def psys (x : SW) : V.Sys := ⟨Tryd.prog, cfg, x.w, cfgOk⟩
theorem tz_spec {x : SW} (H : Ze) (m : BitVec 64) : F (psys x) 149 [iW m] H fun v G => v = .int .i64 (Lib.ctz 64 m.toNat) ∧ G = H := by
  intro n w ι args' s ra
  refine ⟨Tryd.call149 args' w, ?_⟩
  obtain ⟨y, hy, ry⟩ := one_rel' ra
  have hy' : args' = #[y] := by apply Array.ext'; simpa using hy
  simp only [Rel] at ry
  subst hy' ry
  have hT' : TabAt 0 Lib.deBruijn64tab w := by
    intro j hj
    have := x.hT j hj
    rw [← this]
    simp only [World.cell?]
    rw [s.below.block 0 x.h0]
    rfl
  have := Any7.bits_TrailingZeros64 tzLays m.toNat m.isLt w (fun _ => hT')
  refine callsIn_wide.2 (this.mono ?_)
  rintro e w' ⟨rfl, rfl⟩
  exact ⟨_, _, H, ι, rfl, Inj.ex_refl _ _, Nat.le_refl _, s, by simp [Rel], rfl, rfl⟩
set_option linter.unusedSimpArgs false
set_option maxHeartbeats 4000000
open Go Go.V
abbrev u4 {a0 a1 a2 a3 : VVal} : VEnv := a0 :: a1 :: a2 :: a3 :: []
abbrev u6 {a0 a1 a2 a3 a4 a5 : VVal} : VEnv := a0 :: a1 :: a2 :: a3 :: a4 :: a5 :: []
abbrev u7 {a0 a1 a2 a3 a4 a5 a6 : VVal} : VEnv := a0 :: a1 :: a2 :: a3 :: a4 :: a5 :: a6 :: []
abbrev u13 {a0 a1 a2 a3 a4 a5 a6 a7 a8 a9 a10 a11 a12 : VVal} : VEnv := a0 :: a1 :: a2 :: a3 :: a4 :: a5 :: a6 :: a7 :: a8 :: a9 :: a10 :: a11 :: a12 :: []
abbrev u16 {a0 a1 a2 a3 a4 a5 a6 a7 a8 a9 a10 a11 a12 a13 a14 a15 : VVal} : VEnv := a0 :: a1 :: a2 :: a3 :: a4 :: a5 :: a6 :: a7 :: a8 :: a9 :: a10 :: a11 :: a12 :: a13 :: a14 :: a15 :: []
abbrev u18 {a0 a1 a2 a3 a4 a5 a6 a7 a8 a9 a10 a11 a12 a13 a14 a15 a16 a17 : VVal} : VEnv := a0 :: a1 :: a2 :: a3 :: a4 :: a5 :: a6 :: a7 :: a8 :: a9 :: a10 :: a11 :: a12 :: a13 :: a14 :: a15 :: a16 :: a17 :: []
abbrev u20 {a0 a1 a2 a3 a4 a5 a6 a7 a8 a9 a10 a11 a12 a13 a14 a15 a16 a17 a18 a19 : VVal} : VEnv := a0 :: a1 :: a2 :: a3 :: a4 :: a5 :: a6 :: a7 :: a8 :: a9 :: a10 :: a11 :: a12 :: a13 :: a14 :: a15 :: a16 :: a17 :: a18 :: a19 :: []
abbrev u35 {a0 a1 a2 a3 a4 a5 a6 a7 a8 a9 a10 a11 a12 a13 a14 a15 a16 a17 a18 a19 a20 a21 a22 a23 a24 a25 a26 a27 a28 a29 a30 a31 a32 a33 a34 : VVal} : VEnv := a0 :: a1 :: a2 :: a3 :: a4 :: a5 :: a6 :: a7 :: a8 :: a9 :: a10 :: a11 :: a12 :: a13 :: a14 :: a15 :: a16 :: a17 :: a18 :: a19 :: a20 :: a21 :: a22 :: a23 :: a24 :: a25 :: a26 :: a27 :: a28 :: a29 :: a30 :: a31 :: a32 :: a33 :: a34 :: []
theorem W10 {S : V.Sys} {H : Ze} {fn : Func} {ex : Exit} {env : VEnv} {B L : Ze} {v : VVal} {R : VVal → Ze → Prop} (hx : ex = .normal ∨ ex = .ret) (hv : ZZ S.C.T env (B ++ L) fn.results = some v) (h : R v B) (hB : BaseOk H B := by exact XH54) (hu : v.under H.length = true := by first | rfl | simp [VVal.under, VVal.underL, *]) : fnK S fn H R ex env (B ++ L) := YE hx hv hB hu h
theorem W11 {T : TypeId → Option VTy} {H : Ze} {op : Op} {ρ : Operand → VVal} {t : TypeId} {a : Operand} {y : VTy} {p : VVal} {n : Nat} {vs : List VVal} (ho : op = .load t a) (ha : ρ a = p) (hy : T t = some y) (hd : Zm y.desc = true) (hn : y.size = n) (h : LdOkA H p n vs := by first | exact .inl ⟨_, _, rfl, XH48⟩ | exact .inr ⟨_, _, _, _, rfl, XH47, XH48⟩) : vop T ρ H op = some (.agg vs, H) := v_ldA ho ha hy hd hn h
theorem W12 {T : TypeId → Option VTy} {H : Ze} {op : Op} {ρ : Operand → VVal} {t : TypeId} {a : Operand} {y : VTy} {p v : VVal} (ho : op = .load t a) (ha : ρ a = p) (hy : T t = some y) (hd : Zm y.desc = false) (h : LdOk H p v := by first | exact .inl ⟨_, _, rfl, XH48⟩ | exact .inr ⟨_, _, _, _, rfl, XH47, XH48⟩) : vop T ρ H op = some (v, H) := v_ld ho ha hy hd h
theorem W13 {T : TypeId → Option VTy} {H : Ze} {op : Op} {ρ : VEnv} {H' : Ze} {t : TypeId} {a : Operand} {i : Nat} {v : VVal} {y : VTy} {b off : Nat} {cs new : List VVal} (ho : op = .store t a (.tmp i)) (hv : ρ[i]? = some v) (ha : ρ.eval a = .ptr (some (b, off))) (hy : T t = some y) (hx : v.cells = some new) (hn : new.length = y.size) (h1 : new.all VVal.one = true) (hb : H[b]? = some (.cells cs true) := by exact XH47) (hl : off + new.length ≤ cs.length := by exact XH49) (hH : H.set b (.cells (Zv cs off new) true) = H' := by first | exact setE0 rfl rfl | (simp only [List.append_assoc, List.singleton_append, List.cons_append, List.nil_append]; refine setE (i := 0) rfl ?_; simp; done) | (simp only [List.append_assoc, List.singleton_append, List.cons_append, List.nil_append]; refine setE (i := 1) rfl ?_; simp; done) | (simp only [List.append_assoc, List.singleton_append, List.cons_append, List.nil_append]; refine setE (i := 2) rfl ?_; simp; done) | (simp only [List.append_assoc, List.singleton_append, List.cons_append, List.nil_append]; refine setE (i := 3) rfl ?_; simp; done) | (refine setB rfl ?_; simp; done) | exact ZF rfl | exact Yl (ZI (by assumption)) | rfl) : vop T ρ.eval H op = some (.skip, H') := ZT ho hv ha hy hx hn h1 hb hl hH
theorem W14 {T : TypeId → Option VTy} {H : Ze} {op : Op} {ρ : Operand → VVal} {t ty : TypeId} {x y : Operand} {n m : Int} (ho : op = .binOp .add t x y ty) (hx : ρ x = .int .i64 n) (hy : ρ y = .int .i64 m) (h : -9223372036854775808 ≤ n + m ∧ n + m < 9223372036854775808 := by exact XH57) : vop T ρ H op = some (.int .i64 (n + m), H) := v_addI ho hx hy h
theorem Ones_all {x : SW} (H : Ze) : F (psys x) 153 [.int .u64 ((18446744073709551615#64).toNat : Int)] H fun v G => v = .int .i64 64 ∧ G = H := by
 refine Zr Tryd.func153 rfl u35 rfl ?_
 refine Zd (Za ?_)
 refine Lo u35 (Zg (VVal.int .i64 0) (.inr rfl) rfl) ?_
 refine Zf (Zc (Zd (Za ?_)))
 refine Lo u35 (Zb (.inl rfl) rfl) ?_
 refine Lo u35 (v_shrW rfl rfl rfl XH2) ?_
 refine Lo u35 (v_andW (b := 6148914691236517205#64) rfl rfl rfl) ?_
 refine Lo u35 (Zb (.inl rfl) rfl) ?_
 refine Lo u35 (v_andW (b := 6148914691236517205#64) rfl rfl rfl) ?_
 refine Lo u35 (v_addW rfl rfl rfl) ?_
 refine Lo u35 (Zb (.inr rfl) rfl) ?_
 refine Zf (Zc (Zd (Za ?_)))
 refine Lo u35 (Zb (.inl rfl) rfl) ?_
 refine Lo u35 (v_shrW rfl rfl rfl XH2) ?_
 refine Lo u35 (v_andW (b := 3689348814741910323#64) rfl rfl rfl) ?_
 refine Lo u35 (Zb (.inl rfl) rfl) ?_
 refine Lo u35 (v_andW (b := 3689348814741910323#64) rfl rfl rfl) ?_
 refine Lo u35 (v_addW rfl rfl rfl) ?_
 refine Lo u35 (Zb (.inr rfl) rfl) ?_
 refine Zf (Zc (Zd (Za ?_)))
 refine Lo u35 (Zb (.inl rfl) rfl) ?_
 refine Lo u35 (v_shrW rfl rfl rfl XH2) ?_
 refine Lo u35 (Zb (.inl rfl) rfl) ?_
 refine Lo u35 (v_addW rfl rfl rfl) ?_
 refine Lo u35 (v_andW (b := 1085102592571150095#64) rfl rfl rfl) ?_
 refine Lo u35 (Zb (.inr rfl) rfl) ?_
 refine Zf (Zc (Zd (Za ?_)))
 refine Lo u35 (Zb (.inl rfl) rfl) ?_
 refine Lo u35 (Zb (.inl rfl) rfl) ?_
 refine Lo u35 (v_shrW rfl rfl rfl XH2) ?_
 refine Lo u35 (v_addW rfl rfl rfl) ?_
 refine Lo u35 (Zb (.inr rfl) rfl) ?_
 refine Zf (Zc (Zd (Za ?_)))
 refine Lo u35 (Zb (.inl rfl) rfl) ?_
 refine Lo u35 (Zb (.inl rfl) rfl) ?_
 refine Lo u35 (v_shrW rfl rfl rfl XH2) ?_
 refine Lo u35 (v_addW rfl rfl rfl) ?_
 refine Lo u35 (Zb (.inr rfl) rfl) ?_
 refine Zf (Zc (Zd (Za ?_)))
 refine Lo u35 (Zb (.inl rfl) rfl) ?_
 refine Lo u35 (Zb (.inl rfl) rfl) ?_
 refine Lo u35 (v_shrW rfl rfl rfl XH2) ?_
 refine Lo u35 (v_addW rfl rfl rfl) ?_
 refine Lo u35 (Zb (.inr rfl) rfl) ?_
 refine Zf (Zc (Zd (Za ?_)))
 refine Lo u35 (Zb (.inl rfl) rfl) ?_
 refine Lo u35 (rfl) ?_
 refine Lo u35 (rfl) ?_
 refine Lo u35 (Zb (.inr rfl) rfl) ?_
 refine Zf (Zc (Zl ?_))
 refine W10 (.inr rfl) (Zi rfl rfl) ?_
 exact ⟨rfl, rfl⟩
theorem Width_spec {x : SW} (H : Ze) (w : BitVec 64) : F (psys x) 137 [.agg [iW w]] H fun v G => v = .int .i64 64 ∧ G = H := by
 refine Zr Tryd.func137 rfl u6 rfl ?_
 refine Zd (Za ?_)
 refine Lo u6 (Zy rfl rfl rfl) ?_
 refine Lo u6 (Zg (VVal.int .i64 0) (.inr rfl) rfl) ?_
 refine Zf (Zc (Zd (Za ?_)))
 refine Lo u6 ((rfl : vop _ _ _ _ = some (VVal.int .u64 (((0#64 : BitVec 64).toNat : Nat) : Int), _))) ?_
 refine Lo u6 (v_xorU rfl rfl) ?_
 refine Zn rfl rfl rfl (by exact Ones_all _) ?_
 rintro _ _ ⟨rfl, rfl⟩
 refine Le u6 ?_
 refine Lo u6 (Zb (.inr rfl) rfl) ?_
 refine Zf (Zc (Zl ?_))
 refine W10 (.inr rfl) (Zi rfl rfl) ?_
 exact ⟨rfl, rfl⟩
theorem within_spec {x : SW} (H : Ze) (w : BitVec 64) (i : Int) : F (psys x) 115 [.agg [iW w], iI i] H fun v G => v = .bool (decide (0 ≤ i ∧ i < 64)) ∧ G = H := by
 refine Zr Tryd.func115 rfl u13 rfl ?_
 refine Zd (Za ?_)
 refine Lo u13 (Zy rfl rfl rfl) ?_
 refine Lo u13 (Zg (VVal.bool false) (.inr rfl) rfl) ?_
 refine Zf (Zc (Zd (Za ?_)))
 refine Lo u13 (Zb (.inl rfl) rfl) ?_
 refine Lo u13 (rfl) ?_
 refine Lo u13 (Zb (.inl rfl) rfl) ?_
 refine ZL 7 (env1 := u13) (env2 := u13) rfl rfl rfl (fun hg1 => ?_) (fun hg1 => ?_)
 ·try simp only [qB] at hg1
  refine Lo u13 (Zb (.inl rfl) rfl) ?_
  refine Lo u13 (W11 rfl rfl rfl rfl rfl) ?_
  refine Zn rfl rfl rfl (by exact Width_spec _ _) ?_
  rintro _ _ ⟨rfl, rfl⟩
  refine Le u13 ?_
  refine Lo u13 (rfl) ?_
  refine Lo u13 (Zz rfl rfl rfl) ?_
  refine Lo u13 (Zb (.inr rfl) rfl) ?_
  refine Zf (Zc (Zl ?_))
  refine W10 (.inr rfl) (Zi rfl rfl) ?_
  exact ⟨by simp [*]; try omega, rfl⟩
 ·try simp only [qB] at hg1
  refine Lf u13 ?_
  refine Lf u13 ?_
  refine Lf u13 ?_
  refine Lf u13 ?_
  refine Lo u13 (ZN (VVal.bool false) rfl rfl rfl) ?_
  refine Lo u13 (Zb (.inr rfl) rfl) ?_
  refine Zf (Zc (Zl ?_))
  refine W10 (.inr rfl) (Zi rfl rfl) ?_
  exact ⟨by simp [*]; try omega, rfl⟩
theorem Has_spec {x : SW} (H : Ze) (w : BitVec 64) (i : Int) : F (psys x) 76 [.agg [iW w], iI i] H fun v G => v = .bool (decide (0 ≤ i ∧ i < 64) && w.getLsbD i.toNat) ∧ G = H := by
 refine Zr Tryd.func76 rfl u16 rfl ?_
 refine Zd (Za ?_)
 refine Lo u16 (Zy rfl rfl rfl) ?_
 refine Lo u16 (Zg (VVal.bool false) (.inr rfl) rfl) ?_
 refine Zf (Zc (Zd (Za ?_)))
 refine Lo u16 (W11 rfl rfl rfl rfl rfl) ?_
 refine Lo u16 (Zb (.inl rfl) rfl) ?_
 refine Zn rfl rfl rfl (by exact within_spec _ _ _) ?_
 rintro _ _ ⟨rfl, rfl⟩
 refine Le u16 ?_
 refine Lo u16 (Zb (.inl rfl) rfl) ?_
 refine ZL 8 (env1 := u16) (env2 := u16) rfl rfl rfl (fun hg1 => ?_) (fun hg1 => ?_)
 ·try simp only [qB] at hg1
  refine Lo u16 (rfl) ?_
  refine Lo u16 (W12 rfl rfl rfl rfl) ?_
  refine Lo u16 (Zb (.inl rfl) rfl) ?_
  refine Lo u16 (v_shrW rfl rfl rfl XH2) ?_
  refine Lo u16 (v_andW (b := 1#64) rfl rfl rfl) ?_
  refine Lo u16 (rfl) ?_
  refine Lo u16 (Zz rfl rfl rfl) ?_
  refine Lo u16 (Zb (.inr rfl) rfl) ?_
  refine Zf (Zc (Zl ?_))
  refine W10 (.inr rfl) (Zi rfl rfl) ?_
  exact ⟨by (first | exact (congrArg VVal.bool (by rw [decide_eq_true hg1, Bool.true_and, ← bit1, ← beq_wd1])) | (rw [decide_eq_false (by omega), Bool.false_and])), rfl⟩
 ·try simp only [qB] at hg1
  refine Lf u16 ?_
  refine Lf u16 ?_
  refine Lf u16 ?_
  refine Lf u16 ?_
  refine Lf u16 ?_
  refine Lf u16 ?_
  refine Lo u16 (ZN (VVal.bool false) rfl rfl rfl) ?_
  refine Lo u16 (Zb (.inr rfl) rfl) ?_
  refine Zf (Zc (Zl ?_))
  refine W10 (.inr rfl) (Zi rfl rfl) ?_
  exact ⟨by (first | exact (congrArg VVal.bool (by rw [decide_eq_true hg1, Bool.true_and, ← bit1, ← beq_wd1])) | (rw [decide_eq_false (by omega), Bool.false_and])), rfl⟩
theorem Of_spec {x : SW} (H : Ze) (w u : BitVec 64) : F (psys x) 80 [.agg [iW w], iW u] H fun v G => v = .agg [iW u] ∧ G = H := by
 refine Zr Tryd.func80 rfl u7 rfl ?_
 refine Zd (Za ?_)
 refine Lo u7 (Zy rfl rfl rfl) ?_
 refine Lo u7 (ZA rfl rfl) ?_
 refine Zf (Zc (Zd (Za ?_)))
 refine Lo u7 (Zb (.inl rfl) rfl) ?_
 refine Lo u7 (rfl) ?_
 refine Lo u7 (W13 rfl rfl rfl rfl rfl rfl rfl) ?_
 refine Zf (Zc (Zl ?_))
 refine W10 (.inr rfl) (Yz rfl rfl rfl rfl XH0 XH4) ?_
 exact ⟨rfl, rfl⟩
theorem below_spec {x : SW} (H : Ze) (w : BitVec 64) (i : Int) : F (psys x) 148 [.agg [iW w], iI i] H fun v G => v = iW (if i ≤ 0 then 0#64 else if 64 ≤ i then ~~~0#64 else 1#64 <<< i.toNat - 1#64) ∧ G = H := by
 refine Zr Tryd.func148 rfl u18 rfl ?_
 refine Zd (Za ?_)
 refine Lo u18 (Zy rfl rfl rfl) ?_
 refine Lo u18 (Zg (VVal.int .u64 0) (.inr rfl) rfl) ?_
 refine Zf (Zc (Zd (Zj (Zd (Za ?_)))))
 refine Lo u18 (Zb (.inl rfl) rfl) ?_
 refine Lo u18 (rfl) ?_
 refine Lo u18 (Zb (.inr rfl) rfl) ?_
 refine Zf (Zc ?_)
 refine Zo _ rfl (fun hc1 => ?_) (fun hc1 => ?_)
 ·try simp only [qB] at hc1
  refine Zd (Za ?_)
  refine Lo u18 (Zg (VVal.int .u64 0) (.inr rfl) rfl) ?_
  refine Zf (Zc (Zl (ZX (Zt ?_))))
  refine W10 (.inr rfl) (Zi rfl rfl) ?_
  exact ⟨by (first | rw [if_pos hc1]; rfl | rw [if_neg (by omega), if_pos (by omega)] | rw [if_neg (by omega), if_neg (by omega)]), rfl⟩
 ·try simp only [qB] at hc1
  refine Zd (Za ?_)
  refine Lo u18 (Zb (.inl rfl) rfl) ?_
  refine Lo u18 (W11 rfl rfl rfl rfl rfl) ?_
  refine Zn rfl rfl rfl (by exact Width_spec _ _) ?_
  rintro _ _ ⟨rfl, rfl⟩
  refine Le u18 ?_
  refine Lo u18 (rfl) ?_
  refine Lo u18 (Zb (.inr rfl) rfl) ?_
  refine Zf (Zc ?_)
  refine Zo _ rfl (fun hc2 => ?_) (fun hc2 => ?_)
  ·try simp only [qB] at hc2
   refine Zd (Za ?_)
   refine Lo u18 ((rfl : vop _ _ _ _ = some (VVal.int .u64 (((0#64 : BitVec 64).toNat : Nat) : Int), _))) ?_
   refine Lo u18 (v_xorU rfl rfl) ?_
   refine Lo u18 (Zb (.inr rfl) rfl) ?_
   refine Zf (Zc (Zl (ZX (Zt ?_))))
   refine W10 (.inr rfl) (Zi rfl rfl) ?_
   exact ⟨by (first | rw [if_pos hc1]; rfl | rw [if_neg (by omega), if_pos (by omega)] | rw [if_neg (by omega), if_neg (by omega)]), rfl⟩
  ·try simp only [qB] at hc2
   refine Zk (Zu (Zc (Zd (Za ?_))))
   refine Lo u18 (Zb (.inl rfl) rfl) ?_
   refine Lo u18 (v_shl1 rfl rfl rfl XH2) ?_
   refine Lo u18 (v_subW (b := 1#64) rfl rfl rfl) ?_
   refine Lo u18 (Zb (.inr rfl) rfl) ?_
   refine Zf (Zc (Zl ?_))
   refine W10 (.inr rfl) (Zi rfl rfl) ?_
   exact ⟨by (first | rw [if_pos hc1]; rfl | rw [if_neg (by omega), if_pos (by omega)] | rw [if_neg (by omega), if_neg (by omega)]), rfl⟩
theorem Next_spec {x : SW} (H : Ze) (w : BitVec 64) (i : Int) : F (psys x) 129 [.agg [iW w], iI i] H fun v G => v = iI (nx (w &&& ~~~bel i)) ∧ G = H := by
 refine Zr Tryd.func129 rfl u20 rfl ?_
 refine Zd (Za ?_)
 refine Lo u20 (Zy rfl rfl rfl) ?_
 refine Lo u20 (Zg (VVal.int .i64 0) (.inr rfl) rfl) ?_
 refine Zf (Zc (Zd (Za ?_)))
 refine Lo u20 (rfl) ?_
 refine Lo u20 (W12 rfl rfl rfl rfl) ?_
 refine Lo u20 (Zb (.inr rfl) rfl) ?_
 refine Zf (Zc (Zd (Zd (Za ?_))))
 refine Lo u20 (Zb (.inl rfl) rfl) ?_
 refine Lo u20 (rfl) ?_
 refine Zf (Zc ?_)
 refine Zo _ rfl (fun hc1 => ?_) (fun hc1 => ?_)
 ·try simp only [qB] at hc1
  refine ZW [0, 1, 2, 3, 4, 5, 6] #[0, 1, 0, 0, 12, 31, 63] XH6 XH6 XH6 ?_
  refine Oo u20 .calm rfl (rfl) ?_
  refine Yh (env' := u20) (x := .look _ _) rfl rfl rfl (W12 rfl rfl rfl rfl) rfl rfl rfl ?_
  refine Oo u20 .look rfl (W11 rfl rfl rfl rfl rfl) ?_
  refine Oo u20 .calm rfl (Zb (.inl rfl) rfl) ?_
  refine Yf (env' := u20) rfl rfl rfl rfl rfl (by exact below_spec _ _ _) XH9 rfl rfl ?_
  refine Oo u20 .calm rfl (v_andNotW rfl rfl rfl) ?_
  refine Oo u20 .calm rfl (Zb (.inr rfl) rfl) ?_
  refine Z3 [_] (by rfl) (And.intro (And.intro (W12 rfl rfl rfl rfl) (W12 rfl rfl rfl rfl)) trivial) ?_
  refine Zc (Zd (Zd (Za ?_)))
  refine Lo u20 (Zb (.inl rfl) rfl) ?_
  refine Lo u20 (rfl) ?_
  refine Zf (Zc ?_)
  refine Zo _ rfl (fun hc2 => ?_) (fun hc2 => ?_)
  ·try simp only [qB] at hc2
   refine Zd (Za ?_)
   refine Lo u20 (Zg (VVal.int .i64 (-1)) (.inr rfl) rfl) ?_
   refine Zf (Zc (Zl (Zt ?_)))
   refine W10 (.inr rfl) (Zi rfl rfl) ?_
   have hb : ¬ 0 < i → w &&& ~~~bel i = w := fun h => by rw [show bel i = 0#64 from if_pos (by omega), show ~~~0#64 = BitVec.allOnes 64 from rfl, BitVec.and_allOnes]
   exact ⟨by (first | (rw [show nx (w &&& ~~~bel i) = -1 from if_pos ‹_›]) | (rw [show nx (w &&& ~~~bel i) = _ from if_neg ‹_›]; rfl) | (rw [hb (by omega), show nx w = -1 from if_pos ‹_›]) | (rw [hb (by omega), show nx w = _ from if_neg ‹_›])), rfl⟩
  ·try simp only [qB] at hc2
   refine Zk (Zc (Zd (Za ?_)))
   refine Lo u20 (Zb (.inl rfl) rfl) ?_
   refine Zn rfl rfl rfl (by exact tz_spec _ _) ?_
   rintro _ _ ⟨rfl, rfl⟩
   refine Le u20 ?_
   refine Lo u20 (Zb (.inr rfl) rfl) ?_
   refine Zf (Zc (Zl ?_))
   refine W10 (.inr rfl) (Zi rfl rfl) ?_
   have hb : ¬ 0 < i → w &&& ~~~bel i = w := fun h => by rw [show bel i = 0#64 from if_pos (by omega), show ~~~0#64 = BitVec.allOnes 64 from rfl, BitVec.and_allOnes]
   exact ⟨by (first | (rw [show nx (w &&& ~~~bel i) = -1 from if_pos ‹_›]) | (rw [show nx (w &&& ~~~bel i) = _ from if_neg ‹_›]; rfl) | (rw [hb (by omega), show nx w = -1 from if_pos ‹_›]) | (rw [hb (by omega), show nx w = _ from if_neg ‹_›])), rfl⟩
 ·try simp only [qB] at hc1
  refine Zk (Zc (Zd (Zd (Za ?_))))
  refine Lo u20 (Zb (.inl rfl) rfl) ?_
  refine Lo u20 (rfl) ?_
  refine Zf (Zc ?_)
  refine Zo _ rfl (fun hc3 => ?_) (fun hc3 => ?_)
  ·try simp only [qB] at hc3
   refine Zd (Za ?_)
   refine Lo u20 (Zg (VVal.int .i64 (-1)) (.inr rfl) rfl) ?_
   refine Zf (Zc (Zl (Zt ?_)))
   refine W10 (.inr rfl) (Zi rfl rfl) ?_
   have hb : ¬ 0 < i → w &&& ~~~bel i = w := fun h => by rw [show bel i = 0#64 from if_pos (by omega), show ~~~0#64 = BitVec.allOnes 64 from rfl, BitVec.and_allOnes]
   exact ⟨by (first | (rw [show nx (w &&& ~~~bel i) = -1 from if_pos ‹_›]) | (rw [show nx (w &&& ~~~bel i) = _ from if_neg ‹_›]; rfl) | (rw [hb (by omega), show nx w = -1 from if_pos ‹_›]) | (rw [hb (by omega), show nx w = _ from if_neg ‹_›])), rfl⟩
  ·try simp only [qB] at hc3
   refine Zk (Zc (Zd (Za ?_)))
   refine Lo u20 (Zb (.inl rfl) rfl) ?_
   refine Zn rfl rfl rfl (by exact tz_spec _ _) ?_
   rintro _ _ ⟨rfl, rfl⟩
   refine Le u20 ?_
   refine Lo u20 (Zb (.inr rfl) rfl) ?_
   refine Zf (Zc (Zl ?_))
   refine W10 (.inr rfl) (Zi rfl rfl) ?_
   have hb : ¬ 0 < i → w &&& ~~~bel i = w := fun h => by rw [show bel i = 0#64 from if_pos (by omega), show ~~~0#64 = BitVec.allOnes 64 from rfl, BitVec.and_allOnes]
   exact ⟨by (first | (rw [show nx (w &&& ~~~bel i) = -1 from if_pos ‹_›]) | (rw [show nx (w &&& ~~~bel i) = _ from if_neg ‹_›]; rfl) | (rw [hb (by omega), show nx w = -1 from if_pos ‹_›]) | (rw [hb (by omega), show nx w = _ from if_neg ‹_›])), rfl⟩
theorem All_spec {x : SW} (H : Ze) (w : BitVec 64) : F (psys x) 101 [.agg [iW w]] H fun v G => v = .func 128 [] [.fptr [iW w] 0] ∧ G = H := by
 refine Zr Tryd.func101 rfl u4 rfl ?_
 refine Zd (Za ?_)
 refine Lo u4 (Zy rfl rfl rfl) ?_
 refine Lo u4 (Zg (VVal.nilFunc) (.inr rfl) rfl) ?_
 refine Zf (Zc (Zd (Za ?_)))
 refine Lo u4 (v_func [_] rfl rfl) ?_
 refine Lo u4 (Zb (.inr rfl) rfl) ?_
 refine Zf (Zc (Zl ?_))
 refine E_gh (.inr rfl) (Zi rfl rfl) (Gh.cap1 (BaseOk.refl _) (j := 0) rfl rfl) ?_
 exact ⟨rfl, rfl⟩
theorem All1_spec {x : SW} (w : BitVec 64) (l : Nat) (H : Ze) (R : Ze → Prop) (hI : Iter (psys x) l ((pl w 0).map cI) H R) : F (psys x) 128 ([.yield l] ++ [.fptr [iW w] 0]) H fun v G => R G := by
 refine Zr Tryd.func128 rfl u16 rfl ?_
 refine Zd (Za ?_)
 refine Lo u16 (W11 rfl rfl rfl rfl rfl) ?_
 refine Zn rfl rfl rfl (by exact Next_spec _ _ _) ?_
 rintro _ _ ⟨rfl, rfl⟩
 refine Le u16 ?_
 refine Lo u16 (Zb (.inr rfl) rfl) ?_
 refine Zf (Zc (Zj ?_))
 refine ZC (mk 16 65524) (env' := u16) rfl ?_
 refine ZJ (fun (⟨i, xs⟩ : Int × List Nat) => xs.length) (fun (⟨i, xs⟩ : Int × List Nat) => [(3, iI i)]) (fun (⟨i, xs⟩ : Int × List Nat) G => (Iter (psys x) l (xs.map cI) G R ∧ ((i = -1 ∧ xs = []) ∨ ∃ c : Nat, i = c ∧ c < 64 ∧ xs = c :: pl w (c + 1))) ∧ True) ⟨_, pl w 0⟩ rfl ?_ ?_
 ·refine ⟨?_, trivial⟩
  exact ⟨by simpa using hI, pl_next' w 0⟩
 rintro ⟨i, xs⟩ G ⟨⟨hI, hx⟩, _⟩
 refine ZU (env' := u16) rfl ?_
 refine Zd (Zd (Za ?_))
 refine Lo u16 (Zb (.inl rfl) rfl) ?_
 refine Lo u16 (rfl) ?_
 refine Zf (Zc ?_)
 refine Zo _ rfl (fun hc1 => ?_) (fun hc1 => ?_)
 ·try simp only [qB] at hc1
  obtain ⟨c, rfl, hc, rfl⟩ : ∃ c : Nat, i = c ∧ c < 64 ∧ xs = c :: pl w (c + 1) := by
        rcases hx with ⟨e, _⟩ | h
        · omega
        · exact h
  refine Zk (Zc (Zd (Zj (Zd (Za ?_)))))
  refine Lo u16 (Zb (.inl rfl) rfl) ?_
  refine Lo u16 (Zb (.inl rfl) rfl) ?_
  refine L_callV rfl rfl rfl (by exact hI) ?_
  rintro _ G1 ⟨t, rfl, hrest⟩
  refine Le u16 ?_
  refine Lo u16 (rfl) ?_
  refine Zf (Zc ?_)
  refine Zo _ rfl (fun hc2 => ?_) (fun hc2 => ?_)
  ·try simp only [qB] at hc2
   have ht : t = false := by simpa using hc2
   subst ht
   have hR : R G1 := by simpa using hrest
   refine Zl (ZX (Zt (Y2 (ZX ?_))))
   refine YG (.inr rfl) (Y0 rfl) ?_
   exact hR
  ·try simp only [qB] at hc2
   have ht : t = true := by simpa using hc2
   subst ht
   have hrest : Iter (psys x) l ((pl w (c + 1)).map cI) G1 R := by simpa using hrest
   refine Zk (Zu (Zc (Za ?_)))
   refine Lo u16 (W11 rfl rfl rfl rfl rfl) ?_
   refine Lo u16 (Zb (.inl rfl) rfl) ?_
   refine Lo u16 (W14 rfl rfl rfl) ?_
   refine Zn rfl rfl rfl (by exact Next_spec _ _ _) ?_
   rintro _ _ ⟨rfl, rfl⟩
   refine Le u16 ?_
   refine Lo u16 (Zb (.inr rfl) rfl) ?_
   refine Zf ?_
   refine ZD (mk 16 65524) (env' := u16) rfl ⟨⟨_, pl w (c + 1)⟩, ?_, rfl, ?_⟩
   ·simp
   ·exact ⟨⟨hrest, pl_next' w (c + 1)⟩, trivial⟩
 ·try simp only [qB] at hc1
  obtain ⟨rfl, rfl⟩ : i = -1 ∧ xs = [] := by
        rcases hx with h | ⟨c, rfl, _⟩
        · exact h
        · omega
  have hR : R G := hI
  refine ZP (ZR (ZH (ZO ?_)))
  refine YG (.inl rfl) (Y0 rfl) ?_
  exact hR
open Go Go.V Go.RowKit
abbrev u9 {a0 a1 a2 a3 a4 a5 a6 a7 a8 : VVal} : VEnv := a0 :: a1 :: a2 :: a3 :: a4 :: a5 :: a6 :: a7 :: a8 :: []
abbrev u75 {a0 a1 a2 a3 a4 a5 a6 a7 a8 a9 a10 a11 a12 a13 a14 a15 a16 a17 a18 a19 a20 a21 a22 a23 a24 a25 a26 a27 a28 a29 a30 a31 a32 a33 a34 a35 a36 a37 a38 a39 a40 a41 a42 a43 a44 a45 a46 a47 a48 a49 a50 a51 a52 a53 a54 a55 a56 a57 a58 a59 a60 a61 a62 a63 a64 a65 a66 a67 a68 a69 a70 a71 a72 a73 a74 : VVal} : VEnv := a0 :: a1 :: a2 :: a3 :: a4 :: a5 :: a6 :: a7 :: a8 :: a9 :: a10 :: a11 :: a12 :: a13 :: a14 :: a15 :: a16 :: a17 :: a18 :: a19 :: a20 :: a21 :: a22 :: a23 :: a24 :: a25 :: a26 :: a27 :: a28 :: a29 :: a30 :: a31 :: a32 :: a33 :: a34 :: a35 :: a36 :: a37 :: a38 :: a39 :: a40 :: a41 :: a42 :: a43 :: a44 :: a45 :: a46 :: a47 :: a48 :: a49 :: a50 :: a51 :: a52 :: a53 :: a54 :: a55 :: a56 :: a57 :: a58 :: a59 :: a60 :: a61 :: a62 :: a63 :: a64 :: a65 :: a66 :: a67 :: a68 :: a69 :: a70 :: a71 :: a72 :: a73 :: a74 :: []
theorem W16 {P : Prop} (h : P := by first | (exfalso; omega) | exact ⟨by rw [rcE_1 (rck_fit XH32)], rfl⟩ | exact ⟨by rw [rcE_1 (rck_rise (rise_bad (k := k) (by omega) (by first | exact .inl (by assumption) | exact .inr (by assumption) | omega)))], rfl⟩ | exact ⟨by rw [rcE_1 (rck_knd (by first | exact knd_d (by omega) | exact (knd_a (by omega)).trans (decide_eq_false (by omega)) | exact (knd_b (by omega)).trans (decide_eq_false (by omega)) | exact (knd_c (by omega)).trans (decide_eq_false (by omega))))], rfl⟩ | exact ⟨by rw [rcE_0 (rck_ok (by omega) hrs (by first | exact (knd_a (by omega)).trans (decide_eq_true (by omega)) | exact (knd_b (by omega)).trans (decide_eq_true (by omega)) | exact (knd_c (by omega)).trans (decide_eq_true (by omega))))], rfl⟩) : P := h
theorem W18 {T : TypeId → Option VTy} {H : Ze} {op : Op} {ρ : Operand → VVal} {t e : TypeId} {x i : Operand} {y z : VTy} {k : IntKind} {n : Int} {p v : VVal} {es : Nat} (ho : op = .indexAddr t x i) (hx : ρ x = p) (hi : ρ i = .int k n) (hy : T t = some y) (hd : y.desc = .slice e) (hz : T e = some z) (hs : z.size = es) (h : IxOk p es n v := by first | exact .inl ⟨_, _, _, rfl, XH57, rfl⟩ | exact .inr ⟨_, _, _, _, _, rfl, XH57, rfl⟩) : vop T ρ H op = some (v, H) := v_ix ho hx hi hy hd hz hs h
abbrev rlB (r : Rul) : List VVal := [iI r.kind, iI r.k, fzI r.steps]
abbrev r0 : Rul := (0, 0, [], ())
def fzR (l : List Rul) : VVal := .fsl (l.flatMap rlB) l.length 3 false
abbrev pbB (p : Pb) : List VVal := [iI p.users, fzW p.who, fzI p.fixed, fzR p.rules]
theorem rul_at {l : List Rul} {n : Int} (h : 0 ≤ n ∧ n < l.length) : Zs (l.flatMap rlB) (n.toNat * 3) 3 = some (rlB (l.getD n.toNat r0)) := fm_nat (f := rlB) (m := 3) (fun _ => rfl) l n.toNat r0 (by omega)
theorem rise_ok {n : Int} {l : List Int} {k : Nat} (hk : k < l.length) (h1 : rise n (l.take k) = true) (h2 : lst1 (-1) (l.take k) < l.getD k 0) (h3 : l.getD k 0 < n) : rise n (l.take (k + 1)) = true := by
  rw [Yx (d := 0) hk, rise, riseA_app, show Y3 n (-1) (l.take k) = true from h1, Bool.true_and, decide_eq_true_eq]; omega
theorem rise_bad {n : Int} {l : List Int} {k : Nat} (hk : k < l.length) (h : l.getD k 0 ≤ lst1 (-1) (l.take k) ∨ n ≤ l.getD k 0) : rise n l = false := by
  have e : l = l.take (k + 1) ++ l.drop (k + 1) := (List.take_append_drop _ _).symm
  rw [e, rise, riseA_split, Yx hk, riseA_app]
  rw [show decide (lst1 (-1) (l.take k) < l.getD k 0 ∧ l.getD k 0 < n) = false from decide_eq_false (by omega), Bool.and_false, Bool.false_and]
theorem rise_last {l : List Int} {k : Nat} (hk : k < l.length) : lst1 (-1) (l.take (k + 1)) = l.getD k 0 := by rw [Yx (d := 0) hk, lst1_app]
abbrev rcE (n : Int) (r : Rul) : Int := if rck n r = true then 0 else 1
theorem rck_fit {n : Int} {r : Rul} (h : ¬ (0 ≤ n ∧ n ≤ 12)) : rck n r = false := by unfold rck; rw [decide_eq_false h, Bool.false_and]
theorem rck_rise {n : Int} {r : Rul} (h : rise n r.steps = false) : rck n r = false := by unfold rck; rw [h, Bool.false_and, Bool.and_false]
theorem rck_knd {n : Int} {r : Rul} (h : knd r = false) : rck n r = false := by unfold rck; rw [h, Bool.and_false, Bool.and_false]
theorem rck_ok {n : Int} {r : Rul} (h : 0 ≤ n ∧ n ≤ 12) (h2 : rise n r.steps = true) (h3 : knd r = true) : rck n r = true := by unfold rck; rw [decide_eq_true h, h2, h3]; rfl
theorem rcE_0 {n : Int} {r : Rul} (h : rck n r = true) : rcE n r = 0 := if_pos h
theorem rcE_1 {n : Int} {r : Rul} (h : rck n r = false) : rcE n r = 1 := if_neg (by rw [h]; decide)
theorem knd_a {r : Rul} (h : r.kind = 1 ∨ r.kind = 2) : knd r = decide (r.k = 0 ∧ 2 ≤ r.steps.length) := if_pos h
theorem knd_b {r : Rul} (h : r.kind = 3 ∨ r.kind = 4) : knd r = decide ((1 ≤ r.k ∧ r.k ≤ 999999999) ∧ 1 ≤ r.steps.length) := by unfold knd; rw [if_neg (by omega), if_pos h]
theorem knd_c {r : Rul} (h : r.kind = 5) : knd r = decide (1 ≤ r.k ∧ r.k ≤ r.steps.length) := by unfold knd; rw [if_neg (by omega), if_neg (by omega), if_pos h]
theorem knd_d {r : Rul} (h : ¬ (1 ≤ r.kind ∧ r.kind ≤ 5)) : knd r = false := by unfold knd; rw [if_neg (by omega), if_neg (by omega), if_neg (by omega)]
def ds (L : List Int) : List Int := L.foldl (fun d x => if x ∈ d then d else d ++ [x]) []
theorem ds_app {L : List Int} {x : Int} : ds (L ++ [x]) = if x ∈ ds L then ds L else ds L ++ [x] := by unfold ds; rw [List.foldl_append]; rfl
theorem mem_ds {x : Int} (L : List Int) : x ∈ ds L ↔ x ∈ L := by
  refine rev_ind (P := fun L => ∀ x, x ∈ ds L ↔ x ∈ L) (fun x => Iff.rfl) (fun L y ih x => ?_) L x
  rw [ds_app]
  split
  · rename_i h
    rw [ih, List.mem_append, List.mem_singleton]
    constructor
    · exact .inl
    · rintro (h' | rfl)
      · exact h'
      · exact (ih _).1 h
  · rw [List.mem_append, List.mem_append, ih]
theorem nd_ds (L : List Int) : (ds L).Nodup := by
  refine rev_ind (P := fun L => (ds L).Nodup) List.nodup_nil (fun L y ih => ?_) L
  rw [ds_app]
  split
  · exact ih
  · rename_i h
    rw [List.nodup_append]
    exact ⟨ih, by simp, fun a ha b hb e => h (by rw [List.mem_singleton] at hb; subst hb; subst e; exact ha)⟩
theorem len_ds (L : List Int) : (ds L).length = uq L := by
  refine rev_ind (P := fun L => (ds L).length = uq L) rfl (fun L y ih => ?_) L
  rw [ds_app, uq_app, ← ih]
  by_cases h : y ∈ L
  · rw [if_pos ((mem_ds L).2 h), if_pos h]; rfl
  · rw [if_neg (fun e => h ((mem_ds L).1 e)), if_neg h, List.length_append]; rfl
def cnM (L : List Int) : List (VVal × VVal) := (ds L).map fun y => (iI y, iI (L.count y : Nat))
theorem cnM_len (L : List Int) : (cnM L).length = uq L := by unfold cnM; rw [List.length_map, len_ds]
theorem mget_map {x : Int} {f : Int → VVal} : ∀ d : List Int, mget (iI x) (d.map fun y => (iI y, f y)) = some (if x ∈ d then some (f x) else none)
  | [] => rfl
  | y :: d => by
    rw [List.map_cons]
    simp only [mget, keyEq, if_true]
    by_cases e : x = y
    · subst e; simp
    · rw [show (x == y) = false from by simp [e], mget_map d]
      simp [e]
theorem mput_map {x : Int} {v : VVal} {f : Int → VVal} : ∀ d : List Int, d.Nodup → mput (iI x) v (d.map fun y => (iI y, f y)) = (if x ∈ d then d else d ++ [x]).map fun y => (iI y, if y = x then v else f y)
  | [], _ => by simp [mput]
  | y :: d, h => by
    rw [List.nodup_cons] at h
    rw [List.map_cons]
    simp only [mput, keyEq, if_true]
    by_cases e : x = y
    · subst e
      have : (d.map fun y => (iI y, f y)) = d.map fun y => (iI y, if y = x then v else f y) := List.map_congr_left fun y hy => by rw [if_neg (fun e => h.1 (by rw [← e]; exact hy))]
      simp [this]
    · rw [show (x == y) = false from by simp [e], mput_map d h.2]
      have e' : ¬ y = x := fun k => e k.symm
      by_cases hd : x ∈ d <;> simp [hd, e, e']
theorem cn_get {L : List Int} {x : Int} : mget (iI x) (cnM L) = some (if x ∈ L then some (iI (L.count x : Nat)) else none) := by
  unfold cnM; rw [mget_map]
  by_cases h : x ∈ L
  · rw [if_pos h, if_pos ((mem_ds L).2 h)]
  · rw [if_neg h, if_neg (fun e => h ((mem_ds L).1 e))]
theorem cn_get' {L : List Int} {x : Int} : ((if x ∈ L then some (iI (L.count x : Nat)) else none).getD (iI 0)) = iI (L.count x : Nat) := by
  by_cases h : x ∈ L
  · rw [if_pos h]; rfl
  · rw [if_neg h, List.count_eq_zero.2 h]; rfl
theorem cn_put {L : List Int} {x : Int} : mput (iI x) (iI ((L.count x : Nat) + 1)) (cnM L) = cnM (L ++ [x]) := by
  unfold cnM
  rw [mput_map _ (nd_ds L), ds_app]
  apply List.map_congr_left
  intro y hy
  rw [List.count_append, List.count_singleton]
  by_cases e : y = x
  · subst e; simp
  · rw [if_neg e]
    have e' : ¬ x = y := fun k => e k.symm
    simp [e']
theorem v_lookI {T : TypeId → Option VTy} {ρ : Operand → VVal} {H : Ze} {op : Op} {t kt et : TypeId} {x k : Operand} {y z kz : VTy} {b : Nat} {n : Int} {es : List (VVal × VVal)} {o : Option VVal} {u : VVal} (ho : op = .lookup t x k false) (hx : ρ x = .map (some b)) (hk : ρ k = iI n) (hy : T t = some y) (hd : y.desc = .map kt et) (hz : T et = some z) (hk1 : T kt = some kz) (hk2 : kz.desc = .int .i64) (ha : Zm z.desc = false) (hz0 : z.zero = [iI 0])
    (hb : H[b]? = some (.map es)) (hg : mget (iI n) es = some o) (hu : o.getD (iI 0) = u) : vop T ρ H op = some (u, H) := by
  rw [ho]
  simp only [vop, vlookup, hx, hk, hy, hd, hz, hb, keyOk, hk1, hk2, hz0, ha]
  rw [if_pos ⟨by rfl, .inr rfl⟩]
  rw [hg, ← hu]
  cases o <;> rfl
theorem v_mupdI {T : TypeId → Option VTy} {ρ : Operand → VVal} {H H' : Ze} {op : Op} {t kt et : TypeId} {x k w : Operand} {y kz : VTy} {b : Nat} {n : Int} {es : List (VVal × VVal)} {o : Option VVal} {v : VVal} (ho : op = .mapUpdate t x k w) (hx : ρ x = .map (some b)) (hk : ρ k = iI n) (hw : ρ w = v) (hy : T t = some y) (hd : y.desc = .map kt et) (hk1 : T kt = some kz) (hk2 : kz.desc = .int .i64)
    (hb : H[b]? = some (.map es)) (hg : mget (iI n) es = some o) (hH : H.set b (.map (mput (iI n) v es)) = H') : vop T ρ H op = some (.skip, H') := by
  rw [ho]
  simp only [vop, vmapUpdate, hx, hk, hw, hy, hd, hb, keyOk, hk1, hk2]
  rw [if_pos (by rfl), hg]
  simp [hH]
theorem rfits_spec {x : SW} (H : Ze) (n : Int) : F (psys x) 82 [iI n] H fun v G => v = .bool (decide (0 ≤ n ∧ n ≤ 12)) ∧ G = H := by
 refine Zr Tryd.func82 rfl u9 rfl ?_
 refine Zd (Za ?_)
 refine Lo u9 (Zg (VVal.bool false) (.inr rfl) rfl) ?_
 refine Zf (Zc (Zd (Za ?_)))
 refine Lo u9 (Zb (.inl rfl) rfl) ?_
 refine Lo u9 (rfl) ?_
 refine Lo u9 (Zb (.inl rfl) rfl) ?_
 refine ZL 5 (env1 := u9) (env2 := u9) rfl rfl rfl (fun hg1 => ?_) (fun hg1 => ?_)
 ·try simp only [qB] at hg1
  refine Lo u9 (Zb (.inl rfl) rfl) ?_
  refine Lo u9 (rfl) ?_
  refine Lo u9 (Zz rfl rfl rfl) ?_
  refine Lo u9 (Zb (.inr rfl) rfl) ?_
  refine Zf (Zc (Zl ?_))
  refine W10 (.inr rfl) (Zi rfl rfl) ?_
  exact ⟨by simp [*]; try omega, rfl⟩
 ·try simp only [qB] at hg1
  refine Lf u9 ?_
  refine Lf u9 ?_
  refine Lo u9 (ZN (VVal.bool false) rfl rfl rfl) ?_
  refine Lo u9 (Zb (.inr rfl) rfl) ?_
  refine Zf (Zc (Zl ?_))
  refine W10 (.inr rfl) (Zi rfl rfl) ?_
  exact ⟨by simp [*]; try omega, rfl⟩
theorem rCheck_spec {x : SW} (H : Ze) (n : Int) (r : Rul) (hl : r.steps.length ≤ 1000000) : F (psys x) 50 [iI n, .agg (rlB r)] H fun v G => v = iI (rcE n r) ∧ G = H := by
 refine Zr Tryd.func50 rfl u75 rfl ?_
 refine Zd (Za ?_)
 refine Lo u75 (Zy rfl rfl rfl) ?_
 refine Lo u75 (Zg (VVal.int .i64 0) (.inr rfl) rfl) ?_
 refine Zf (Zc (Zd (Zd (Za ?_))))
 refine Lo u75 (Zb (.inl rfl) rfl) ?_
 refine Zn rfl rfl rfl (by exact rfits_spec _ _) ?_
 rintro _ _ ⟨rfl, rfl⟩
 refine Le u75 ?_
 refine Lo u75 (rfl) ?_
 refine Zf (Zc ?_)
 refine Zo _ rfl (fun hc1 => ?_) (fun hc1 => ?_)
 ·try simp only [qB] at hc1
  refine Zd (Za ?_)
  refine Lo u75 (Zg (VVal.int .i64 1) (.inr rfl) rfl) ?_
  refine Zf (Zc (Zl (Zt ?_)))
  refine W10 (.inr rfl) (Zi rfl rfl) ?_
  exact W16
 ·try simp only [qB] at hc1
  refine Zk (Zc (Zd (Za ?_)))
  refine Lo u75 (Zg (VVal.int .i64 (-1)) (.inr rfl) rfl) ?_
  refine Zf (Zc (Zd (Zd (Za ?_))))
  refine Lo u75 (rfl) ?_
  refine Lo u75 (W12 rfl rfl rfl rfl) ?_
  refine Lo u75 (rfl) ?_
  refine Lo u75 (Zg (VVal.int .i64 0) (.inl rfl) rfl) ?_
  refine Zf (Zc (Zj ?_))
  refine ZC (mk 75 37778931862957161652182) (env' := u75) rfl ?_
  refine ZJ (fun (k : Nat) => r.steps.length - k) (fun (k : Nat) => [(5, iI (lst1 (-1) (r.steps.take k))), (15, iI (k : Nat))]) (fun (k : Nat) G => (k ≤ r.steps.length ∧ rise n (r.steps.take k) = true) ∧ G = H ++ [.cells (rlB r) true]) 0 rfl ?_ ?_
  ·refine ⟨?_, rfl⟩
   exact ⟨Nat.zero_le _, rfl⟩
  rintro k _ ⟨⟨hk, hr⟩, rfl⟩
  refine ZU (env' := u75) rfl ?_
  refine Zd (Za ?_)
  refine Lo u75 (rfl) ?_
  refine Zf (Zc (Zd ?_))
  refine Zo _ rfl (fun hc2 => ?_) (fun hc2 => ?_)
  ·try simp only [qB] at hc2
   refine Zk (Zc (Zd (Zj (Zd (Za ?_)))))
   refine Lo u75 (W18 rfl rfl rfl rfl rfl rfl rfl) ?_
   refine Lo u75 (W12 rfl rfl rfl rfl) ?_
   refine Lo u75 (Zb (.inr rfl) rfl) ?_
   refine Zf (Zc (Zd (Zd (Za ?_))))
   refine Lo u75 (Zb (.inl rfl) rfl) ?_
   refine Lo u75 (Zb (.inl rfl) rfl) ?_
   refine Lo u75 (rfl) ?_
   refine Lo u75 (Zb (.inl rfl) rfl) ?_
   refine ZL 22 (env1 := u75) (env2 := u75) rfl rfl rfl (fun hg3 => ?_) (fun hg3 => ?_)
   ·try simp only [qB] at hg3
    refine Lf u75 ?_
    refine Lf u75 ?_
    refine Lf u75 ?_
    refine Lo u75 (ZY (VVal.bool true) rfl rfl rfl) ?_
    refine Zf (Zc ?_)
    refine Z0 rfl rfl ?_
    refine Zd (Za ?_)
    refine Lo u75 (Zg (VVal.int .i64 1) (.inr rfl) rfl) ?_
    refine Zf (Zc (Zl (Zt (ZX (Zt (Y2 (ZX (Zt ?_))))))))
    refine W10 (.inr rfl) (Zi rfl rfl) ?_
    exact W16
   ·try simp only [qB] at hg3
    refine Lo u75 (Zb (.inl rfl) rfl) ?_
    refine Lo u75 (Zb (.inl rfl) rfl) ?_
    refine Lo u75 (rfl) ?_
    refine Lo u75 (ZQ rfl rfl rfl) ?_
    refine Zf (Zc ?_)
    refine Zo _ rfl (fun hc4 => ?_) (fun hc4 => ?_)
    ·try simp only [qB] at hc4
     refine Zd (Za ?_)
     refine Lo u75 (Zg (VVal.int .i64 1) (.inr rfl) rfl) ?_
     refine Zf (Zc (Zl (Zt (ZX (Zt (Y2 (ZX (Zt ?_))))))))
     refine W10 (.inr rfl) (Zi rfl rfl) ?_
     exact W16
    ·try simp only [qB] at hc4
     refine Zk (Zc (Za ?_))
     refine Lo u75 (Zb (.inl rfl) rfl) ?_
     refine Lo u75 (Zb (.inr rfl) rfl) ?_
     refine Zf (Zu (Zc (Za ?_)))
     refine Lo u75 (W14 rfl rfl rfl) ?_
     refine Lo u75 (Zb (.inl rfl) rfl) ?_
     refine Zf ?_
     refine ZD (mk 75 37778931862957161652182) (env' := u75) rfl ⟨k + 1, ?_, (by rw [rise_last (by omega)]; rfl), ?_⟩
     ·first | omega | (simp only []; omega)
     ·exact ⟨⟨by omega, rise_ok (by omega) hr hg3 hc4⟩, rfl⟩
  ·try simp only [qB] at hc2
   refine ZP (ZR (ZH (ZO (Zc (Zd ?_)))))
   have hrs : rise n r.steps = true := by rw [List.take_of_length_le (by omega)] at hr; exact hr
   refine Za ?_
   refine Lo u75 (Zg (VVal.bool false) (.inr rfl) rfl) ?_
   refine Zf (Zc (Zd (Zd (Za ?_))))
   refine Lo u75 (rfl) ?_
   refine Lo u75 (W12 rfl rfl rfl rfl) ?_
   refine Zf (Zc (Zj (Zd (Zd (Za ?_)))))
   refine Lo u75 (rfl) ?_
   refine Lo u75 (Zb (.inr rfl) rfl) ?_
   refine Zf (Zc ?_)
   refine Zo _ rfl (fun hc5 => ?_) (fun hc5 => ?_)
   ·try simp only [qB] at hc5
    refine Zk (Zc ?_)
    refine Zo _ rfl (fun hc6 => ?_) (fun hc6 => ?_)
    ·try simp only [qB] at hc6
     refine Za ?_
     refine Lo u75 (rfl) ?_
     refine Lo u75 (W12 rfl rfl rfl rfl) ?_
     refine Lo u75 (rfl) ?_
     refine Lo u75 (Zb (.inl rfl) rfl) ?_
     refine ZL 37 (env1 := u75) (env2 := u75) rfl rfl rfl (fun hg7 => ?_) (fun hg7 => ?_)
     ·try simp only [qB] at hg7
      refine Lo u75 (rfl) ?_
      refine Lo u75 (W12 rfl rfl rfl rfl) ?_
      refine Lo u75 (rfl) ?_
      refine Lo u75 (rfl) ?_
      refine Lo u75 (Zz rfl rfl rfl) ?_
      refine Lo u75 (Zb (.inr rfl) rfl) ?_
      refine Zf (Zu (Zc (Zd (Zd (Za ?_)))))
      refine Lo u75 (Zb (.inl rfl) rfl) ?_
      refine Lo u75 (rfl) ?_
      refine Zf (Zc ?_)
      refine Zo _ rfl (fun hc8 => ?_) (fun hc8 => ?_)
      ·try simp only [qB] at hc8
       refine Zd (Za ?_)
       refine Lo u75 (Zg (VVal.int .i64 1) (.inr rfl) rfl) ?_
       refine Zf (Zc (Zl (Zt ?_)))
       refine W10 (.inr rfl) (Zi rfl rfl) ?_
       exact W16
      ·try simp only [qB] at hc8
       refine Zk (Zc (Zd (Za ?_)))
       refine Lo u75 (Zg (VVal.int .i64 0) (.inr rfl) rfl) ?_
       refine Zf (Zc (Zl ?_))
       refine W10 (.inr rfl) (Zi rfl rfl) ?_
       exact W16
     ·try simp only [qB] at hg7
      refine Lf u75 ?_
      refine Lf u75 ?_
      refine Lf u75 ?_
      refine Lf u75 ?_
      refine Lo u75 (ZN (VVal.bool false) rfl rfl rfl) ?_
      refine Lo u75 (Zb (.inr rfl) rfl) ?_
      refine Zf (Zu (Zc (Zd (Zd (Za ?_)))))
      refine Lo u75 (Zb (.inl rfl) rfl) ?_
      refine Lo u75 (rfl) ?_
      refine Zf (Zc ?_)
      refine Z0 rfl rfl ?_
      refine Zd (Za ?_)
      refine Lo u75 (Zg (VVal.int .i64 1) (.inr rfl) rfl) ?_
      refine Zf (Zc (Zl (Zt ?_)))
      refine W10 (.inr rfl) (Zi rfl rfl) ?_
      exact W16
    ·try simp only [qB] at hc6
     refine Zd (Zd (Za ?_))
     refine Lo u75 (rfl) ?_
     refine Lo u75 (Zb (.inr rfl) rfl) ?_
     refine Zf (Zc ?_)
     refine Zo _ rfl (fun hc9 => ?_) (fun hc9 => ?_)
     ·try simp only [qB] at hc9
      refine Zk (Zc ?_)
      refine Zo _ rfl (fun hc10 => ?_) (fun hc10 => ?_)
      ·try simp only [qB] at hc10
       refine Za ?_
       refine Lo u75 (rfl) ?_
       refine Lo u75 (W12 rfl rfl rfl rfl) ?_
       refine Lo u75 (rfl) ?_
       refine Lo u75 (Zb (.inl rfl) rfl) ?_
       refine ZL 49 (env1 := u75) (env2 := u75) rfl rfl rfl (fun hg11 => ?_) (fun hg11 => ?_)
       ·try simp only [qB] at hg11
        refine Lo u75 (rfl) ?_
        refine Lo u75 (W12 rfl rfl rfl rfl) ?_
        refine Lo u75 (rfl) ?_
        refine Lo u75 (Zz rfl rfl rfl) ?_
        refine Lo u75 (Zb (.inl rfl) rfl) ?_
        refine ZL 54 (env1 := u75) (env2 := u75) rfl rfl rfl (fun hg12 => ?_) (fun hg12 => ?_)
        ·try simp only [qB] at hg12
         refine Lo u75 (rfl) ?_
         refine Lo u75 (W12 rfl rfl rfl rfl) ?_
         refine Lo u75 (rfl) ?_
         refine Lo u75 (rfl) ?_
         refine Lo u75 (Zz rfl rfl rfl) ?_
         refine Lo u75 (Zb (.inr rfl) rfl) ?_
         refine Zf (Zu (Zc (Zd (Zd (Za ?_)))))
         refine Lo u75 (Zb (.inl rfl) rfl) ?_
         refine Lo u75 (rfl) ?_
         refine Zf (Zc ?_)
         refine Zo _ rfl (fun hc13 => ?_) (fun hc13 => ?_)
         ·try simp only [qB] at hc13
          refine Zd (Za ?_)
          refine Lo u75 (Zg (VVal.int .i64 1) (.inr rfl) rfl) ?_
          refine Zf (Zc (Zl (Zt ?_)))
          refine W10 (.inr rfl) (Zi rfl rfl) ?_
          exact W16
         ·try simp only [qB] at hc13
          refine Zk (Zc (Zd (Za ?_)))
          refine Lo u75 (Zg (VVal.int .i64 0) (.inr rfl) rfl) ?_
          refine Zf (Zc (Zl ?_))
          refine W10 (.inr rfl) (Zi rfl rfl) ?_
          exact W16
        ·try simp only [qB] at hg12
         refine Lf u75 ?_
         refine Lf u75 ?_
         refine Lf u75 ?_
         refine Lf u75 ?_
         refine Lo u75 (ZN (VVal.bool false) rfl rfl rfl) ?_
         refine Lo u75 (Zb (.inr rfl) rfl) ?_
         refine Zf (Zu (Zc (Zd (Zd (Za ?_)))))
         refine Lo u75 (Zb (.inl rfl) rfl) ?_
         refine Lo u75 (rfl) ?_
         refine Zf (Zc ?_)
         refine Z0 rfl rfl ?_
         refine Zd (Za ?_)
         refine Lo u75 (Zg (VVal.int .i64 1) (.inr rfl) rfl) ?_
         refine Zf (Zc (Zl (Zt ?_)))
         refine W10 (.inr rfl) (Zi rfl rfl) ?_
         exact W16
       ·try simp only [qB] at hg11
        refine Lf u75 ?_
        refine Lf u75 ?_
        refine Lf u75 ?_
        refine Lo u75 (ZN (VVal.bool false) rfl rfl rfl) ?_
        refine Lo u75 (Zb (.inl rfl) rfl) ?_
        refine Lf u75 ?_
        refine Lf u75 ?_
        refine Lf u75 ?_
        refine Lf u75 ?_
        refine Lo u75 (ZN (VVal.bool false) rfl rfl rfl) ?_
        refine Lo u75 (Zb (.inr rfl) rfl) ?_
        refine Zf (Zu (Zc (Zd (Zd (Za ?_)))))
        refine Lo u75 (Zb (.inl rfl) rfl) ?_
        refine Lo u75 (rfl) ?_
        refine Zf (Zc ?_)
        refine Z0 rfl rfl ?_
        refine Zd (Za ?_)
        refine Lo u75 (Zg (VVal.int .i64 1) (.inr rfl) rfl) ?_
        refine Zf (Zc (Zl (Zt ?_)))
        refine W10 (.inr rfl) (Zi rfl rfl) ?_
        exact W16
      ·try simp only [qB] at hc10
       refine Zd (Za ?_)
       refine Lo u75 (rfl) ?_
       refine Lo u75 (Zb (.inr rfl) rfl) ?_
       refine Zf (Zc ?_)
       refine Zo _ rfl (fun hc14 => ?_) (fun hc14 => ?_)
       ·try simp only [qB] at hc14
        refine Za ?_
        refine Lo u75 (rfl) ?_
        refine Lo u75 (W12 rfl rfl rfl rfl) ?_
        refine Lo u75 (rfl) ?_
        refine Lo u75 (Zb (.inl rfl) rfl) ?_
        refine ZL 65 (env1 := u75) (env2 := u75) rfl rfl rfl (fun hg15 => ?_) (fun hg15 => ?_)
        ·try simp only [qB] at hg15
         refine Lo u75 (rfl) ?_
         refine Lo u75 (W12 rfl rfl rfl rfl) ?_
         refine Lo u75 (rfl) ?_
         refine Lo u75 (W12 rfl rfl rfl rfl) ?_
         refine Lo u75 (rfl) ?_
         refine Lo u75 (rfl) ?_
         refine Lo u75 (Zz rfl rfl rfl) ?_
         refine Lo u75 (Zb (.inr rfl) rfl) ?_
         refine Zf (Zu (Zc (Zd (Zd (Za ?_)))))
         refine Lo u75 (Zb (.inl rfl) rfl) ?_
         refine Lo u75 (rfl) ?_
         refine Zf (Zc ?_)
         refine Zo _ rfl (fun hc16 => ?_) (fun hc16 => ?_)
         ·try simp only [qB] at hc16
          refine Zd (Za ?_)
          refine Lo u75 (Zg (VVal.int .i64 1) (.inr rfl) rfl) ?_
          refine Zf (Zc (Zl (Zt ?_)))
          refine W10 (.inr rfl) (Zi rfl rfl) ?_
          exact W16
         ·try simp only [qB] at hc16
          refine Zk (Zc (Zd (Za ?_)))
          refine Lo u75 (Zg (VVal.int .i64 0) (.inr rfl) rfl) ?_
          refine Zf (Zc (Zl ?_))
          refine W10 (.inr rfl) (Zi rfl rfl) ?_
          exact W16
        ·try simp only [qB] at hg15
         refine Lf u75 ?_
         refine Lf u75 ?_
         refine Lf u75 ?_
         refine Lf u75 ?_
         refine Lf u75 ?_
         refine Lf u75 ?_
         refine Lo u75 (ZN (VVal.bool false) rfl rfl rfl) ?_
         refine Lo u75 (Zb (.inr rfl) rfl) ?_
         refine Zf (Zu (Zc (Zd (Zd (Za ?_)))))
         refine Lo u75 (Zb (.inl rfl) rfl) ?_
         refine Lo u75 (rfl) ?_
         refine Zf (Zc ?_)
         refine Z0 rfl rfl ?_
         refine Zd (Za ?_)
         refine Lo u75 (Zg (VVal.int .i64 1) (.inr rfl) rfl) ?_
         refine Zf (Zc (Zl (Zt ?_)))
         refine W10 (.inr rfl) (Zi rfl rfl) ?_
         exact W16
       ·try simp only [qB] at hc14
        refine Zk (Zu (Zc (Zd (Zd (Za ?_)))))
        refine Lo u75 (Zb (.inl rfl) rfl) ?_
        refine Lo u75 (rfl) ?_
        refine Zf (Zc ?_)
        refine Z0 rfl rfl ?_
        refine Zd (Za ?_)
        refine Lo u75 (Zg (VVal.int .i64 1) (.inr rfl) rfl) ?_
        refine Zf (Zc (Zl (Zt ?_)))
        refine W10 (.inr rfl) (Zi rfl rfl) ?_
        exact W16
     ·try simp only [qB] at hc9
      refine Za ?_
      refine Lo u75 (rfl) ?_
      refine Lo u75 (Zb (.inr rfl) rfl) ?_
      refine Zf (Zc ?_)
      refine Zo _ rfl (fun hc17 => ?_) (fun hc17 => ?_)
      ·try simp only [qB] at hc17
       refine Za ?_
       refine Lo u75 (rfl) ?_
       refine Lo u75 (W12 rfl rfl rfl rfl) ?_
       refine Lo u75 (rfl) ?_
       refine Lo u75 (Zb (.inl rfl) rfl) ?_
       refine ZL 49 (env1 := u75) (env2 := u75) rfl rfl rfl (fun hg18 => ?_) (fun hg18 => ?_)
       ·try simp only [qB] at hg18
        refine Lo u75 (rfl) ?_
        refine Lo u75 (W12 rfl rfl rfl rfl) ?_
        refine Lo u75 (rfl) ?_
        refine Lo u75 (Zz rfl rfl rfl) ?_
        refine Lo u75 (Zb (.inl rfl) rfl) ?_
        refine ZL 54 (env1 := u75) (env2 := u75) rfl rfl rfl (fun hg19 => ?_) (fun hg19 => ?_)
        ·try simp only [qB] at hg19
         refine Lo u75 (rfl) ?_
         refine Lo u75 (W12 rfl rfl rfl rfl) ?_
         refine Lo u75 (rfl) ?_
         refine Lo u75 (rfl) ?_
         refine Lo u75 (Zz rfl rfl rfl) ?_
         refine Lo u75 (Zb (.inr rfl) rfl) ?_
         refine Zf (Zu (Zc (Zd (Zd (Za ?_)))))
         refine Lo u75 (Zb (.inl rfl) rfl) ?_
         refine Lo u75 (rfl) ?_
         refine Zf (Zc ?_)
         refine Zo _ rfl (fun hc20 => ?_) (fun hc20 => ?_)
         ·try simp only [qB] at hc20
          refine Zd (Za ?_)
          refine Lo u75 (Zg (VVal.int .i64 1) (.inr rfl) rfl) ?_
          refine Zf (Zc (Zl (Zt ?_)))
          refine W10 (.inr rfl) (Zi rfl rfl) ?_
          exact W16
         ·try simp only [qB] at hc20
          refine Zk (Zc (Zd (Za ?_)))
          refine Lo u75 (Zg (VVal.int .i64 0) (.inr rfl) rfl) ?_
          refine Zf (Zc (Zl ?_))
          refine W10 (.inr rfl) (Zi rfl rfl) ?_
          exact W16
        ·try simp only [qB] at hg19
         refine Lf u75 ?_
         refine Lf u75 ?_
         refine Lf u75 ?_
         refine Lf u75 ?_
         refine Lo u75 (ZN (VVal.bool false) rfl rfl rfl) ?_
         refine Lo u75 (Zb (.inr rfl) rfl) ?_
         refine Zf (Zu (Zc (Zd (Zd (Za ?_)))))
         refine Lo u75 (Zb (.inl rfl) rfl) ?_
         refine Lo u75 (rfl) ?_
         refine Zf (Zc ?_)
         refine Z0 rfl rfl ?_
         refine Zd (Za ?_)
         refine Lo u75 (Zg (VVal.int .i64 1) (.inr rfl) rfl) ?_
         refine Zf (Zc (Zl (Zt ?_)))
         refine W10 (.inr rfl) (Zi rfl rfl) ?_
         exact W16
       ·try simp only [qB] at hg18
        refine Lf u75 ?_
        refine Lf u75 ?_
        refine Lf u75 ?_
        refine Lo u75 (ZN (VVal.bool false) rfl rfl rfl) ?_
        refine Lo u75 (Zb (.inl rfl) rfl) ?_
        refine Lf u75 ?_
        refine Lf u75 ?_
        refine Lf u75 ?_
        refine Lf u75 ?_
        refine Lo u75 (ZN (VVal.bool false) rfl rfl rfl) ?_
        refine Lo u75 (Zb (.inr rfl) rfl) ?_
        refine Zf (Zu (Zc (Zd (Zd (Za ?_)))))
        refine Lo u75 (Zb (.inl rfl) rfl) ?_
        refine Lo u75 (rfl) ?_
        refine Zf (Zc ?_)
        refine Z0 rfl rfl ?_
        refine Zd (Za ?_)
        refine Lo u75 (Zg (VVal.int .i64 1) (.inr rfl) rfl) ?_
        refine Zf (Zc (Zl (Zt ?_)))
        refine W10 (.inr rfl) (Zi rfl rfl) ?_
        exact W16
      ·try simp only [qB] at hc17
       refine Zd (Za ?_)
       refine Lo u75 (rfl) ?_
       refine Lo u75 (Zb (.inr rfl) rfl) ?_
       refine Zf (Zc ?_)
       refine Zo _ rfl (fun hc21 => ?_) (fun hc21 => ?_)
       ·try simp only [qB] at hc21
        refine Za ?_
        refine Lo u75 (rfl) ?_
        refine Lo u75 (W12 rfl rfl rfl rfl) ?_
        refine Lo u75 (rfl) ?_
        refine Lo u75 (Zb (.inl rfl) rfl) ?_
        refine ZL 65 (env1 := u75) (env2 := u75) rfl rfl rfl (fun hg22 => ?_) (fun hg22 => ?_)
        ·try simp only [qB] at hg22
         refine Lo u75 (rfl) ?_
         refine Lo u75 (W12 rfl rfl rfl rfl) ?_
         refine Lo u75 (rfl) ?_
         refine Lo u75 (W12 rfl rfl rfl rfl) ?_
         refine Lo u75 (rfl) ?_
         refine Lo u75 (rfl) ?_
         refine Lo u75 (Zz rfl rfl rfl) ?_
         refine Lo u75 (Zb (.inr rfl) rfl) ?_
         refine Zf (Zu (Zc (Zd (Zd (Za ?_)))))
         refine Lo u75 (Zb (.inl rfl) rfl) ?_
         refine Lo u75 (rfl) ?_
         refine Zf (Zc ?_)
         refine Zo _ rfl (fun hc23 => ?_) (fun hc23 => ?_)
         ·try simp only [qB] at hc23
          refine Zd (Za ?_)
          refine Lo u75 (Zg (VVal.int .i64 1) (.inr rfl) rfl) ?_
          refine Zf (Zc (Zl (Zt ?_)))
          refine W10 (.inr rfl) (Zi rfl rfl) ?_
          exact W16
         ·try simp only [qB] at hc23
          refine Zk (Zc (Zd (Za ?_)))
          refine Lo u75 (Zg (VVal.int .i64 0) (.inr rfl) rfl) ?_
          refine Zf (Zc (Zl ?_))
          refine W10 (.inr rfl) (Zi rfl rfl) ?_
          exact W16
        ·try simp only [qB] at hg22
         refine Lf u75 ?_
         refine Lf u75 ?_
         refine Lf u75 ?_
         refine Lf u75 ?_
         refine Lf u75 ?_
         refine Lf u75 ?_
         refine Lo u75 (ZN (VVal.bool false) rfl rfl rfl) ?_
         refine Lo u75 (Zb (.inr rfl) rfl) ?_
         refine Zf (Zu (Zc (Zd (Zd (Za ?_)))))
         refine Lo u75 (Zb (.inl rfl) rfl) ?_
         refine Lo u75 (rfl) ?_
         refine Zf (Zc ?_)
         refine Z0 rfl rfl ?_
         refine Zd (Za ?_)
         refine Lo u75 (Zg (VVal.int .i64 1) (.inr rfl) rfl) ?_
         refine Zf (Zc (Zl (Zt ?_)))
         refine W10 (.inr rfl) (Zi rfl rfl) ?_
         exact W16
       ·try simp only [qB] at hc21
        refine Zk (Zu (Zc (Zd (Zd (Za ?_)))))
        refine Lo u75 (Zb (.inl rfl) rfl) ?_
        refine Lo u75 (rfl) ?_
        refine Zf (Zc ?_)
        refine Z0 rfl rfl ?_
        refine Zd (Za ?_)
        refine Lo u75 (Zg (VVal.int .i64 1) (.inr rfl) rfl) ?_
        refine Zf (Zc (Zl (Zt ?_)))
        refine W10 (.inr rfl) (Zi rfl rfl) ?_
        exact W16
   ·try simp only [qB] at hc5
    refine Za ?_
    refine Lo u75 (rfl) ?_
    refine Lo u75 (Zb (.inr rfl) rfl) ?_
    refine Zf (Zc ?_)
    refine Zo _ rfl (fun hc24 => ?_) (fun hc24 => ?_)
    ·try simp only [qB] at hc24
     refine Za ?_
     refine Lo u75 (rfl) ?_
     refine Lo u75 (W12 rfl rfl rfl rfl) ?_
     refine Lo u75 (rfl) ?_
     refine Lo u75 (Zb (.inl rfl) rfl) ?_
     refine ZL 37 (env1 := u75) (env2 := u75) rfl rfl rfl (fun hg25 => ?_) (fun hg25 => ?_)
     ·try simp only [qB] at hg25
      refine Lo u75 (rfl) ?_
      refine Lo u75 (W12 rfl rfl rfl rfl) ?_
      refine Lo u75 (rfl) ?_
      refine Lo u75 (rfl) ?_
      refine Lo u75 (Zz rfl rfl rfl) ?_
      refine Lo u75 (Zb (.inr rfl) rfl) ?_
      refine Zf (Zu (Zc (Zd (Zd (Za ?_)))))
      refine Lo u75 (Zb (.inl rfl) rfl) ?_
      refine Lo u75 (rfl) ?_
      refine Zf (Zc ?_)
      refine Zo _ rfl (fun hc26 => ?_) (fun hc26 => ?_)
      ·try simp only [qB] at hc26
       refine Zd (Za ?_)
       refine Lo u75 (Zg (VVal.int .i64 1) (.inr rfl) rfl) ?_
       refine Zf (Zc (Zl (Zt ?_)))
       refine W10 (.inr rfl) (Zi rfl rfl) ?_
       exact W16
      ·try simp only [qB] at hc26
       refine Zk (Zc (Zd (Za ?_)))
       refine Lo u75 (Zg (VVal.int .i64 0) (.inr rfl) rfl) ?_
       refine Zf (Zc (Zl ?_))
       refine W10 (.inr rfl) (Zi rfl rfl) ?_
       exact W16
     ·try simp only [qB] at hg25
      refine Lf u75 ?_
      refine Lf u75 ?_
      refine Lf u75 ?_
      refine Lf u75 ?_
      refine Lo u75 (ZN (VVal.bool false) rfl rfl rfl) ?_
      refine Lo u75 (Zb (.inr rfl) rfl) ?_
      refine Zf (Zu (Zc (Zd (Zd (Za ?_)))))
      refine Lo u75 (Zb (.inl rfl) rfl) ?_
      refine Lo u75 (rfl) ?_
      refine Zf (Zc ?_)
      refine Z0 rfl rfl ?_
      refine Zd (Za ?_)
      refine Lo u75 (Zg (VVal.int .i64 1) (.inr rfl) rfl) ?_
      refine Zf (Zc (Zl (Zt ?_)))
      refine W10 (.inr rfl) (Zi rfl rfl) ?_
      exact W16
    ·try simp only [qB] at hc24
     refine Zd (Zd (Za ?_))
     refine Lo u75 (rfl) ?_
     refine Lo u75 (Zb (.inr rfl) rfl) ?_
     refine Zf (Zc ?_)
     refine Zo _ rfl (fun hc27 => ?_) (fun hc27 => ?_)
     ·try simp only [qB] at hc27
      refine Zk (Zc ?_)
      refine Zo _ rfl (fun hc28 => ?_) (fun hc28 => ?_)
      ·try simp only [qB] at hc28
       refine Za ?_
       refine Lo u75 (rfl) ?_
       refine Lo u75 (W12 rfl rfl rfl rfl) ?_
       refine Lo u75 (rfl) ?_
       refine Lo u75 (Zb (.inl rfl) rfl) ?_
       refine ZL 49 (env1 := u75) (env2 := u75) rfl rfl rfl (fun hg29 => ?_) (fun hg29 => ?_)
       ·try simp only [qB] at hg29
        refine Lo u75 (rfl) ?_
        refine Lo u75 (W12 rfl rfl rfl rfl) ?_
        refine Lo u75 (rfl) ?_
        refine Lo u75 (Zz rfl rfl rfl) ?_
        refine Lo u75 (Zb (.inl rfl) rfl) ?_
        refine ZL 54 (env1 := u75) (env2 := u75) rfl rfl rfl (fun hg30 => ?_) (fun hg30 => ?_)
        ·try simp only [qB] at hg30
         refine Lo u75 (rfl) ?_
         refine Lo u75 (W12 rfl rfl rfl rfl) ?_
         refine Lo u75 (rfl) ?_
         refine Lo u75 (rfl) ?_
         refine Lo u75 (Zz rfl rfl rfl) ?_
         refine Lo u75 (Zb (.inr rfl) rfl) ?_
         refine Zf (Zu (Zc (Zd (Zd (Za ?_)))))
         refine Lo u75 (Zb (.inl rfl) rfl) ?_
         refine Lo u75 (rfl) ?_
         refine Zf (Zc ?_)
         refine Zo _ rfl (fun hc31 => ?_) (fun hc31 => ?_)
         ·try simp only [qB] at hc31
          refine Zd (Za ?_)
          refine Lo u75 (Zg (VVal.int .i64 1) (.inr rfl) rfl) ?_
          refine Zf (Zc (Zl (Zt ?_)))
          refine W10 (.inr rfl) (Zi rfl rfl) ?_
          exact W16
         ·try simp only [qB] at hc31
          refine Zk (Zc (Zd (Za ?_)))
          refine Lo u75 (Zg (VVal.int .i64 0) (.inr rfl) rfl) ?_
          refine Zf (Zc (Zl ?_))
          refine W10 (.inr rfl) (Zi rfl rfl) ?_
          exact W16
        ·try simp only [qB] at hg30
         refine Lf u75 ?_
         refine Lf u75 ?_
         refine Lf u75 ?_
         refine Lf u75 ?_
         refine Lo u75 (ZN (VVal.bool false) rfl rfl rfl) ?_
         refine Lo u75 (Zb (.inr rfl) rfl) ?_
         refine Zf (Zu (Zc (Zd (Zd (Za ?_)))))
         refine Lo u75 (Zb (.inl rfl) rfl) ?_
         refine Lo u75 (rfl) ?_
         refine Zf (Zc ?_)
         refine Z0 rfl rfl ?_
         refine Zd (Za ?_)
         refine Lo u75 (Zg (VVal.int .i64 1) (.inr rfl) rfl) ?_
         refine Zf (Zc (Zl (Zt ?_)))
         refine W10 (.inr rfl) (Zi rfl rfl) ?_
         exact W16
       ·try simp only [qB] at hg29
        refine Lf u75 ?_
        refine Lf u75 ?_
        refine Lf u75 ?_
        refine Lo u75 (ZN (VVal.bool false) rfl rfl rfl) ?_
        refine Lo u75 (Zb (.inl rfl) rfl) ?_
        refine Lf u75 ?_
        refine Lf u75 ?_
        refine Lf u75 ?_
        refine Lf u75 ?_
        refine Lo u75 (ZN (VVal.bool false) rfl rfl rfl) ?_
        refine Lo u75 (Zb (.inr rfl) rfl) ?_
        refine Zf (Zu (Zc (Zd (Zd (Za ?_)))))
        refine Lo u75 (Zb (.inl rfl) rfl) ?_
        refine Lo u75 (rfl) ?_
        refine Zf (Zc ?_)
        refine Z0 rfl rfl ?_
        refine Zd (Za ?_)
        refine Lo u75 (Zg (VVal.int .i64 1) (.inr rfl) rfl) ?_
        refine Zf (Zc (Zl (Zt ?_)))
        refine W10 (.inr rfl) (Zi rfl rfl) ?_
        exact W16
      ·try simp only [qB] at hc28
       refine Zd (Za ?_)
       refine Lo u75 (rfl) ?_
       refine Lo u75 (Zb (.inr rfl) rfl) ?_
       refine Zf (Zc ?_)
       refine Zo _ rfl (fun hc32 => ?_) (fun hc32 => ?_)
       ·try simp only [qB] at hc32
        refine Za ?_
        refine Lo u75 (rfl) ?_
        refine Lo u75 (W12 rfl rfl rfl rfl) ?_
        refine Lo u75 (rfl) ?_
        refine Lo u75 (Zb (.inl rfl) rfl) ?_
        refine ZL 65 (env1 := u75) (env2 := u75) rfl rfl rfl (fun hg33 => ?_) (fun hg33 => ?_)
        ·try simp only [qB] at hg33
         refine Lo u75 (rfl) ?_
         refine Lo u75 (W12 rfl rfl rfl rfl) ?_
         refine Lo u75 (rfl) ?_
         refine Lo u75 (W12 rfl rfl rfl rfl) ?_
         refine Lo u75 (rfl) ?_
         refine Lo u75 (rfl) ?_
         refine Lo u75 (Zz rfl rfl rfl) ?_
         refine Lo u75 (Zb (.inr rfl) rfl) ?_
         refine Zf (Zu (Zc (Zd (Zd (Za ?_)))))
         refine Lo u75 (Zb (.inl rfl) rfl) ?_
         refine Lo u75 (rfl) ?_
         refine Zf (Zc ?_)
         refine Zo _ rfl (fun hc34 => ?_) (fun hc34 => ?_)
         ·try simp only [qB] at hc34
          refine Zd (Za ?_)
          refine Lo u75 (Zg (VVal.int .i64 1) (.inr rfl) rfl) ?_
          refine Zf (Zc (Zl (Zt ?_)))
          refine W10 (.inr rfl) (Zi rfl rfl) ?_
          exact W16
         ·try simp only [qB] at hc34
          refine Zk (Zc (Zd (Za ?_)))
          refine Lo u75 (Zg (VVal.int .i64 0) (.inr rfl) rfl) ?_
          refine Zf (Zc (Zl ?_))
          refine W10 (.inr rfl) (Zi rfl rfl) ?_
          exact W16
        ·try simp only [qB] at hg33
         refine Lf u75 ?_
         refine Lf u75 ?_
         refine Lf u75 ?_
         refine Lf u75 ?_
         refine Lf u75 ?_
         refine Lf u75 ?_
         refine Lo u75 (ZN (VVal.bool false) rfl rfl rfl) ?_
         refine Lo u75 (Zb (.inr rfl) rfl) ?_
         refine Zf (Zu (Zc (Zd (Zd (Za ?_)))))
         refine Lo u75 (Zb (.inl rfl) rfl) ?_
         refine Lo u75 (rfl) ?_
         refine Zf (Zc ?_)
         refine Z0 rfl rfl ?_
         refine Zd (Za ?_)
         refine Lo u75 (Zg (VVal.int .i64 1) (.inr rfl) rfl) ?_
         refine Zf (Zc (Zl (Zt ?_)))
         refine W10 (.inr rfl) (Zi rfl rfl) ?_
         exact W16
       ·try simp only [qB] at hc32
        refine Zk (Zu (Zc (Zd (Zd (Za ?_)))))
        refine Lo u75 (Zb (.inl rfl) rfl) ?_
        refine Lo u75 (rfl) ?_
        refine Zf (Zc ?_)
        refine Z0 rfl rfl ?_
        refine Zd (Za ?_)
        refine Lo u75 (Zg (VVal.int .i64 1) (.inr rfl) rfl) ?_
        refine Zf (Zc (Zl (Zt ?_)))
        refine W10 (.inr rfl) (Zi rfl rfl) ?_
        exact W16
     ·try simp only [qB] at hc27
      refine Za ?_
      refine Lo u75 (rfl) ?_
      refine Lo u75 (Zb (.inr rfl) rfl) ?_
      refine Zf (Zc ?_)
      refine Zo _ rfl (fun hc35 => ?_) (fun hc35 => ?_)
      ·try simp only [qB] at hc35
       refine Za ?_
       refine Lo u75 (rfl) ?_
       refine Lo u75 (W12 rfl rfl rfl rfl) ?_
       refine Lo u75 (rfl) ?_
       refine Lo u75 (Zb (.inl rfl) rfl) ?_
       refine ZL 49 (env1 := u75) (env2 := u75) rfl rfl rfl (fun hg36 => ?_) (fun hg36 => ?_)
       ·try simp only [qB] at hg36
        refine Lo u75 (rfl) ?_
        refine Lo u75 (W12 rfl rfl rfl rfl) ?_
        refine Lo u75 (rfl) ?_
        refine Lo u75 (Zz rfl rfl rfl) ?_
        refine Lo u75 (Zb (.inl rfl) rfl) ?_
        refine ZL 54 (env1 := u75) (env2 := u75) rfl rfl rfl (fun hg37 => ?_) (fun hg37 => ?_)
        ·try simp only [qB] at hg37
         refine Lo u75 (rfl) ?_
         refine Lo u75 (W12 rfl rfl rfl rfl) ?_
         refine Lo u75 (rfl) ?_
         refine Lo u75 (rfl) ?_
         refine Lo u75 (Zz rfl rfl rfl) ?_
         refine Lo u75 (Zb (.inr rfl) rfl) ?_
         refine Zf (Zu (Zc (Zd (Zd (Za ?_)))))
         refine Lo u75 (Zb (.inl rfl) rfl) ?_
         refine Lo u75 (rfl) ?_
         refine Zf (Zc ?_)
         refine Zo _ rfl (fun hc38 => ?_) (fun hc38 => ?_)
         ·try simp only [qB] at hc38
          refine Zd (Za ?_)
          refine Lo u75 (Zg (VVal.int .i64 1) (.inr rfl) rfl) ?_
          refine Zf (Zc (Zl (Zt ?_)))
          refine W10 (.inr rfl) (Zi rfl rfl) ?_
          exact W16
         ·try simp only [qB] at hc38
          refine Zk (Zc (Zd (Za ?_)))
          refine Lo u75 (Zg (VVal.int .i64 0) (.inr rfl) rfl) ?_
          refine Zf (Zc (Zl ?_))
          refine W10 (.inr rfl) (Zi rfl rfl) ?_
          exact W16
        ·try simp only [qB] at hg37
         refine Lf u75 ?_
         refine Lf u75 ?_
         refine Lf u75 ?_
         refine Lf u75 ?_
         refine Lo u75 (ZN (VVal.bool false) rfl rfl rfl) ?_
         refine Lo u75 (Zb (.inr rfl) rfl) ?_
         refine Zf (Zu (Zc (Zd (Zd (Za ?_)))))
         refine Lo u75 (Zb (.inl rfl) rfl) ?_
         refine Lo u75 (rfl) ?_
         refine Zf (Zc ?_)
         refine Z0 rfl rfl ?_
         refine Zd (Za ?_)
         refine Lo u75 (Zg (VVal.int .i64 1) (.inr rfl) rfl) ?_
         refine Zf (Zc (Zl (Zt ?_)))
         refine W10 (.inr rfl) (Zi rfl rfl) ?_
         exact W16
       ·try simp only [qB] at hg36
        refine Lf u75 ?_
        refine Lf u75 ?_
        refine Lf u75 ?_
        refine Lo u75 (ZN (VVal.bool false) rfl rfl rfl) ?_
        refine Lo u75 (Zb (.inl rfl) rfl) ?_
        refine Lf u75 ?_
        refine Lf u75 ?_
        refine Lf u75 ?_
        refine Lf u75 ?_
        refine Lo u75 (ZN (VVal.bool false) rfl rfl rfl) ?_
        refine Lo u75 (Zb (.inr rfl) rfl) ?_
        refine Zf (Zu (Zc (Zd (Zd (Za ?_)))))
        refine Lo u75 (Zb (.inl rfl) rfl) ?_
        refine Lo u75 (rfl) ?_
        refine Zf (Zc ?_)
        refine Z0 rfl rfl ?_
        refine Zd (Za ?_)
        refine Lo u75 (Zg (VVal.int .i64 1) (.inr rfl) rfl) ?_
        refine Zf (Zc (Zl (Zt ?_)))
        refine W10 (.inr rfl) (Zi rfl rfl) ?_
        exact W16
      ·try simp only [qB] at hc35
       refine Zd (Za ?_)
       refine Lo u75 (rfl) ?_
       refine Lo u75 (Zb (.inr rfl) rfl) ?_
       refine Zf (Zc ?_)
       refine Zo _ rfl (fun hc39 => ?_) (fun hc39 => ?_)
       ·try simp only [qB] at hc39
        refine Za ?_
        refine Lo u75 (rfl) ?_
        refine Lo u75 (W12 rfl rfl rfl rfl) ?_
        refine Lo u75 (rfl) ?_
        refine Lo u75 (Zb (.inl rfl) rfl) ?_
        refine ZL 65 (env1 := u75) (env2 := u75) rfl rfl rfl (fun hg40 => ?_) (fun hg40 => ?_)
        ·try simp only [qB] at hg40
         refine Lo u75 (rfl) ?_
         refine Lo u75 (W12 rfl rfl rfl rfl) ?_
         refine Lo u75 (rfl) ?_
         refine Lo u75 (W12 rfl rfl rfl rfl) ?_
         refine Lo u75 (rfl) ?_
         refine Lo u75 (rfl) ?_
         refine Lo u75 (Zz rfl rfl rfl) ?_
         refine Lo u75 (Zb (.inr rfl) rfl) ?_
         refine Zf (Zu (Zc (Zd (Zd (Za ?_)))))
         refine Lo u75 (Zb (.inl rfl) rfl) ?_
         refine Lo u75 (rfl) ?_
         refine Zf (Zc ?_)
         refine Zo _ rfl (fun hc41 => ?_) (fun hc41 => ?_)
         ·try simp only [qB] at hc41
          refine Zd (Za ?_)
          refine Lo u75 (Zg (VVal.int .i64 1) (.inr rfl) rfl) ?_
          refine Zf (Zc (Zl (Zt ?_)))
          refine W10 (.inr rfl) (Zi rfl rfl) ?_
          exact W16
         ·try simp only [qB] at hc41
          refine Zk (Zc (Zd (Za ?_)))
          refine Lo u75 (Zg (VVal.int .i64 0) (.inr rfl) rfl) ?_
          refine Zf (Zc (Zl ?_))
          refine W10 (.inr rfl) (Zi rfl rfl) ?_
          exact W16
        ·try simp only [qB] at hg40
         refine Lf u75 ?_
         refine Lf u75 ?_
         refine Lf u75 ?_
         refine Lf u75 ?_
         refine Lf u75 ?_
         refine Lf u75 ?_
         refine Lo u75 (ZN (VVal.bool false) rfl rfl rfl) ?_
         refine Lo u75 (Zb (.inr rfl) rfl) ?_
         refine Zf (Zu (Zc (Zd (Zd (Za ?_)))))
         refine Lo u75 (Zb (.inl rfl) rfl) ?_
         refine Lo u75 (rfl) ?_
         refine Zf (Zc ?_)
         refine Z0 rfl rfl ?_
         refine Zd (Za ?_)
         refine Lo u75 (Zg (VVal.int .i64 1) (.inr rfl) rfl) ?_
         refine Zf (Zc (Zl (Zt ?_)))
         refine W10 (.inr rfl) (Zi rfl rfl) ?_
         exact W16
       ·try simp only [qB] at hc39
        refine Zk (Zu (Zc (Zd (Zd (Za ?_)))))
        refine Lo u75 (Zb (.inl rfl) rfl) ?_
        refine Lo u75 (rfl) ?_
        refine Zf (Zc ?_)
        refine Z0 rfl rfl ?_
        refine Zd (Za ?_)
        refine Lo u75 (Zg (VVal.int .i64 1) (.inr rfl) rfl) ?_
        refine Zf (Zc (Zl (Zt ?_)))
        refine W10 (.inr rfl) (Zi rfl rfl) ?_
        exact W16
abbrev u8 {a0 a1 a2 a3 a4 a5 a6 a7 : VVal} : VEnv := a0 :: a1 :: a2 :: a3 :: a4 :: a5 :: a6 :: a7 :: []
abbrev u12 {a0 a1 a2 a3 a4 a5 a6 a7 a8 a9 a10 a11 : VVal} : VEnv := a0 :: a1 :: a2 :: a3 :: a4 :: a5 :: a6 :: a7 :: a8 :: a9 :: a10 :: a11 :: []
abbrev u17 {a0 a1 a2 a3 a4 a5 a6 a7 a8 a9 a10 a11 a12 a13 a14 a15 a16 : VVal} : VEnv := a0 :: a1 :: a2 :: a3 :: a4 :: a5 :: a6 :: a7 :: a8 :: a9 :: a10 :: a11 :: a12 :: a13 :: a14 :: a15 :: a16 :: []
abbrev u48 {a0 a1 a2 a3 a4 a5 a6 a7 a8 a9 a10 a11 a12 a13 a14 a15 a16 a17 a18 a19 a20 a21 a22 a23 a24 a25 a26 a27 a28 a29 a30 a31 a32 a33 a34 a35 a36 a37 a38 a39 a40 a41 a42 a43 a44 a45 a46 a47 : VVal} : VEnv := a0 :: a1 :: a2 :: a3 :: a4 :: a5 :: a6 :: a7 :: a8 :: a9 :: a10 :: a11 :: a12 :: a13 :: a14 :: a15 :: a16 :: a17 :: a18 :: a19 :: a20 :: a21 :: a22 :: a23 :: a24 :: a25 :: a26 :: a27 :: a28 :: a29 :: a30 :: a31 :: a32 :: a33 :: a34 :: a35 :: a36 :: a37 :: a38 :: a39 :: a40 :: a41 :: a42 :: a43 :: a44 :: a45 :: a46 :: a47 :: []
theorem W1f {T : TypeId → Option VTy} {H : Ze} {op : Op} {ρ : Operand → VVal} {t : TypeId} {a : Operand} {y : VTy} {p v : VVal} (ho : op = .load t a) (ha : ρ a = p) (hy : T t = some y) (hd : Zm y.desc = false) (h : LdOk H p v := by first | exact .inl ⟨_, _, rfl, by exact Y5 (α := Int) 0 (by omega)⟩ | exact .inr ⟨_, _, _, _, rfl, XH47, by exact Y5 (α := Int) 0 (by omega)⟩) : vop T ρ H op = some (v, H) := v_ld ho ha hy hd h
theorem W1g {T : TypeId → Option VTy} {H : Ze} {op : Op} {ρ : Operand → VVal} {t e : TypeId} {x i : Operand} {y z : VTy} {k : IntKind} {n : Int} {p v : VVal} {es : Nat} (ho : op = .indexAddr t x i) (hx : ρ x = p) (hi : ρ i = .int k n) (hy : T t = some y) (hd : y.desc = .slice e) (hz : T e = some z) (hs : z.size = es) (h : IxOk p es n v := by first | exact .inl ⟨_, _, _, rfl, by omega, rfl⟩ | exact .inr ⟨_, _, _, _, _, rfl, by omega, rfl⟩) : vop T ρ H op = some (v, H) := v_ix ho hx hi hy hd hz hs h
abbrev lbK (r : Rul) (l : List Int) (k : Nat) : List Int := YV (r.steps.take k) l
abbrev lfK (r : Rul) (l : List Int) (k : Nat) : Nat := lft (r.steps.take k) l
theorem lbK_lt {r : Rul} {l : List Int} {k : Nat} (hk : k < r.steps.length) (h : r.steps.getD k 0 < l.length) : lbK r l (k + 1) = lbK r l k ++ [l.getD (r.steps.getD k 0).toNat 0] ∧ lfK r l (k + 1) = lfK r l k := by
  unfold lbK lfK; rw [Yx (d := 0) hk]; exact lbls_lt h
theorem lbK_ge {r : Rul} {l : List Int} {k : Nat} (hk : k < r.steps.length) (h : ¬ r.steps.getD k 0 < l.length) : lbK r l (k + 1) = lbK r l k ∧ lfK r l (k + 1) = lfK r l k + 1 := by
  unfold lbK lfK; rw [Yx (d := 0) hk]; exact lbls_ge h
theorem lbK_len {r : Rul} {l : List Int} {k : Nat} (hk : k ≤ r.steps.length) : (lbK r l k).length + lfK r l k = k := by
  unfold lbK lfK; rw [lbls_len, List.length_take]; omega
theorem lbK_all {r : Rul} {l : List Int} {k : Nat} (hk : r.steps.length ≤ k) : lbK r l k = YV r.steps l ∧ lfK r l k = lft r.steps l := by
  unfold lbK lfK; rw [List.take_of_length_le hk]; exact ⟨rfl, rfl⟩
theorem max_oft {L : List Int} {v : Int} : (if (((L ++ [v]).count v : Nat) : Int) > ((oft L : Nat) : Int) then (((L ++ [v]).count v : Nat) : Int) else ((oft L : Nat) : Int)) = ((oft (L ++ [v]) : Nat) : Int) := by
  rw [oft_app, show (L ++ [v]).count v = L.count v + 1 by simp]
  split <;> omega
theorem rck_of {n : Int} {r : Rul} (h : rck n r = true) : (0 ≤ n ∧ n ≤ 12) ∧ rise n r.steps = true ∧ knd r = true := by
  unfold rck at h; rw [Bool.and_eq_true, Bool.and_eq_true, decide_eq_true_eq] at h; exact h
theorem rck_kind {n : Int} {r : Rul} (h : rck n r = true) : 1 ≤ r.kind ∧ r.kind ≤ 5 := by
  by_cases hk : 1 ≤ r.kind ∧ r.kind ≤ 5
  · exact hk
  · have := (rck_of h).2.2; rw [knd_d hk] at this; cases this
theorem rck_pos {n : Int} {r : Rul} (h : rck n r = true) : ∀ s, s ∈ r.steps → 0 ≤ s := fun s hs => by
  have := riseA_mem _ _ (rck_of h).2.1 s hs; omega
theorem rck_len {n : Int} {r : Rul} (h : rck n r = true) : r.steps.length ≤ 12 := by
  obtain ⟨h1, h2, _⟩ := rck_of h
  rcases riseA_len _ _ h2 with e | e
  · rw [e]; exact Nat.zero_le _
  · omega
theorem rcE_eq {n : Int} {r : Rul} : rcE n r = 0 ↔ rck n r = true := by
  constructor
  · intro h
    by_cases hb : rck n r = true
    · exact hb
    · unfold rcE at h; rw [if_neg hb] at h; omega
  · exact rcE_0
theorem kp_1 {k : Int} {st l : List Int} : kpL (1, k, st, ()) l = decide ((oft (YV st l) : Int) ≤ 1) := by
  show kp (1, k, st, ()) (YV st l) (lft st l) = _
  simp only [kp, Rul.kind, Rul.k]
  simp; omega
theorem kp_2 {k : Int} {st l : List Int} : kpL (2, k, st, ()) l = decide ((uq (YV st l) : Int) ≤ 1) := by
  show kp (2, k, st, ()) (YV st l) (lft st l) = _
  simp only [kp, Rul.kind, Rul.k]
  simp; omega
theorem kp_3 {k : Int} {st l : List Int} : kpL (3, k, st, ()) l = decide ((oft (YV st l) : Int) ≤ k) := by
  show kp (3, k, st, ()) (YV st l) (lft st l) = _
  simp only [kp, Rul.kind, Rul.k]
  simp
theorem kp_4 {k : Int} {st l : List Int} : kpL (4, k, st, ()) l = decide ((uq (YV st l) : Int) ≤ k) := by
  show kp (4, k, st, ()) (YV st l) (lft st l) = _
  simp only [kp, Rul.kind, Rul.k]
  simp
theorem kp_5 {k : Int} {st l : List Int} : kpL (5, k, st, ()) l = decide (k ≤ (uq (YV st l) : Int) + (lft st l : Nat)) := by
  show kp (5, k, st, ()) (YV st l) (lft st l) = _
  simp only [kp, Rul.kind, Rul.k]
  simp
theorem capart_spec {x : SW} (H : Ze) (m u lf k : Int)  : F (psys x) 139 [.agg [iI m, iI u, iI lf], iI k] H fun v G => v = .bool (decide (m ≤ 1)) ∧ G = H := by
 refine Zr Tryd.func139 rfl u8 rfl ?_
 refine Zd (Za ?_)
 refine Lo u8 (Zy rfl rfl rfl) ?_
 refine Lo u8 (Zg (VVal.bool false) (.inr rfl) rfl) ?_
 refine Zf (Zc (Zd (Za ?_)))
 refine Lo u8 (rfl) ?_
 refine Lo u8 (W12 rfl rfl rfl rfl) ?_
 refine Lo u8 (rfl) ?_
 refine Lo u8 (Zb (.inr rfl) rfl) ?_
 refine Zf (Zc (Zl ?_))
 refine W10 (.inr rfl) (Zi rfl rfl) ?_
 exact ⟨rfl, rfl⟩
theorem csame_spec {x : SW} (H : Ze) (m u lf k : Int)  : F (psys x) 140 [.agg [iI m, iI u, iI lf], iI k] H fun v G => v = .bool (decide (u ≤ 1)) ∧ G = H := by
 refine Zr Tryd.func140 rfl u8 rfl ?_
 refine Zd (Za ?_)
 refine Lo u8 (Zy rfl rfl rfl) ?_
 refine Lo u8 (Zg (VVal.bool false) (.inr rfl) rfl) ?_
 refine Zf (Zc (Zd (Za ?_)))
 refine Lo u8 (rfl) ?_
 refine Lo u8 (W12 rfl rfl rfl rfl) ?_
 refine Lo u8 (rfl) ?_
 refine Lo u8 (Zb (.inr rfl) rfl) ?_
 refine Zf (Zc (Zl ?_))
 refine W10 (.inr rfl) (Zi rfl rfl) ?_
 exact ⟨rfl, rfl⟩
theorem catMost_spec {x : SW} (H : Ze) (m u lf k : Int)  : F (psys x) 141 [.agg [iI m, iI u, iI lf], iI k] H fun v G => v = .bool (decide (m ≤ k)) ∧ G = H := by
 refine Zr Tryd.func141 rfl u9 rfl ?_
 refine Zd (Za ?_)
 refine Lo u9 (Zy rfl rfl rfl) ?_
 refine Lo u9 (Zg (VVal.bool false) (.inr rfl) rfl) ?_
 refine Zf (Zc (Zd (Za ?_)))
 refine Lo u9 (rfl) ?_
 refine Lo u9 (W12 rfl rfl rfl rfl) ?_
 refine Lo u9 (Zb (.inl rfl) rfl) ?_
 refine Lo u9 (rfl) ?_
 refine Lo u9 (Zb (.inr rfl) rfl) ?_
 refine Zf (Zc (Zl ?_))
 refine W10 (.inr rfl) (Zi rfl rfl) ?_
 exact ⟨rfl, rfl⟩
theorem cfew_spec {x : SW} (H : Ze) (m u lf k : Int)  : F (psys x) 142 [.agg [iI m, iI u, iI lf], iI k] H fun v G => v = .bool (decide (u ≤ k)) ∧ G = H := by
 refine Zr Tryd.func142 rfl u9 rfl ?_
 refine Zd (Za ?_)
 refine Lo u9 (Zy rfl rfl rfl) ?_
 refine Lo u9 (Zg (VVal.bool false) (.inr rfl) rfl) ?_
 refine Zf (Zc (Zd (Za ?_)))
 refine Lo u9 (rfl) ?_
 refine Lo u9 (W12 rfl rfl rfl rfl) ?_
 refine Lo u9 (Zb (.inl rfl) rfl) ?_
 refine Lo u9 (rfl) ?_
 refine Lo u9 (Zb (.inr rfl) rfl) ?_
 refine Zf (Zc (Zl ?_))
 refine W10 (.inr rfl) (Zi rfl rfl) ?_
 exact ⟨rfl, rfl⟩
theorem cmany_spec {x : SW} (H : Ze) (m u lf k : Int) (hb : 0 ≤ u ∧ u ≤ 1000000 ∧ 0 ≤ lf ∧ lf ≤ 1000000) : F (psys x) 143 [.agg [iI m, iI u, iI lf], iI k] H fun v G => v = .bool (decide (k ≤ u + lf)) ∧ G = H := by
 refine Zr Tryd.func143 rfl u12 rfl ?_
 refine Zd (Za ?_)
 refine Lo u12 (Zy rfl rfl rfl) ?_
 refine Lo u12 (Zg (VVal.bool false) (.inr rfl) rfl) ?_
 refine Zf (Zc (Zd (Za ?_)))
 refine Lo u12 (rfl) ?_
 refine Lo u12 (W12 rfl rfl rfl rfl) ?_
 refine Lo u12 (rfl) ?_
 refine Lo u12 (W12 rfl rfl rfl rfl) ?_
 refine Lo u12 (W14 rfl rfl rfl) ?_
 refine Lo u12 (Zb (.inl rfl) rfl) ?_
 refine Lo u12 (rfl) ?_
 refine Lo u12 (Zb (.inr rfl) rfl) ?_
 refine Zf (Zc (Zl ?_))
 refine W10 (.inr rfl) (Zi rfl rfl) ?_
 exact ⟨rfl, rfl⟩
theorem counted_spec {x : SW} (H : Ze) (r : Rul) (l : List Int) (hs : ∀ s, s ∈ r.steps → 0 ≤ s) (hl : r.steps.length ≤ 1000000) : F (psys x) 144 [.agg (rlB r), fzI l] H fun v G => v = .agg [iI (oft (YV r.steps l) : Nat), iI (uq (YV r.steps l) : Nat), iI (lft r.steps l : Nat)] ∧ G = H := by
 refine Zr Tryd.func144 rfl u48 rfl ?_
 refine Zd (Za ?_)
 refine Lo u48 (Zy rfl rfl rfl) ?_
 refine Lo u48 (ZA rfl rfl) ?_
 refine Zf (Zc (Zd (Za ?_)))
 refine Lo u48 (rfl) ?_
 refine Lo u48 (v_map rfl) ?_
 refine Lo u48 (ZA rfl rfl) ?_
 refine Lo u48 (W13 rfl rfl rfl rfl rfl rfl rfl) ?_
 refine Lo u48 (Zb (.inr rfl) rfl) ?_
 refine Zf (Zc (Zd (Zd (Za ?_))))
 refine Lo u48 (rfl) ?_
 refine Lo u48 (W12 rfl rfl rfl rfl) ?_
 refine Lo u48 (rfl) ?_
 refine Lo u48 (Zg (VVal.int .i64 0) (.inl rfl) rfl) ?_
 refine Zf (Zc (Zj ?_))
 refine ZC (mk 48 281474976681869) (env' := u48) rfl ?_
 refine ZJ (fun (k : Nat) => r.steps.length - k) (fun (k : Nat) => [(14, iI (k : Nat))]) (fun (k : Nat) G => (k ≤ r.steps.length) ∧ G = H ++ [.cells (rlB r) true, .cells [iI 0, iI 0, iI 0] true, .map (cnM (lbK r l k)), .cells [iI (oft (lbK r l k) : Nat), iI 0, iI (lfK r l k : Nat)] true]) 0 rfl ?_ ?_
 ·refine ⟨?_, rfl⟩
  exact Nat.zero_le _
 rintro k _ ⟨hk, rfl⟩
 refine ZU (env' := u48) rfl ?_
 refine Zd (Za ?_)
 refine Lo u48 (rfl) ?_
 refine Zf (Zc (Zd ?_))
 refine Zo _ rfl (fun hc1 => ?_) (fun hc1 => ?_)
 ·try simp only [qB, qN] at hc1
  refine Zk (Zc (Zd (Zj (Zd (Za ?_)))))
  refine Lo u48 (W18 rfl rfl rfl rfl rfl rfl rfl) ?_
  refine Lo u48 (W1f rfl rfl rfl rfl) ?_
  refine Lo u48 (Zb (.inr rfl) rfl) ?_
  refine Zf (Zc (Zd (Zd (Za ?_))))
  refine Lo u48 (Zb (.inl rfl) rfl) ?_
  refine Lo u48 (Zb (.inl rfl) rfl) ?_
  refine Lo u48 (rfl) ?_
  refine Lo u48 (rfl) ?_
  refine Zf (Zc ?_)
  refine Zo _ rfl (fun hc2 => ?_) (fun hc2 => ?_)
  ·try simp only [qB, qN] at hc2
   refine Zd ?_
   have hlk := lbK_len (l := l) hk
   have hE := lbK_ge (r := r) (l := l) (k := k) (by omega) (by omega)
   refine Za ?_
   refine Lo u48 (rfl) ?_
   refine Lo u48 (W12 rfl rfl rfl rfl) ?_
   refine Lo u48 (W14 rfl rfl rfl) ?_
   refine Lo u48 (rfl) ?_
   refine Lo u48 (W13 rfl rfl rfl rfl rfl rfl rfl) ?_
   refine Zf (Zc (ZP (ZR (ZO (Zc (Za ?_))))))
   refine Lo u48 (W14 rfl rfl rfl) ?_
   refine Lo u48 (Zb (.inl rfl) rfl) ?_
   refine Zf ?_
   refine ZD (mk 48 281474976681869) (env' := u48) rfl ⟨k + 1, ?_, rfl, ?_⟩
   ·first | omega | (simp only []; omega)
   ·exact ⟨by omega, by rw [hE.1, hE.2]; rfl⟩
  ·try simp only [qB, qN] at hc2
   refine Zk (Zc (Zd ?_))
   have hlk := lbK_len (l := l) hk
   have hpos : 0 ≤ r.steps.getD k 0 := hs _ (mem_getI (by omega))
   have hlt : r.steps.getD k 0 < l.length := by omega
   have hE := lbK_lt (r := r) (l := l) (k := k) (by omega) hlt
   have hcn : (lbK r l k).count (l.getD (r.steps.getD k 0).toNat 0) ≤ (lbK r l k).length := List.count_le_length
   refine Za ?_
   refine Lo u48 (Zb (.inl rfl) rfl) ?_
   refine Lo u48 (Zb (.inl rfl) rfl) ?_
   refine Lo u48 (Zb (.inl rfl) rfl) ?_
   refine Lo u48 (W1g rfl rfl rfl rfl rfl rfl rfl) ?_
   refine Lo u48 (W12 rfl rfl rfl rfl) ?_
   refine Lo u48 (v_lookI rfl rfl rfl rfl rfl rfl rfl rfl rfl rfl (ZB rfl rfl) cn_get cn_get') ?_
   refine Lo u48 (W14 rfl rfl rfl) ?_
   refine Lo u48 (v_mupdI rfl rfl rfl rfl rfl rfl rfl rfl (ZB rfl rfl) cn_get ((congrArg (fun m => List.set _ _ (VBlk.map m)) cn_put).trans (ZF rfl))) ?_
   refine Zf (Zc ?_)
   refine ZW [0, 1, 2, 3, 4, 5, 6, 7, 8, 9, 10] #[0, 1, 0, 0, 0, 24, 56, 124, 255, 511, 1023] XH6 XH6 XH6 ?_
   refine Oo u48 .calm rfl (rfl) ?_
   refine Oo u48 .look rfl (W12 rfl rfl rfl rfl) ?_
   refine Oo u48 .calm rfl (Zb (.inl rfl) rfl) ?_
   refine Oo u48 .calm rfl (Zb (.inl rfl) rfl) ?_
   refine Oo u48 .calm rfl (Zb (.inl rfl) rfl) ?_
   refine Oo u48 .calm rfl (W1g rfl rfl rfl rfl rfl rfl rfl) ?_
   refine Oo u48 .look rfl (W12 rfl rfl rfl rfl) ?_
   refine Oo u48 .look rfl (v_lookI rfl rfl rfl rfl rfl rfl rfl rfl rfl rfl (ZB rfl rfl) cn_get cn_get') ?_
   refine Oo u48 .calm rfl (v_val (u := iI (oft (lbK r l (k + 1)) : Nat)) rfl (by rw [hE.1]; exact congrArg iI max_oft)) ?_
   refine Oo u48 .calm rfl (rfl) ?_
   refine Oo u48 .turn rfl (W13 rfl rfl rfl rfl rfl rfl rfl) ?_
   refine Z3 [] XH6 (trivial) ?_
   refine Zu (Zc (Za ?_))
   refine Lo u48 (W14 rfl rfl rfl) ?_
   refine Lo u48 (Zb (.inl rfl) rfl) ?_
   refine Zf ?_
   refine ZD (mk 48 281474976681869) (env' := u48) rfl ⟨k + 1, ?_, rfl, ?_⟩
   ·first | omega | (simp only []; omega)
   ·exact ⟨by omega, by rw [hE.1, hE.2]; rfl⟩
 ·try simp only [qB, qN] at hc1
  refine ZP (ZR (ZH (ZO (Zc (Zd (Za ?_))))))
  refine Lo u48 (Zb (.inl rfl) rfl) ?_
  refine Lo u48 (v_lenM rfl rfl rfl rfl (ZB rfl rfl)) ?_
  refine Lo u48 (rfl) ?_
  refine Lo u48 (W13 rfl rfl rfl rfl rfl rfl rfl) ?_
  refine Zf (Zc (Zd (Za ?_)))
  refine Lo u48 (W11 rfl rfl rfl rfl rfl) ?_
  refine Lo u48 (W13 rfl rfl rfl rfl rfl rfl rfl) ?_
  refine Zf (Zc (Zl ?_))
  refine W10 (.inr rfl) (Yz rfl rfl rfl rfl XH0 XH4) ?_
  have hA := lbK_all (r := r) (l := l) (k := k) (by omega)
  rw [hA.1, hA.2, cnM_len]
  exact ⟨rfl, rfl⟩
theorem cal_n {st l : List Int} (h : st.length ≤ 1000000) : (0 ≤ ((uq (YV st l) : Nat) : Int) ∧ ((uq (YV st l) : Nat) : Int) ≤ 1000000 ∧ 0 ≤ ((lft st l : Nat) : Int) ∧ ((lft st l : Nat) : Int) ≤ 1000000) := by
  have h1 := lbls_len st l; have h2 := uq_le (YV st l); omega
theorem keeps1 {x : SW} (H : Ze) (k : Int) (st l : List Int) (hs : ∀ s, s ∈ st → 0 ≤ s) (hl : st.length ≤ 1000000) : F (psys x) 118 [.agg [iI 1, iI k, fzI st], fzI l] H fun v G => v = .bool (kpL (1, k, st, ()) l) ∧ G = H := by
 refine Zr Tryd.func118 rfl u17 rfl ?_
 refine Zd (Za ?_)
 refine Lo u17 (Zy rfl rfl rfl) ?_
 refine Lo u17 (Zg (VVal.bool false) (.inr rfl) rfl) ?_
 refine Zf (Zc (Zd (Za ?_)))
 refine Lo u17 (v_val (u := .agg [.nilFunc, .func 139 [] [], .func 140 [] [], .func 141 [] [], .func 142 [] [], .func 143 [] []]) rfl rfl) ?_
 refine Lo u17 (ZA rfl rfl) ?_
 refine Lo u17 (W13 rfl rfl rfl rfl rfl rfl rfl) ?_
 refine Zf (Zc (Zd ?_))
 refine ZW [0, 1, 2, 3, 4, 5, 7, 8, 6, 9, 10] #[0, 1, 3, 7, 0, 0, 48, 0, 128, 511, 1023] XH6 XH6 XH6 ?_
 refine Oo u17 .calm rfl (rfl) ?_
 refine Yh (env' := u17) (x := .look _ _) rfl rfl rfl (W12 rfl rfl rfl rfl) rfl rfl rfl ?_
 refine Oo u17 .calm rfl XH43 ?_
 refine Yh (env' := u17) (x := .look _ _) rfl rfl rfl (W12 rfl rfl rfl rfl) rfl rfl rfl ?_
 refine Oo u17 .look rfl (W11 rfl rfl rfl rfl rfl) ?_
 refine Oo u17 .calm rfl (Zb (.inl rfl) rfl) ?_
 refine Oo u17 .calm rfl (rfl) ?_
 refine Yh (env' := u17) (x := .look _ _) rfl rfl rfl (W12 rfl rfl rfl rfl) rfl rfl rfl ?_
 refine Yf (env' := u17) rfl rfl rfl rfl rfl (by exact counted_spec _ (1, k, st, ()) _ hs hl) XH9 rfl rfl ?_
 refine Yf (env' := u17) rfl rfl rfl rfl rfl (by exact capart_spec _ _ _ _ _) XH9 rfl rfl ?_
 refine Oo u17 .calm rfl (Zb (.inr rfl) rfl) ?_
 refine Z3 [_, _, _] (by rfl) (And.intro (And.intro (W12 rfl rfl rfl rfl) (W12 rfl rfl rfl rfl)) (And.intro (And.intro (W12 rfl rfl rfl rfl) (W12 rfl rfl rfl rfl)) (And.intro (And.intro (W12 rfl rfl rfl rfl) (W12 rfl rfl rfl rfl)) trivial))) ?_
 refine Zc (Zl ?_)
 refine W10 (.inr rfl) (Zi rfl rfl) ?_
 exact ⟨by rw [kp_1], rfl⟩
theorem keeps2 {x : SW} (H : Ze) (k : Int) (st l : List Int) (hs : ∀ s, s ∈ st → 0 ≤ s) (hl : st.length ≤ 1000000) : F (psys x) 118 [.agg [iI 2, iI k, fzI st], fzI l] H fun v G => v = .bool (kpL (2, k, st, ()) l) ∧ G = H := by
 refine Zr Tryd.func118 rfl u17 rfl ?_
 refine Zd (Za ?_)
 refine Lo u17 (Zy rfl rfl rfl) ?_
 refine Lo u17 (Zg (VVal.bool false) (.inr rfl) rfl) ?_
 refine Zf (Zc (Zd (Za ?_)))
 refine Lo u17 (v_val (u := .agg [.nilFunc, .func 139 [] [], .func 140 [] [], .func 141 [] [], .func 142 [] [], .func 143 [] []]) rfl rfl) ?_
 refine Lo u17 (ZA rfl rfl) ?_
 refine Lo u17 (W13 rfl rfl rfl rfl rfl rfl rfl) ?_
 refine Zf (Zc (Zd ?_))
 refine ZW [0, 1, 2, 3, 4, 5, 7, 8, 6, 9, 10] #[0, 1, 3, 7, 0, 0, 48, 0, 128, 511, 1023] XH6 XH6 XH6 ?_
 refine Oo u17 .calm rfl (rfl) ?_
 refine Yh (env' := u17) (x := .look _ _) rfl rfl rfl (W12 rfl rfl rfl rfl) rfl rfl rfl ?_
 refine Oo u17 .calm rfl XH43 ?_
 refine Yh (env' := u17) (x := .look _ _) rfl rfl rfl (W12 rfl rfl rfl rfl) rfl rfl rfl ?_
 refine Oo u17 .look rfl (W11 rfl rfl rfl rfl rfl) ?_
 refine Oo u17 .calm rfl (Zb (.inl rfl) rfl) ?_
 refine Oo u17 .calm rfl (rfl) ?_
 refine Yh (env' := u17) (x := .look _ _) rfl rfl rfl (W12 rfl rfl rfl rfl) rfl rfl rfl ?_
 refine Yf (env' := u17) rfl rfl rfl rfl rfl (by exact counted_spec _ (2, k, st, ()) _ hs hl) XH9 rfl rfl ?_
 refine Yf (env' := u17) rfl rfl rfl rfl rfl (by exact csame_spec _ _ _ _ _) XH9 rfl rfl ?_
 refine Oo u17 .calm rfl (Zb (.inr rfl) rfl) ?_
 refine Z3 [_, _, _] (by rfl) (And.intro (And.intro (W12 rfl rfl rfl rfl) (W12 rfl rfl rfl rfl)) (And.intro (And.intro (W12 rfl rfl rfl rfl) (W12 rfl rfl rfl rfl)) (And.intro (And.intro (W12 rfl rfl rfl rfl) (W12 rfl rfl rfl rfl)) trivial))) ?_
 refine Zc (Zl ?_)
 refine W10 (.inr rfl) (Zi rfl rfl) ?_
 exact ⟨by rw [kp_2], rfl⟩
theorem keeps3 {x : SW} (H : Ze) (k : Int) (st l : List Int) (hs : ∀ s, s ∈ st → 0 ≤ s) (hl : st.length ≤ 1000000) : F (psys x) 118 [.agg [iI 3, iI k, fzI st], fzI l] H fun v G => v = .bool (kpL (3, k, st, ()) l) ∧ G = H := by
 refine Zr Tryd.func118 rfl u17 rfl ?_
 refine Zd (Za ?_)
 refine Lo u17 (Zy rfl rfl rfl) ?_
 refine Lo u17 (Zg (VVal.bool false) (.inr rfl) rfl) ?_
 refine Zf (Zc (Zd (Za ?_)))
 refine Lo u17 (v_val (u := .agg [.nilFunc, .func 139 [] [], .func 140 [] [], .func 141 [] [], .func 142 [] [], .func 143 [] []]) rfl rfl) ?_
 refine Lo u17 (ZA rfl rfl) ?_
 refine Lo u17 (W13 rfl rfl rfl rfl rfl rfl rfl) ?_
 refine Zf (Zc (Zd ?_))
 refine ZW [0, 1, 2, 3, 4, 5, 7, 8, 6, 9, 10] #[0, 1, 3, 7, 0, 0, 48, 0, 128, 511, 1023] XH6 XH6 XH6 ?_
 refine Oo u17 .calm rfl (rfl) ?_
 refine Yh (env' := u17) (x := .look _ _) rfl rfl rfl (W12 rfl rfl rfl rfl) rfl rfl rfl ?_
 refine Oo u17 .calm rfl XH43 ?_
 refine Yh (env' := u17) (x := .look _ _) rfl rfl rfl (W12 rfl rfl rfl rfl) rfl rfl rfl ?_
 refine Oo u17 .look rfl (W11 rfl rfl rfl rfl rfl) ?_
 refine Oo u17 .calm rfl (Zb (.inl rfl) rfl) ?_
 refine Oo u17 .calm rfl (rfl) ?_
 refine Yh (env' := u17) (x := .look _ _) rfl rfl rfl (W12 rfl rfl rfl rfl) rfl rfl rfl ?_
 refine Yf (env' := u17) rfl rfl rfl rfl rfl (by exact counted_spec _ (3, k, st, ()) _ hs hl) XH9 rfl rfl ?_
 refine Yf (env' := u17) rfl rfl rfl rfl rfl (by exact catMost_spec _ _ _ _ _) XH9 rfl rfl ?_
 refine Oo u17 .calm rfl (Zb (.inr rfl) rfl) ?_
 refine Z3 [_, _, _] (by rfl) (And.intro (And.intro (W12 rfl rfl rfl rfl) (W12 rfl rfl rfl rfl)) (And.intro (And.intro (W12 rfl rfl rfl rfl) (W12 rfl rfl rfl rfl)) (And.intro (And.intro (W12 rfl rfl rfl rfl) (W12 rfl rfl rfl rfl)) trivial))) ?_
 refine Zc (Zl ?_)
 refine W10 (.inr rfl) (Zi rfl rfl) ?_
 exact ⟨by rw [kp_3], rfl⟩
theorem keeps4 {x : SW} (H : Ze) (k : Int) (st l : List Int) (hs : ∀ s, s ∈ st → 0 ≤ s) (hl : st.length ≤ 1000000) : F (psys x) 118 [.agg [iI 4, iI k, fzI st], fzI l] H fun v G => v = .bool (kpL (4, k, st, ()) l) ∧ G = H := by
 refine Zr Tryd.func118 rfl u17 rfl ?_
 refine Zd (Za ?_)
 refine Lo u17 (Zy rfl rfl rfl) ?_
 refine Lo u17 (Zg (VVal.bool false) (.inr rfl) rfl) ?_
 refine Zf (Zc (Zd (Za ?_)))
 refine Lo u17 (v_val (u := .agg [.nilFunc, .func 139 [] [], .func 140 [] [], .func 141 [] [], .func 142 [] [], .func 143 [] []]) rfl rfl) ?_
 refine Lo u17 (ZA rfl rfl) ?_
 refine Lo u17 (W13 rfl rfl rfl rfl rfl rfl rfl) ?_
 refine Zf (Zc (Zd ?_))
 refine ZW [0, 1, 2, 3, 4, 5, 7, 8, 6, 9, 10] #[0, 1, 3, 7, 0, 0, 48, 0, 128, 511, 1023] XH6 XH6 XH6 ?_
 refine Oo u17 .calm rfl (rfl) ?_
 refine Yh (env' := u17) (x := .look _ _) rfl rfl rfl (W12 rfl rfl rfl rfl) rfl rfl rfl ?_
 refine Oo u17 .calm rfl XH43 ?_
 refine Yh (env' := u17) (x := .look _ _) rfl rfl rfl (W12 rfl rfl rfl rfl) rfl rfl rfl ?_
 refine Oo u17 .look rfl (W11 rfl rfl rfl rfl rfl) ?_
 refine Oo u17 .calm rfl (Zb (.inl rfl) rfl) ?_
 refine Oo u17 .calm rfl (rfl) ?_
 refine Yh (env' := u17) (x := .look _ _) rfl rfl rfl (W12 rfl rfl rfl rfl) rfl rfl rfl ?_
 refine Yf (env' := u17) rfl rfl rfl rfl rfl (by exact counted_spec _ (4, k, st, ()) _ hs hl) XH9 rfl rfl ?_
 refine Yf (env' := u17) rfl rfl rfl rfl rfl (by exact cfew_spec _ _ _ _ _) XH9 rfl rfl ?_
 refine Oo u17 .calm rfl (Zb (.inr rfl) rfl) ?_
 refine Z3 [_, _, _] (by rfl) (And.intro (And.intro (W12 rfl rfl rfl rfl) (W12 rfl rfl rfl rfl)) (And.intro (And.intro (W12 rfl rfl rfl rfl) (W12 rfl rfl rfl rfl)) (And.intro (And.intro (W12 rfl rfl rfl rfl) (W12 rfl rfl rfl rfl)) trivial))) ?_
 refine Zc (Zl ?_)
 refine W10 (.inr rfl) (Zi rfl rfl) ?_
 exact ⟨by rw [kp_4], rfl⟩
theorem keeps5 {x : SW} (H : Ze) (k : Int) (st l : List Int) (hs : ∀ s, s ∈ st → 0 ≤ s) (hl : st.length ≤ 1000000) : F (psys x) 118 [.agg [iI 5, iI k, fzI st], fzI l] H fun v G => v = .bool (kpL (5, k, st, ()) l) ∧ G = H := by
 refine Zr Tryd.func118 rfl u17 rfl ?_
 refine Zd (Za ?_)
 refine Lo u17 (Zy rfl rfl rfl) ?_
 refine Lo u17 (Zg (VVal.bool false) (.inr rfl) rfl) ?_
 refine Zf (Zc (Zd (Za ?_)))
 refine Lo u17 (v_val (u := .agg [.nilFunc, .func 139 [] [], .func 140 [] [], .func 141 [] [], .func 142 [] [], .func 143 [] []]) rfl rfl) ?_
 refine Lo u17 (ZA rfl rfl) ?_
 refine Lo u17 (W13 rfl rfl rfl rfl rfl rfl rfl) ?_
 refine Zf (Zc (Zd ?_))
 refine ZW [0, 1, 2, 3, 4, 5, 7, 8, 6, 9, 10] #[0, 1, 3, 7, 0, 0, 48, 0, 128, 511, 1023] XH6 XH6 XH6 ?_
 refine Oo u17 .calm rfl (rfl) ?_
 refine Yh (env' := u17) (x := .look _ _) rfl rfl rfl (W12 rfl rfl rfl rfl) rfl rfl rfl ?_
 refine Oo u17 .calm rfl XH43 ?_
 refine Yh (env' := u17) (x := .look _ _) rfl rfl rfl (W12 rfl rfl rfl rfl) rfl rfl rfl ?_
 refine Oo u17 .look rfl (W11 rfl rfl rfl rfl rfl) ?_
 refine Oo u17 .calm rfl (Zb (.inl rfl) rfl) ?_
 refine Oo u17 .calm rfl (rfl) ?_
 refine Yh (env' := u17) (x := .look _ _) rfl rfl rfl (W12 rfl rfl rfl rfl) rfl rfl rfl ?_
 refine Yf (env' := u17) rfl rfl rfl rfl rfl (by exact counted_spec _ (5, k, st, ()) _ hs hl) XH9 rfl rfl ?_
 refine Yf (env' := u17) rfl rfl rfl rfl rfl (by exact cmany_spec _ _ _ _ _ (cal_n hl)) XH9 rfl rfl ?_
 refine Oo u17 .calm rfl (Zb (.inr rfl) rfl) ?_
 refine Z3 [_, _, _] (by rfl) (And.intro (And.intro (W12 rfl rfl rfl rfl) (W12 rfl rfl rfl rfl)) (And.intro (And.intro (W12 rfl rfl rfl rfl) (W12 rfl rfl rfl rfl)) (And.intro (And.intro (W12 rfl rfl rfl rfl) (W12 rfl rfl rfl rfl)) trivial))) ?_
 refine Zc (Zl ?_)
 refine W10 (.inr rfl) (Zi rfl rfl) ?_
 exact ⟨by rw [kp_5], rfl⟩
theorem keeps_spec {x : SW} (H : Ze) (r : Rul) (l : List Int) (hk : 1 ≤ r.kind ∧ r.kind ≤ 5) (hs : ∀ s, s ∈ r.steps → 0 ≤ s) (hl : r.steps.length ≤ 1000000) : F (psys x) 118 [.agg (rlB r), fzI l] H fun v G => v = .bool (kpL r l) ∧ G = H := by
  obtain ⟨kd, k, st, ⟨⟩⟩ := r
  simp only [Rul.kind] at hk
  have h5 : kd = 1 ∨ kd = 2 ∨ kd = 3 ∨ kd = 4 ∨ kd = 5 := by omega
  rcases h5 with rfl | rfl | rfl | rfl | rfl
  · exact keeps1 H k st l hs hl
  · exact keeps2 H k st l hs hl
  · exact keeps3 H k st l hs hl
  · exact keeps4 H k st l hs hl
  · exact keeps5 H k st l hs hl
theorem rul_mem {l : List Rul} {k : Nat} (h : k < l.length) : l.getD k r0 ∈ l := by
  rw [List.getD_eq_getElem?_getD, List.getElem?_eq_getElem h]; simp
abbrev u25 {a0 a1 a2 a3 a4 a5 a6 a7 a8 a9 a10 a11 a12 a13 a14 a15 a16 a17 a18 a19 a20 a21 a22 a23 a24 : VVal} : VEnv := a0 :: a1 :: a2 :: a3 :: a4 :: a5 :: a6 :: a7 :: a8 :: a9 :: a10 :: a11 :: a12 :: a13 :: a14 :: a15 :: a16 :: a17 :: a18 :: a19 :: a20 :: a21 :: a22 :: a23 :: a24 :: []
abbrev u79 {a0 a1 a2 a3 a4 a5 a6 a7 a8 a9 a10 a11 a12 a13 a14 a15 a16 a17 a18 a19 a20 a21 a22 a23 a24 a25 a26 a27 a28 a29 a30 a31 a32 a33 a34 a35 a36 a37 a38 a39 a40 a41 a42 a43 a44 a45 a46 a47 a48 a49 a50 a51 a52 a53 a54 a55 a56 a57 a58 a59 a60 a61 a62 a63 a64 a65 a66 a67 a68 a69 a70 a71 a72 a73 a74 a75 a76 a77 a78 : VVal} : VEnv := a0 :: a1 :: a2 :: a3 :: a4 :: a5 :: a6 :: a7 :: a8 :: a9 :: a10 :: a11 :: a12 :: a13 :: a14 :: a15 :: a16 :: a17 :: a18 :: a19 :: a20 :: a21 :: a22 :: a23 :: a24 :: a25 :: a26 :: a27 :: a28 :: a29 :: a30 :: a31 :: a32 :: a33 :: a34 :: a35 :: a36 :: a37 :: a38 :: a39 :: a40 :: a41 :: a42 :: a43 :: a44 :: a45 :: a46 :: a47 :: a48 :: a49 :: a50 :: a51 :: a52 :: a53 :: a54 :: a55 :: a56 :: a57 :: a58 :: a59 :: a60 :: a61 :: a62 :: a63 :: a64 :: a65 :: a66 :: a67 :: a68 :: a69 :: a70 :: a71 :: a72 :: a73 :: a74 :: a75 :: a76 :: a77 :: a78 :: []
theorem W1j {T : TypeId → Option VTy} {H : Ze} {op : Op} {ρ : Operand → VVal} {t ty : TypeId} {x y : Operand} {n m : Int} (ho : op = .binOp .add t x y ty) (hx : ρ x = .int .i64 n) (hy : ρ y = .int .i64 m) (h : -9223372036854775808 ≤ n + m ∧ n + m < 9223372036854775808 := by exact ⟨by omega, Int.lt_of_le_of_lt (Int.add_le_add (by decide : _ ≤ (100 : Int)) (Int.ofNat_le.2 (ln_64 _))) (by decide)⟩) : vop T ρ H op = some (.int .i64 (n + m), H) := v_addI ho hx hy h
theorem W1l {P : Prop} (h : P := by first | omega | (have := e1 (by omega); have := e3 (by omega); have := e7 (by omega); omega)) : P := h
theorem W1n {T : TypeId → Option VTy} {H : Ze} {op : Op} {ρ : Operand → VVal} {t ty : TypeId} {x y : Operand} {n m : Int} (ho : op = .binOp .sub t x y ty) (hx : ρ x = .int .i64 n) (hy : ρ y = .int .i64 m) (h : -9223372036854775808 ≤ n - m ∧ n - m < 9223372036854775808 := by have h9 := ln_64 w; omega) : vop T ρ H op = some (.int .i64 (n - m), H) := v_subI ho hx hy h
theorem W1p {T : TypeId → Option VTy} {H : Ze} {op : Op} {ρ : Operand → VVal} {t : TypeId} {a : Operand} {y : VTy} {p v : VVal} (ho : op = .load t a) (ha : ρ a = p) (hy : T t = some y) (hd : Zm y.desc = false) (h : LdOk H p v := by first | exact .inl ⟨_, _, rfl, XH55⟩ | exact .inr ⟨_, _, _, _, rfl, XH47, XH55⟩) : vop T ρ H op = some (v, H) := v_ld ho ha hy hd h
theorem W1q {P : Prop} (h : P := by first | exact ⟨by rw [pck_2 (by omega)], rfl⟩ | exact ⟨by rw [pck_1 (by omega) (by omega)], rfl⟩ | exact ⟨by rw [pck_1w (i := k) hn1 hn2 (by omega) (okW_bad (by omega) (by omega))], rfl⟩ | exact ⟨by rw [pck_1r (i := m) hn1 hn2 (by omega) (fun e => by have := rcE_eq.2 e; omega)], rfl⟩ | exact ⟨by rw [pck_0 hn1 hn2 (fun i hi => hw i (by omega)) (fun i hi => hr i (by omega))], rfl⟩) : P := h
theorem W1s {T : TypeId → Option VTy} {H : Ze} {op : Op} {ρ : Operand → VVal} {t ty : TypeId} {x y : Operand} {n m : Int} (ho : op = .binOp .add t x y ty) (hx : ρ x = .int .i64 n) (hy : ρ y = .int .i64 m) (h : -9223372036854775808 ≤ n + m ∧ n + m < 9223372036854775808 := by omega) : vop T ρ H op = some (.int .i64 (n + m), H) := v_addI ho hx hy h
theorem W1t {T : TypeId → Option VTy} {H : Ze} {op : Op} {ρ : Operand → VVal} {t : TypeId} {a : Operand} {y : VTy} {p : VVal} {n : Nat} {vs : List VVal} (ho : op = .load t a) (ha : ρ a = p) (hy : T t = some y) (hd : Zm y.desc = true) (hn : y.size = n) (h : LdOkA H p n vs := by first | exact .inl ⟨_, _, rfl, XH55⟩ | exact .inr ⟨_, _, _, _, rfl, XH47, XH55⟩) : vop T ρ H op = some (.agg vs, H) := v_ldA ho ha hy hd hn h
theorem Len64_spec {x : SW} (H : Ze) (w : BitVec 64) : F (psys x) 81 [iW w] H fun v G => v = iI (ln w : Nat) ∧ G = H := by
 have hw := w.isLt; have d1 : (w >>> 32).toNat = w.toNat / 4294967296 := by rw [BitVec.toNat_ushiftRight, Nat.shiftRight_eq_div_pow]
 have d2 : (w >>> 16).toNat = w.toNat / 65536 := by rw [BitVec.toNat_ushiftRight, Nat.shiftRight_eq_div_pow]
 have d3 : (w >>> 8).toNat = w.toNat / 256 := by rw [BitVec.toNat_ushiftRight, Nat.shiftRight_eq_div_pow]
 have d4 : (w >>> 32 >>> 16).toNat = (w >>> 32).toNat / 65536 := by rw [BitVec.toNat_ushiftRight, Nat.shiftRight_eq_div_pow]
 have d5 : (w >>> 32 >>> 8).toNat = (w >>> 32).toNat / 256 := by rw [BitVec.toNat_ushiftRight, Nat.shiftRight_eq_div_pow]
 have d6 : (w >>> 16 >>> 8).toNat = (w >>> 16).toNat / 256 := by rw [BitVec.toNat_ushiftRight, Nat.shiftRight_eq_div_pow]
 have d7 : (w >>> 32 >>> 16 >>> 8).toNat = (w >>> 32 >>> 16).toNat / 256 := by rw [BitVec.toNat_ushiftRight, Nat.shiftRight_eq_div_pow]
 refine Zr Tryd.func81 rfl u25 rfl ?_
 refine Zd (Za ?_)
 refine Lo u25 (Zg (VVal.int .i64 0) (.inr rfl) rfl) ?_
 refine Zf (Zc (Zd (Zd (Za ?_))))
 refine Lo u25 (Zb (.inl rfl) rfl) ?_
 refine Lo u25 (rfl) ?_
 refine Zf (Zc ?_)
 refine Zo _ rfl (fun hc1 => ?_) (fun hc1 => ?_)
 ·try simp only [qB] at hc1
  refine Zd (Za ?_)
  refine Lo u25 (Zb (.inl rfl) rfl) ?_
  refine Lo u25 (v_shrN 32 rfl rfl rfl) ?_
  refine Lo u25 (Zb (.inr rfl) rfl) ?_
  refine Zf (Zc (Za ?_))
  refine Lo u25 (Zg (VVal.int .i64 32) (.inr rfl) rfl) ?_
  refine Zf (Zc (Zd (Zd (Za ?_))))
  refine Lo u25 (Zb (.inl rfl) rfl) ?_
  refine Lo u25 (rfl) ?_
  refine Zf (Zc ?_)
  refine Zo _ rfl (fun hc2 => ?_) (fun hc2 => ?_)
  ·try simp only [qB] at hc2
   refine Zd (Za ?_)
   refine Lo u25 (Zb (.inl rfl) rfl) ?_
   refine Lo u25 (v_shrN 16 rfl rfl rfl) ?_
   refine Lo u25 (Zb (.inr rfl) rfl) ?_
   refine Zf (Zc (Za ?_))
   refine Lo u25 (Zb (.inl rfl) rfl) ?_
   refine Lo u25 (W14 rfl rfl rfl) ?_
   refine Lo u25 (Zb (.inr rfl) rfl) ?_
   refine Zf (Zc (Zd (Zd (Za ?_))))
   refine Lo u25 (Zb (.inl rfl) rfl) ?_
   refine Lo u25 (rfl) ?_
   refine Zf (Zc ?_)
   refine Zo _ rfl (fun hc3 => ?_) (fun hc3 => ?_)
   ·try simp only [qB] at hc3
    refine Zd (Za ?_)
    refine Lo u25 (Zb (.inl rfl) rfl) ?_
    refine Lo u25 (v_shrN 8 rfl rfl rfl) ?_
    refine Lo u25 (Zb (.inr rfl) rfl) ?_
    refine Zf (Zc (Za ?_))
    refine Lo u25 (Zb (.inl rfl) rfl) ?_
    refine Lo u25 (W14 rfl rfl rfl) ?_
    refine Lo u25 (Zb (.inr rfl) rfl) ?_
    refine Zf (Zc (Zd (Za ?_)))
    refine Lo u25 (Zb (.inl rfl) rfl) ?_
    refine Lo u25 (Zb (.inl rfl) rfl) ?_
    refine Lo u25 (rfl) ?_
    refine Lo u25 (v_l8 rfl rfl XH6 rfl rfl rfl (by omega)) ?_
    refine Lo u25 (v_cvI rfl rfl rfl rfl rfl XH13) ?_
    refine Lo u25 (W1j rfl rfl rfl) ?_
    refine Lo u25 (Zb (.inr rfl) rfl) ?_
    refine Zf (Zc (Zl ?_))
    refine W10 (.inr rfl) (Zi rfl rfl) ?_
    have e1 := fun h => @ZM w 32 h
    have e2 := fun h => @ZM w 16 h
    have e3 := fun h => @ZM (w >>> 32) 16 h
    have e4 := fun h => @ZM w 8 h
    have e5 := fun h => @ZM (w >>> 32) 8 h
    have e6 := fun h => @ZM (w >>> 16) 8 h
    have e7 := fun h => @ZM (w >>> 32 >>> 16) 8 h
    simp only [show (2 : Nat) ^ 32 = 4294967296 from rfl, show (2 : Nat) ^ 16 = 65536 from rfl, show (2 : Nat) ^ 8 = 256 from rfl] at e1 e2 e3 e4 e5 e6 e7
    refine ⟨congrArg iI ?_, rfl⟩
    exact W1l
   ·try simp only [qB] at hc3
    refine Zk (Zc (Zd (Za ?_)))
    refine Lo u25 (Zb (.inl rfl) rfl) ?_
    refine Lo u25 (Zb (.inl rfl) rfl) ?_
    refine Lo u25 (rfl) ?_
    refine Lo u25 (v_l8 rfl rfl XH6 rfl rfl rfl (by omega)) ?_
    refine Lo u25 (v_cvI rfl rfl rfl rfl rfl XH13) ?_
    refine Lo u25 (W1j rfl rfl rfl) ?_
    refine Lo u25 (Zb (.inr rfl) rfl) ?_
    refine Zf (Zc (Zl ?_))
    refine W10 (.inr rfl) (Zi rfl rfl) ?_
    have e1 := fun h => @ZM w 32 h
    have e2 := fun h => @ZM w 16 h
    have e3 := fun h => @ZM (w >>> 32) 16 h
    have e4 := fun h => @ZM w 8 h
    have e5 := fun h => @ZM (w >>> 32) 8 h
    have e6 := fun h => @ZM (w >>> 16) 8 h
    have e7 := fun h => @ZM (w >>> 32 >>> 16) 8 h
    simp only [show (2 : Nat) ^ 32 = 4294967296 from rfl, show (2 : Nat) ^ 16 = 65536 from rfl, show (2 : Nat) ^ 8 = 256 from rfl] at e1 e2 e3 e4 e5 e6 e7
    refine ⟨congrArg iI ?_, rfl⟩
    exact W1l
  ·try simp only [qB] at hc2
   refine Zk (Zc (Zd (Zd (Za ?_))))
   refine Lo u25 (Zb (.inl rfl) rfl) ?_
   refine Lo u25 (rfl) ?_
   refine Zf (Zc ?_)
   refine Zo _ rfl (fun hc4 => ?_) (fun hc4 => ?_)
   ·try simp only [qB] at hc4
    refine Zd (Za ?_)
    refine Lo u25 (Zb (.inl rfl) rfl) ?_
    refine Lo u25 (v_shrN 8 rfl rfl rfl) ?_
    refine Lo u25 (Zb (.inr rfl) rfl) ?_
    refine Zf (Zc (Za ?_))
    refine Lo u25 (Zb (.inl rfl) rfl) ?_
    refine Lo u25 (W14 rfl rfl rfl) ?_
    refine Lo u25 (Zb (.inr rfl) rfl) ?_
    refine Zf (Zc (Zd (Za ?_)))
    refine Lo u25 (Zb (.inl rfl) rfl) ?_
    refine Lo u25 (Zb (.inl rfl) rfl) ?_
    refine Lo u25 (rfl) ?_
    refine Lo u25 (v_l8 rfl rfl XH6 rfl rfl rfl (by omega)) ?_
    refine Lo u25 (v_cvI rfl rfl rfl rfl rfl XH13) ?_
    refine Lo u25 (W1j rfl rfl rfl) ?_
    refine Lo u25 (Zb (.inr rfl) rfl) ?_
    refine Zf (Zc (Zl ?_))
    refine W10 (.inr rfl) (Zi rfl rfl) ?_
    have e1 := fun h => @ZM w 32 h
    have e2 := fun h => @ZM w 16 h
    have e3 := fun h => @ZM (w >>> 32) 16 h
    have e4 := fun h => @ZM w 8 h
    have e5 := fun h => @ZM (w >>> 32) 8 h
    have e6 := fun h => @ZM (w >>> 16) 8 h
    have e7 := fun h => @ZM (w >>> 32 >>> 16) 8 h
    simp only [show (2 : Nat) ^ 32 = 4294967296 from rfl, show (2 : Nat) ^ 16 = 65536 from rfl, show (2 : Nat) ^ 8 = 256 from rfl] at e1 e2 e3 e4 e5 e6 e7
    refine ⟨congrArg iI ?_, rfl⟩
    exact W1l
   ·try simp only [qB] at hc4
    refine Zk (Zc (Zd (Za ?_)))
    refine Lo u25 (Zb (.inl rfl) rfl) ?_
    refine Lo u25 (Zb (.inl rfl) rfl) ?_
    refine Lo u25 (rfl) ?_
    refine Lo u25 (v_l8 rfl rfl XH6 rfl rfl rfl (by omega)) ?_
    refine Lo u25 (v_cvI rfl rfl rfl rfl rfl XH13) ?_
    refine Lo u25 (W1j rfl rfl rfl) ?_
    refine Lo u25 (Zb (.inr rfl) rfl) ?_
    refine Zf (Zc (Zl ?_))
    refine W10 (.inr rfl) (Zi rfl rfl) ?_
    have e1 := fun h => @ZM w 32 h
    have e2 := fun h => @ZM w 16 h
    have e3 := fun h => @ZM (w >>> 32) 16 h
    have e4 := fun h => @ZM w 8 h
    have e5 := fun h => @ZM (w >>> 32) 8 h
    have e6 := fun h => @ZM (w >>> 16) 8 h
    have e7 := fun h => @ZM (w >>> 32 >>> 16) 8 h
    simp only [show (2 : Nat) ^ 32 = 4294967296 from rfl, show (2 : Nat) ^ 16 = 65536 from rfl, show (2 : Nat) ^ 8 = 256 from rfl] at e1 e2 e3 e4 e5 e6 e7
    refine ⟨congrArg iI ?_, rfl⟩
    exact W1l
 ·try simp only [qB] at hc1
  refine Zk (Zc (Zd (Zd (Za ?_))))
  refine Lo u25 (Zb (.inl rfl) rfl) ?_
  refine Lo u25 (rfl) ?_
  refine Zf (Zc ?_)
  refine Zo _ rfl (fun hc5 => ?_) (fun hc5 => ?_)
  ·try simp only [qB] at hc5
   refine Zd (Za ?_)
   refine Lo u25 (Zb (.inl rfl) rfl) ?_
   refine Lo u25 (v_shrN 16 rfl rfl rfl) ?_
   refine Lo u25 (Zb (.inr rfl) rfl) ?_
   refine Zf (Zc (Za ?_))
   refine Lo u25 (Zb (.inl rfl) rfl) ?_
   refine Lo u25 (W14 rfl rfl rfl) ?_
   refine Lo u25 (Zb (.inr rfl) rfl) ?_
   refine Zf (Zc (Zd (Zd (Za ?_))))
   refine Lo u25 (Zb (.inl rfl) rfl) ?_
   refine Lo u25 (rfl) ?_
   refine Zf (Zc ?_)
   refine Zo _ rfl (fun hc6 => ?_) (fun hc6 => ?_)
   ·try simp only [qB] at hc6
    refine Zd (Za ?_)
    refine Lo u25 (Zb (.inl rfl) rfl) ?_
    refine Lo u25 (v_shrN 8 rfl rfl rfl) ?_
    refine Lo u25 (Zb (.inr rfl) rfl) ?_
    refine Zf (Zc (Za ?_))
    refine Lo u25 (Zb (.inl rfl) rfl) ?_
    refine Lo u25 (W14 rfl rfl rfl) ?_
    refine Lo u25 (Zb (.inr rfl) rfl) ?_
    refine Zf (Zc (Zd (Za ?_)))
    refine Lo u25 (Zb (.inl rfl) rfl) ?_
    refine Lo u25 (Zb (.inl rfl) rfl) ?_
    refine Lo u25 (rfl) ?_
    refine Lo u25 (v_l8 rfl rfl XH6 rfl rfl rfl (by omega)) ?_
    refine Lo u25 (v_cvI rfl rfl rfl rfl rfl XH13) ?_
    refine Lo u25 (W1j rfl rfl rfl) ?_
    refine Lo u25 (Zb (.inr rfl) rfl) ?_
    refine Zf (Zc (Zl ?_))
    refine W10 (.inr rfl) (Zi rfl rfl) ?_
    have e1 := fun h => @ZM w 32 h
    have e2 := fun h => @ZM w 16 h
    have e3 := fun h => @ZM (w >>> 32) 16 h
    have e4 := fun h => @ZM w 8 h
    have e5 := fun h => @ZM (w >>> 32) 8 h
    have e6 := fun h => @ZM (w >>> 16) 8 h
    have e7 := fun h => @ZM (w >>> 32 >>> 16) 8 h
    simp only [show (2 : Nat) ^ 32 = 4294967296 from rfl, show (2 : Nat) ^ 16 = 65536 from rfl, show (2 : Nat) ^ 8 = 256 from rfl] at e1 e2 e3 e4 e5 e6 e7
    refine ⟨congrArg iI ?_, rfl⟩
    exact W1l
   ·try simp only [qB] at hc6
    refine Zk (Zc (Zd (Za ?_)))
    refine Lo u25 (Zb (.inl rfl) rfl) ?_
    refine Lo u25 (Zb (.inl rfl) rfl) ?_
    refine Lo u25 (rfl) ?_
    refine Lo u25 (v_l8 rfl rfl XH6 rfl rfl rfl (by omega)) ?_
    refine Lo u25 (v_cvI rfl rfl rfl rfl rfl XH13) ?_
    refine Lo u25 (W1j rfl rfl rfl) ?_
    refine Lo u25 (Zb (.inr rfl) rfl) ?_
    refine Zf (Zc (Zl ?_))
    refine W10 (.inr rfl) (Zi rfl rfl) ?_
    have e1 := fun h => @ZM w 32 h
    have e2 := fun h => @ZM w 16 h
    have e3 := fun h => @ZM (w >>> 32) 16 h
    have e4 := fun h => @ZM w 8 h
    have e5 := fun h => @ZM (w >>> 32) 8 h
    have e6 := fun h => @ZM (w >>> 16) 8 h
    have e7 := fun h => @ZM (w >>> 32 >>> 16) 8 h
    simp only [show (2 : Nat) ^ 32 = 4294967296 from rfl, show (2 : Nat) ^ 16 = 65536 from rfl, show (2 : Nat) ^ 8 = 256 from rfl] at e1 e2 e3 e4 e5 e6 e7
    refine ⟨congrArg iI ?_, rfl⟩
    exact W1l
  ·try simp only [qB] at hc5
   refine Zk (Zc (Zd (Zd (Za ?_))))
   refine Lo u25 (Zb (.inl rfl) rfl) ?_
   refine Lo u25 (rfl) ?_
   refine Zf (Zc ?_)
   refine Zo _ rfl (fun hc7 => ?_) (fun hc7 => ?_)
   ·try simp only [qB] at hc7
    refine Zd (Za ?_)
    refine Lo u25 (Zb (.inl rfl) rfl) ?_
    refine Lo u25 (v_shrN 8 rfl rfl rfl) ?_
    refine Lo u25 (Zb (.inr rfl) rfl) ?_
    refine Zf (Zc (Za ?_))
    refine Lo u25 (Zb (.inl rfl) rfl) ?_
    refine Lo u25 (W14 rfl rfl rfl) ?_
    refine Lo u25 (Zb (.inr rfl) rfl) ?_
    refine Zf (Zc (Zd (Za ?_)))
    refine Lo u25 (Zb (.inl rfl) rfl) ?_
    refine Lo u25 (Zb (.inl rfl) rfl) ?_
    refine Lo u25 (rfl) ?_
    refine Lo u25 (v_l8 rfl rfl XH6 rfl rfl rfl (by omega)) ?_
    refine Lo u25 (v_cvI rfl rfl rfl rfl rfl XH13) ?_
    refine Lo u25 (W1j rfl rfl rfl) ?_
    refine Lo u25 (Zb (.inr rfl) rfl) ?_
    refine Zf (Zc (Zl ?_))
    refine W10 (.inr rfl) (Zi rfl rfl) ?_
    have e1 := fun h => @ZM w 32 h
    have e2 := fun h => @ZM w 16 h
    have e3 := fun h => @ZM (w >>> 32) 16 h
    have e4 := fun h => @ZM w 8 h
    have e5 := fun h => @ZM (w >>> 32) 8 h
    have e6 := fun h => @ZM (w >>> 16) 8 h
    have e7 := fun h => @ZM (w >>> 32 >>> 16) 8 h
    simp only [show (2 : Nat) ^ 32 = 4294967296 from rfl, show (2 : Nat) ^ 16 = 65536 from rfl, show (2 : Nat) ^ 8 = 256 from rfl] at e1 e2 e3 e4 e5 e6 e7
    refine ⟨congrArg iI ?_, rfl⟩
    exact W1l
   ·try simp only [qB] at hc7
    refine Zk (Zc (Zd (Za ?_)))
    refine Lo u25 (Zb (.inl rfl) rfl) ?_
    refine Lo u25 (Zb (.inl rfl) rfl) ?_
    refine Lo u25 (rfl) ?_
    refine Lo u25 (v_l8 rfl rfl XH6 rfl rfl rfl (by omega)) ?_
    refine Lo u25 (v_cvI rfl rfl rfl rfl rfl XH13) ?_
    refine Lo u25 (W1j rfl rfl rfl) ?_
    refine Lo u25 (Zb (.inr rfl) rfl) ?_
    refine Zf (Zc (Zl ?_))
    refine W10 (.inr rfl) (Zi rfl rfl) ?_
    have e1 := fun h => @ZM w 32 h
    have e2 := fun h => @ZM w 16 h
    have e3 := fun h => @ZM (w >>> 32) 16 h
    have e4 := fun h => @ZM w 8 h
    have e5 := fun h => @ZM (w >>> 32) 8 h
    have e6 := fun h => @ZM (w >>> 16) 8 h
    have e7 := fun h => @ZM (w >>> 32 >>> 16) 8 h
    simp only [show (2 : Nat) ^ 32 = 4294967296 from rfl, show (2 : Nat) ^ 16 = 65536 from rfl, show (2 : Nat) ^ 8 = 256 from rfl] at e1 e2 e3 e4 e5 e6 e7
    refine ⟨congrArg iI ?_, rfl⟩
    exact W1l
theorem High_spec {x : SW} (H : Ze) (w : BitVec 64) : F (psys x) 49 [.agg [iW w]] H fun v G => v = iI ((ln w : Nat) - 1) ∧ G = H := by
 refine Zr Tryd.func49 rfl u7 rfl ?_
 refine Zd (Za ?_)
 refine Lo u7 (Zy rfl rfl rfl) ?_
 refine Lo u7 (Zg (VVal.int .i64 0) (.inr rfl) rfl) ?_
 refine Zf (Zc (Zd (Za ?_)))
 refine Lo u7 (rfl) ?_
 refine Lo u7 (W12 rfl rfl rfl rfl) ?_
 refine Zn rfl rfl rfl (by exact Len64_spec _ _) ?_
 rintro _ _ ⟨rfl, rfl⟩
 refine Le u7 ?_
 refine Lo u7 (W1n rfl rfl rfl) ?_
 refine Lo u7 (Zb (.inr rfl) rfl) ?_
 refine Zf (Zc (Zl ?_))
 refine W10 (.inr rfl) (Zi rfl rfl) ?_
 exact ⟨rfl, rfl⟩
structure PbL (p : Pb) : Prop where
  u : -9223372036854775808 ≤ p.users ∧ p.users < 9223372036854775808
  w : p.who.length ≤ 1000000
  f : p.fixed.length ≤ 1000000
  r : p.rules.length ≤ 1000000
  s : ∀ r, r ∈ p.rules → r.steps.length ≤ 1000000
theorem okW_bad {u f : Int} {w : BitVec 64} (hu : 0 ≤ u) (h : f < -1 ∨ u ≤ f ∨ u ≤ (ln w : Int) - 1) : okW u f w = false := by
  unfold okW
  rcases h with h | h | h
  · rw [decide_eq_false (by omega), Bool.false_and]
  · rw [decide_eq_false (by omega), Bool.false_and]
  · rw [decide_eq_false ((ln_high hu).1 h), Bool.and_false]
theorem okW_ok {u f : Int} {w : BitVec 64} (hu : 0 ≤ u) (h1 : -1 ≤ f) (h2 : f < u) (h : ¬ u ≤ (ln w : Int) - 1) : okW u f w = true := by
  unfold okW
  rw [decide_eq_true ⟨h1, h2⟩, decide_eq_true (Decidable.of_not_not fun e => h ((ln_high hu).2 e))]; rfl
theorem pck_2 {p : Pb} (h : 12 < p.who.length ∨ 64 < p.users ∨ 32 < p.rules.length) : pck p = 2 := if_pos h
theorem pck_1 {p : Pb} (h : ¬ (12 < p.who.length ∨ 64 < p.users ∨ 32 < p.rules.length)) (h2 : p.users < 0 ∨ p.fixed.length ≠ p.who.length) : pck p = 1 := by unfold pck; rw [if_neg h, if_pos h2]
theorem pck_1w {p : Pb} (h : ¬ (12 < p.who.length ∨ 64 < p.users ∨ 32 < p.rules.length)) (h2 : ¬ (p.users < 0 ∨ p.fixed.length ≠ p.who.length)) {i : Nat} (hi : i < p.who.length) (h3 : okW p.users (p.fixed.getD i 0) (p.who.getD i 0) = false) : pck p = 1 := by
  unfold pck; rw [if_neg h, if_neg h2, if_neg]
  intro e
  rw [Bool.and_eq_true, List.all_eq_true] at e
  have := e.1 i (List.mem_range.2 hi); rw [h3] at this; cases this
theorem pck_1r {p : Pb} (h : ¬ (12 < p.who.length ∨ 64 < p.users ∨ 32 < p.rules.length)) (h2 : ¬ (p.users < 0 ∨ p.fixed.length ≠ p.who.length)) {i : Nat} (hi : i < p.rules.length) (h3 : ¬ rck p.who.length (p.rules.getD i r0) = true) : pck p = 1 := by
  unfold pck; rw [if_neg h, if_neg h2, if_neg]
  intro e
  rw [Bool.and_eq_true, List.all_eq_true, List.all_eq_true] at e
  exact h3 (e.2 _ (rul_mem hi))
theorem all_at {rs : List Rul} {f : Rul → Bool} (h : ∀ i, i < rs.length → f (rs.getD i r0) = true) : ∀ r, r ∈ rs → f r = true := fun r hr => by
  obtain ⟨i, hi, e⟩ := List.getElem_of_mem hr
  have := h i hi
  rw [List.getD_eq_getElem?_getD, List.getElem?_eq_getElem hi] at this
  simpa [e] using this
theorem pck_0 {p : Pb} (h : ¬ (12 < p.who.length ∨ 64 < p.users ∨ 32 < p.rules.length)) (h2 : ¬ (p.users < 0 ∨ p.fixed.length ≠ p.who.length)) (h3 : ∀ i, i < p.who.length → okW p.users (p.fixed.getD i 0) (p.who.getD i 0) = true) (h4 : ∀ i, i < p.rules.length → rck p.who.length (p.rules.getD i r0) = true) : pck p = 0 :=
  pck_good.2 ⟨by omega, by omega, by omega, by omega, by omega, h3, all_at h4⟩
theorem pb_under {n : Nat} {p : Pb} : (VVal.agg (pbB p)).under n = true := by
  simp [VVal.under, VVal.underL, fzR, fzI_under, Yr, fm_under (f := rlB) (fun a => by simp [VVal.underL, VVal.under, fzI_under])]
theorem sset_spec {x : SW} (H : Ze) (w : BitVec 64) : F (psys x) 48 [iW w] H fun v G => v = .agg [iW w] ∧ G = H := by
 refine Zr Tryd.func48 rfl u6 rfl ?_
 refine Zd (Za ?_)
 refine Lo u6 (ZA rfl rfl) ?_
 refine Zf (Zc (Zd (Za ?_)))
 refine Lo u6 (rfl) ?_
 refine Lo u6 (Zb (.inl rfl) rfl) ?_
 refine Zn rfl rfl rfl (by exact Of_spec _ 0#64 _) ?_
 rintro _ _ ⟨rfl, rfl⟩
 refine Le u6 ?_
 refine Lo u6 (W13 rfl rfl rfl rfl rfl rfl rfl) ?_
 refine Zf (Zc (Zl ?_))
 refine W10 (.inr rfl) (Yz rfl rfl rfl rfl XH0 XH4) ?_
 exact ⟨rfl, rfl⟩
theorem Y8 {x : SW} (H : Ze) (p : Pb) (hp : PbL p) : F (psys x) 18 [.agg (pbB p)] H fun v G => v = iI (pck p) ∧ G = H := by
 have hp1 := hp.u; have hp2 := hp.w; have hp3 := hp.f; have hp4 := hp.r
 refine Zr Tryd.func18 rfl u79 rfl ?_
 refine Zd (Za ?_)
 refine Lo u79 (Zy rfl rfl rfl) ?_
 refine Lo u79 (Zg (VVal.int .i64 0) (.inr rfl) rfl) ?_
 refine Zf (Zc (Zd (Za ?_)))
 refine Lo u79 (rfl) ?_
 refine Lo u79 (W1p rfl rfl rfl rfl) ?_
 refine Lo u79 (rfl) ?_
 refine Lo u79 (Zb (.inr rfl) rfl) ?_
 refine Zf (Zc (Zd (Zj (Zd (Za ?_)))))
 refine Lo u79 (Zb (.inl rfl) rfl) ?_
 refine Lo u79 (rfl) ?_
 refine Lo u79 (Zb (.inl rfl) rfl) ?_
 refine ZL 15 (env1 := u79) (env2 := u79) rfl rfl rfl (fun hg1 => ?_) (fun hg1 => ?_)
 ·try simp only [qB, qN] at hg1
  refine Lf u79 ?_
  refine Lf u79 ?_
  refine Lf u79 ?_
  refine Lo u79 (ZY (VVal.bool true) rfl rfl rfl) ?_
  refine Lo u79 (Zb (.inl rfl) rfl) ?_
  refine Lf u79 ?_
  refine Lf u79 ?_
  refine Lf u79 ?_
  refine Lf u79 ?_
  refine Lo u79 (ZY (VVal.bool true) rfl rfl rfl) ?_
  refine Lo u79 (Zb (.inr rfl) rfl) ?_
  refine Zf (Zc ?_)
  refine Z0 rfl rfl ?_
  refine Zd (Za ?_)
  refine Lo u79 (Zg (VVal.int .i64 2) (.inr rfl) rfl) ?_
  refine Zf (Zc (Zl (ZX (Zt ?_))))
  refine W10 (.inr rfl) (Zi rfl rfl) ?_
  exact W1q
 ·try simp only [qB, qN] at hg1
  refine Lo u79 (rfl) ?_
  refine Lo u79 (W1p rfl rfl rfl rfl) ?_
  refine Lo u79 (rfl) ?_
  refine Lo u79 (ZQ rfl rfl rfl) ?_
  refine Lo u79 (Zb (.inl rfl) rfl) ?_
  refine ZL 20 (env1 := u79) (env2 := u79) rfl rfl rfl (fun hg2 => ?_) (fun hg2 => ?_)
  ·try simp only [qB, qN] at hg2
   refine Lf u79 ?_
   refine Lf u79 ?_
   refine Lf u79 ?_
   refine Lf u79 ?_
   refine Lo u79 (ZY (VVal.bool true) rfl rfl rfl) ?_
   refine Lo u79 (Zb (.inr rfl) rfl) ?_
   refine Zf (Zc ?_)
   refine Z0 rfl rfl ?_
   refine Zd (Za ?_)
   refine Lo u79 (Zg (VVal.int .i64 2) (.inr rfl) rfl) ?_
   refine Zf (Zc (Zl (ZX (Zt ?_))))
   refine W10 (.inr rfl) (Zi rfl rfl) ?_
   exact W1q
  ·try simp only [qB, qN] at hg2
   refine Lo u79 (rfl) ?_
   refine Lo u79 (W1p rfl rfl rfl rfl) ?_
   refine Lo u79 (rfl) ?_
   refine Lo u79 (rfl) ?_
   refine Lo u79 (ZQ rfl rfl rfl) ?_
   refine Lo u79 (Zb (.inr rfl) rfl) ?_
   refine Zf (Zc ?_)
   refine Zo _ rfl (fun hc3 => ?_) (fun hc3 => ?_)
   ·try simp only [qB, qN] at hc3
    refine Zd (Za ?_)
    refine Lo u79 (Zg (VVal.int .i64 2) (.inr rfl) rfl) ?_
    refine Zf (Zc (Zl (ZX (Zt ?_))))
    refine W10 (.inr rfl) (Zi rfl rfl) ?_
    exact W1q
   ·try simp only [qB, qN] at hc3
    refine Zd (Za ?_)
    refine Lo u79 (rfl) ?_
    refine Lo u79 (W1p rfl rfl rfl rfl) ?_
    refine Lo u79 (rfl) ?_
    refine Lo u79 (Zb (.inl rfl) rfl) ?_
    refine ZL 30 (env1 := u79) (env2 := u79) rfl rfl rfl (fun hg4 => ?_) (fun hg4 => ?_)
    ·try simp only [qB, qN] at hg4
     refine Lf u79 ?_
     refine Lf u79 ?_
     refine Lf u79 ?_
     refine Lf u79 ?_
     refine Lf u79 ?_
     refine Lo u79 (ZY (VVal.bool true) rfl rfl rfl) ?_
     refine Lo u79 (Zb (.inr rfl) rfl) ?_
     refine Zf (Zc ?_)
     refine Z0 rfl rfl ?_
     refine Zd (Za ?_)
     refine Lo u79 (Zg (VVal.int .i64 1) (.inr rfl) rfl) ?_
     refine Zf (Zc (Zl (ZX (Zt ?_))))
     refine W10 (.inr rfl) (Zi rfl rfl) ?_
     exact W1q
    ·try simp only [qB, qN] at hg4
     refine Lo u79 (rfl) ?_
     refine Lo u79 (W1p rfl rfl rfl rfl) ?_
     refine Lo u79 (rfl) ?_
     refine Lo u79 (Zb (.inl rfl) rfl) ?_
     refine Lo u79 (rfl) ?_
     refine Lo u79 (ZQ rfl rfl rfl) ?_
     refine Lo u79 (Zb (.inr rfl) rfl) ?_
     refine Zf (Zc ?_)
     refine Zo _ rfl (fun hc5 => ?_) (fun hc5 => ?_)
     ·try simp only [qB, qN] at hc5
      refine Zd (Za ?_)
      refine Lo u79 (Zg (VVal.int .i64 1) (.inr rfl) rfl) ?_
      refine Zf (Zc (Zl (ZX (Zt ?_))))
      refine W10 (.inr rfl) (Zi rfl rfl) ?_
      exact W1q
     ·try simp only [qB, qN] at hc5
      refine Zk (Zu (Zc (Zd (Zd ?_))))
      have hn1 : ¬ (12 < p.who.length ∨ 64 < p.users ∨ 32 < p.rules.length) := by omega
      have hn2 : ¬ (p.users < 0 ∨ p.fixed.length ≠ p.who.length) := by omega
      refine Za ?_
      refine Lo u79 (rfl) ?_
      refine Lo u79 (W1p rfl rfl rfl rfl) ?_
      refine Lo u79 (rfl) ?_
      refine Lo u79 (Zg (VVal.int .i64 0) (.inl rfl) rfl) ?_
      refine Zf (Zc (Zj ?_))
      refine ZC (mk 79 604462909805390442004469) (env' := u79) rfl ?_
      refine ZJ (fun (k : Nat) => p.who.length - k) (fun (k : Nat) => [(40, iI (k : Nat))]) (fun (k : Nat) G => (k ≤ p.who.length ∧ ∀ i, i < k → okW p.users (p.fixed.getD i 0) (p.who.getD i 0) = true) ∧ G = H ++ [.cells (pbB p) true]) 0 rfl ?_ ?_
      ·refine ⟨?_, rfl⟩
       exact ⟨Nat.zero_le _, fun i h => by omega⟩
      rintro k _ ⟨⟨hk, hw⟩, rfl⟩
      refine ZU (env' := u79) rfl ?_
      refine Zd (Za ?_)
      refine Lo u79 (rfl) ?_
      refine Zf (Zc (Zd ?_))
      refine Zo _ rfl (fun hc6 => ?_) (fun hc6 => ?_)
      ·try simp only [qB, qN] at hc6
       refine Zk (Zc (Zd (Zj (Zd (Za ?_)))))
       refine Lo u79 (Zb (.inl rfl) rfl) ?_
       refine Lo u79 (W18 rfl rfl rfl rfl rfl rfl rfl) ?_
       refine Lo u79 (W1p rfl rfl rfl rfl) ?_
       refine Lo u79 (Zb (.inr rfl) rfl) ?_
       refine Lo u79 (Zb (.inr rfl) rfl) ?_
       refine Zf (Zc (Zd (Za ?_)))
       refine Lo u79 (rfl) ?_
       refine Lo u79 (W1p rfl rfl rfl rfl) ?_
       refine Lo u79 (Zb (.inl rfl) rfl) ?_
       refine Lo u79 (W18 rfl rfl rfl rfl rfl rfl rfl) ?_
       refine Lo u79 (W1p rfl rfl rfl rfl) ?_
       refine Lo u79 (Zb (.inr rfl) rfl) ?_
       refine Zf (Zc (Zd ?_))
       refine ZW [0, 1, 2, 3, 4, 5, 6, 7, 8, 9, 12, 13, 10, 11, 14, 15] #[0, 1, 3, 7, 7, 23, 63, 127, 255, 511, 1023, 2047, 511, 4607, 16383, 32767] XH6 XH6 XH6 ?_
       refine Oo u79 .calm rfl (Zb (.inl rfl) rfl) ?_
       refine Oo u79 .calm rfl (rfl) ?_
       refine Oo u79 .calm rfl (Zb (.inl rfl) rfl) ?_
       refine O_split 52 (env1 := u79) (env2 := u79) rfl rfl rfl (fun hg7 => ?_) (fun hg7 => ?_)
       ·try simp only [qB, qN] at hg7
        refine Of u79 rfl ?_
        refine Of u79 rfl ?_
        refine Of u79 rfl ?_
        refine Of u79 rfl ?_
        refine Oo u79 .calm rfl (ZY (VVal.bool true) rfl rfl rfl) ?_
        refine Oo u79 .calm rfl (Zb (.inl rfl) rfl) ?_
        refine Of u79 rfl ?_
        refine Of u79 rfl ?_
        refine Of u79 rfl ?_
        refine Of u79 rfl ?_
        refine Of u79 rfl ?_
        refine Of u79 rfl ?_
        refine Oo u79 .calm rfl (ZY (VVal.bool true) rfl rfl rfl) ?_
        refine Z3 [] XH6 (trivial) ?_
        refine Zc ?_
        refine Z0 rfl rfl ?_
        refine Zd (Za ?_)
        refine Lo u79 (Zg (VVal.int .i64 1) (.inr rfl) rfl) ?_
        refine Zf (Zc (Zl (ZX (Zt (Y2 (ZX (Zt ?_)))))))
        refine W10 (.inr rfl) (Zi rfl rfl) ?_
        exact W1q
       ·try simp only [qB, qN] at hg7
        refine Oo u79 .calm rfl (Zb (.inl rfl) rfl) ?_
        refine Oo u79 .calm rfl (rfl) ?_
        refine Oo u79 .look rfl (W1p rfl rfl rfl rfl) ?_
        refine Oo u79 .calm rfl (rfl) ?_
        refine Oo u79 .calm rfl (ZQ rfl rfl rfl) ?_
        refine Oo u79 .calm rfl (Zb (.inl rfl) rfl) ?_
        refine O_split 58 (env1 := u79) (env2 := u79) rfl rfl rfl (fun hg8 => ?_) (fun hg8 => ?_)
        ·try simp only [qB, qN] at hg8
         refine Of u79 rfl ?_
         refine Of u79 rfl ?_
         refine Of u79 rfl ?_
         refine Of u79 rfl ?_
         refine Of u79 rfl ?_
         refine Of u79 rfl ?_
         refine Oo u79 .calm rfl (ZY (VVal.bool true) rfl rfl rfl) ?_
         refine Z3 [] XH6 (trivial) ?_
         refine Zc ?_
         refine Z0 rfl rfl ?_
         refine Zd (Za ?_)
         refine Lo u79 (Zg (VVal.int .i64 1) (.inr rfl) rfl) ?_
         refine Zf (Zc (Zl (ZX (Zt (Y2 (ZX (Zt ?_)))))))
         refine W10 (.inr rfl) (Zi rfl rfl) ?_
         exact W1q
        ·try simp only [qB, qN] at hg8
         refine Oo u79 .calm rfl (Zb (.inl rfl) rfl) ?_
         refine Oo u79 .calm rfl (rfl) ?_
         refine Yh (env' := u79) (x := .look _ _) rfl rfl rfl (W1p rfl rfl rfl rfl) rfl rfl rfl ?_
         refine Yf (env' := u79) rfl rfl rfl rfl rfl (by exact sset_spec _ _) XH9 rfl rfl ?_
         refine Yf (env' := u79) rfl rfl rfl rfl rfl (by exact High_spec _ _) XH9 rfl rfl ?_
         refine Oo u79 .calm rfl (rfl) ?_
         refine Oo u79 .calm rfl (ZQ rfl rfl rfl) ?_
         refine Z3 [_, _] (by rfl) (And.intro (And.intro (W1p rfl rfl rfl rfl) (W1p rfl rfl rfl rfl)) (And.intro (And.intro (W1p rfl rfl rfl rfl) (W1p rfl rfl rfl rfl)) trivial)) ?_
         refine Zc ?_
         refine Zo _ rfl (fun hc9 => ?_) (fun hc9 => ?_)
         ·try simp only [qB, qN] at hc9
          refine Zd (Za ?_)
          refine Lo u79 (Zg (VVal.int .i64 1) (.inr rfl) rfl) ?_
          refine Zf (Zc (Zl (ZX (Zt (Y2 (ZX (Zt ?_)))))))
          refine W10 (.inr rfl) (Zi rfl rfl) ?_
          exact W1q
         ·try simp only [qB, qN] at hc9
          refine Zk (Zu (Zc (Za ?_)))
          refine Lo u79 (W1s rfl rfl rfl) ?_
          refine Lo u79 (Zb (.inl rfl) rfl) ?_
          refine Zf ?_
          refine ZD (mk 79 604462909805390442004469) (env' := u79) rfl ⟨k + 1, ?_, rfl, ?_⟩
          ·first | omega | (simp only []; omega)
          ·exact ⟨⟨by omega, fun i hi => by by_cases e : i = k; (subst e; exact okW_ok (by omega) (by omega) (by omega) (by omega)); exact hw i (by omega)⟩, rfl⟩
      ·try simp only [qB, qN] at hc6
       refine ZP (ZR (ZH (ZO (Zc (Zd (Zd (Za ?_)))))))
       refine Lo u79 (rfl) ?_
       refine Lo u79 (W1p rfl rfl rfl rfl) ?_
       refine Lo u79 (rfl) ?_
       refine Lo u79 (Zg (VVal.int .i64 0) (.inl rfl) rfl) ?_
       refine Zf (Zc (Zj ?_))
       refine ZC (mk 79 602396874471059117572087) (env' := u79) rfl ?_
       refine ZJ (fun (m : Nat) => p.rules.length - m) (fun (m : Nat) => [(70, iI (m : Nat))]) (fun (m : Nat) G => (m ≤ p.rules.length ∧ ∀ i, i < m → rck p.who.length (p.rules.getD i r0) = true) ∧ ∃ X, G = H ++ (.cells (pbB p) true :: X)) 0 rfl ?_ ?_
       ·refine ⟨?_, ⟨[], rfl⟩⟩
        exact ⟨Nat.zero_le _, fun i h => by omega⟩
       rintro m _ ⟨⟨hm, hr⟩, ⟨X, rfl⟩⟩
       refine ZU (env' := u79) rfl ?_
       refine Zd (Za ?_)
       refine Lo u79 (rfl) ?_
       refine Zf (Zc (Zd ?_))
       refine Zo _ rfl (fun hc10 => ?_) (fun hc10 => ?_)
       ·try simp only [qB, qN] at hc10
        refine Zk (Zc (Zd (Zj (Zd (Za ?_)))))
        refine Lo u79 (W18 rfl rfl rfl rfl rfl rfl rfl) ?_
        refine Lo u79 (W1t rfl rfl rfl rfl rfl) ?_
        refine Lo u79 (ZA rfl rfl) ?_
        refine Lo u79 (W13 rfl rfl rfl rfl rfl rfl rfl) ?_
        refine Zf (Zc (Zd (Za ?_)))
        refine Lo u79 (Zb (.inl rfl) rfl) ?_
        refine Lo u79 (W1t rfl rfl rfl rfl rfl) ?_
        refine Zn rfl rfl rfl (by exact rCheck_spec _ _ _ (hp.s _ (rul_mem (by omega)))) ?_
        rintro _ _ ⟨rfl, rfl⟩
        refine Le u79 ?_
        refine Lo u79 (rfl) ?_
        refine Zf (Zc ?_)
        refine Zo _ rfl (fun hc11 => ?_) (fun hc11 => ?_)
        ·try simp only [qB, qN] at hc11
         refine Zd (Za ?_)
         refine Lo u79 (Zg (VVal.int .i64 1) (.inr rfl) rfl) ?_
         refine Zf (Zc (Zl (ZX (Zt (Y2 (ZX (Zt ?_)))))))
         refine W10 (.inr rfl) (Zi rfl rfl) ?_
         exact W1q
        ·try simp only [qB, qN] at hc11
         refine Zk (Zu (Zc (Za ?_)))
         refine Lo u79 (W14 rfl rfl rfl) ?_
         refine Lo u79 (Zb (.inl rfl) rfl) ?_
         refine Zf ?_
         refine ZD (mk 79 602396874471059117572087) (env' := u79) rfl ⟨m + 1, ?_, rfl, ?_⟩
         ·first | omega | (simp only []; omega)
         ·exact ⟨⟨by omega, fun i hi => by by_cases e : i = m; (subst e; exact rcE_eq.1 (by assumption)); exact hr i (by omega)⟩, ⟨_, rfl⟩⟩
       ·try simp only [qB, qN] at hc10
        refine ZP (ZR (ZH (ZO (Zc (Zd (Za ?_))))))
        refine Lo u79 (Zg (VVal.int .i64 0) (.inr rfl) rfl) ?_
        refine Zf (Zc (Zl ?_))
        refine W10 (.inr rfl) (Zi rfl rfl) ?_
        exact W1q
theorem W1u {T : TypeId → Option VTy} {H : Ze} {op : Op} {ρ : Operand → VVal} {t : TypeId} {a : Operand} {y : VTy} {p v : VVal} (ho : op = .load t a) (ha : ρ a = p) (hy : T t = some y) (hd : Zm y.desc = false) (h : LdOk H p v := by first | exact .inl ⟨_, _, rfl, by first | rfl | assumption | exact Y5 (α := BitVec 64) 0 (by omega) | exact Y5 (α := Int) 0 (by omega)⟩ | exact .inr ⟨_, _, _, _, rfl, XH47, by first | rfl | assumption | exact Y5 (α := BitVec 64) 0 (by omega) | exact Y5 (α := Int) 0 (by omega)⟩) : vop T ρ H op = some (v, H) := v_ld ho ha hy hd h
theorem W1x {P : Prop} (h : P := by first | exact ⟨by rw [wrd_f (by assumption)], rfl⟩ | exact ⟨by rw [wrd_w (by omega)], rfl⟩) : P := h
section
variable {T : TypeId → Option VTy} {ρ : Operand → VVal} {H : Ze} {op : Op}
end
def wrd (p : Pb) (i : Nat) : BitVec 64 := if 0 ≤ p.fixed.getD i 0 then 1#64 <<< (p.fixed.getD i 0).toNat else p.who.getD i 0
theorem wrd_f {p : Pb} {i : Nat} (h : 0 ≤ p.fixed.getD i 0) : wrd p i = 1#64 <<< (p.fixed.getD i 0).toNat := if_pos h
theorem wrd_w {p : Pb} {i : Nat} (h : p.fixed.getD i 0 < 0) : wrd p i = p.who.getD i 0 := if_neg (by omega)
def hds (p : Pb) (us : List Int) : Bool := decide (pck p = 0) && decide (flw p us = [])
theorem Word_spec {x : SW} (H : Ze) (p : Pb) (i : Nat) (h1 : i < p.fixed.length) (h2 : i < p.who.length) : F (psys x) 60 [.agg (pbB p), iI (i : Nat)] H fun v G => v = iW (wrd p i) ∧ G = H := by
 refine Zr Tryd.func60 rfl u20 rfl ?_
 refine Zd (Za ?_)
 refine Lo u20 (Zy rfl rfl rfl) ?_
 refine Lo u20 (Zg (VVal.int .u64 0) (.inr rfl) rfl) ?_
 refine Zf (Zc (Zd (Zd (Za ?_))))
 refine Lo u20 (rfl) ?_
 refine Lo u20 (W1u rfl rfl rfl rfl) ?_
 refine Lo u20 (Zb (.inl rfl) rfl) ?_
 refine Lo u20 (W18 rfl rfl rfl rfl rfl rfl rfl) ?_
 refine Lo u20 (W1u rfl rfl rfl rfl) ?_
 refine Lo u20 (Zb (.inr rfl) rfl) ?_
 refine Zf (Zc (Zd (Za ?_)))
 refine Lo u20 (Zb (.inl rfl) rfl) ?_
 refine Lo u20 (rfl) ?_
 refine Zf (Zc ?_)
 refine Zo _ rfl (fun hc1 => ?_) (fun hc1 => ?_)
 ·try simp only [qB, qN] at hc1
  refine Zd (Za ?_)
  refine Lo u20 (Zb (.inl rfl) rfl) ?_
  refine Lo u20 (v_shl1 rfl rfl rfl XH2) ?_
  refine Lo u20 (Zb (.inr rfl) rfl) ?_
  refine Zf (Zc (Zl (Zt ?_)))
  refine W10 (.inr rfl) (Zi rfl rfl) ?_
  exact W1x
 ·try simp only [qB, qN] at hc1
  refine Zk (Zc (Zd (Za ?_)))
  refine Lo u20 (rfl) ?_
  refine Lo u20 (W1u rfl rfl rfl rfl) ?_
  refine Lo u20 (Zb (.inl rfl) rfl) ?_
  refine Lo u20 (W18 rfl rfl rfl rfl rfl rfl rfl) ?_
  refine Lo u20 (W1u rfl rfl rfl rfl) ?_
  refine Lo u20 (Zb (.inr rfl) rfl) ?_
  refine Zf (Zc (Zl ?_))
  refine W10 (.inr rfl) (Zi rfl rfl) ?_
  exact W1x
abbrev Zw {a0 a1 a2 a3 a4 a5 a6 a7 a8 a9 a10 a11 a12 a13 a14 a15 a16 a17 a18 a19 a20 a21 a22 a23 a24 a25 a26 a27 a28 a29 a30 a31 a32 a33 a34 a35 a36 a37 a38 a39 a40 a41 a42 a43 a44 a45 a46 a47 a48 a49 a50 a51 a52 a53 a54 a55 a56 a57 a58 a59 a60 a61 a62 a63 a64 a65 a66 a67 a68 a69 a70 a71 a72 a73 a74 a75 a76 a77 a78 a79 a80 a81 a82 a83 a84 a85 a86 a87 a88 a89 a90 a91 a92 a93 a94 a95 a96 a97 a98 a99 a100 a101 : VVal} : VEnv := a0 :: a1 :: a2 :: a3 :: a4 :: a5 :: a6 :: a7 :: a8 :: a9 :: a10 :: a11 :: a12 :: a13 :: a14 :: a15 :: a16 :: a17 :: a18 :: a19 :: a20 :: a21 :: a22 :: a23 :: a24 :: a25 :: a26 :: a27 :: a28 :: a29 :: a30 :: a31 :: a32 :: a33 :: a34 :: a35 :: a36 :: a37 :: a38 :: a39 :: a40 :: a41 :: a42 :: a43 :: a44 :: a45 :: a46 :: a47 :: a48 :: a49 :: a50 :: a51 :: a52 :: a53 :: a54 :: a55 :: a56 :: a57 :: a58 :: a59 :: a60 :: a61 :: a62 :: a63 :: a64 :: a65 :: a66 :: a67 :: a68 :: a69 :: a70 :: a71 :: a72 :: a73 :: a74 :: a75 :: a76 :: a77 :: a78 :: a79 :: a80 :: a81 :: a82 :: a83 :: a84 :: a85 :: a86 :: a87 :: a88 :: a89 :: a90 :: a91 :: a92 :: a93 :: a94 :: a95 :: a96 :: a97 :: a98 :: a99 :: a100 :: a101 :: []
theorem W23 {S : V.Sys} {H : Ze} {fn : Func} {ex : Exit} {env : VEnv} {B L : Ze} {v : VVal} {R : VVal → Ze → Prop} (hx : ex = .normal ∨ ex = .ret) (hv : ZZ S.C.T env (B ++ L) fn.results = some v) (h : R v B) (hB : BaseOk H B := by exact XH54) (hu : v.under H.length = true := by first | rfl | exact pb_under (p := cutP p)) : fnK S fn H R ex env (B ++ L) := YE hx hv hB hu h
abbrev ZK : VVal := .slice none 0 0 true 0
abbrev pqB (u : Int) (a b c : VVal) : VBlk := .cells [iI u, a, b, c] true
def cutR (r : Rul) : Rul := (r.kind, r.k, r.steps.take 20, ())
def cutP (p : Pb) : Pb := (p.users, p.who.take 20, p.fixed.take 20, (p.rules.take 40).map cutR, ())
theorem take_end {α : Type} {l : List α} {k m : Nat} (h1 : k ≤ m) (h2 : ¬ (k < l.length ∧ k < m)) : l.take k = l.take m := by
  by_cases h : k = m
  · rw [h]
  · rw [List.take_of_length_le (by omega), List.take_of_length_le (by omega)]
theorem cutR_step {l : List Rul} {m : Nat} (h : m < l.length) : (l.take (m + 1)).map cutR = (l.take m).map cutR ++ [cutR (l.getD m r0)] := by rw [Yx (d := r0) h, List.map_append]; rfl
theorem cutP_L {p : Pb} (h : -9223372036854775808 ≤ p.users ∧ p.users < 9223372036854775808) : PbL (cutP p) :=
  ⟨h, by show (List.take 20 _).length ≤ _; rw [List.length_take]; omega, by show (List.take 20 _).length ≤ _; rw [List.length_take]; omega, by show ((List.take 40 _).map cutR).length ≤ _; rw [List.length_map, List.length_take]; omega,
    fun r hr => by
      obtain ⟨r1, _, rfl⟩ := List.mem_map.1 hr
      show (List.take 20 _).length ≤ _
      rw [List.length_take]; omega⟩
theorem cutP_2 {p : Pb} : cutP (cutP p) = cutP p := by
  unfold cutP
  show (p.users, (p.who.take 20).take 20, (p.fixed.take 20).take 20, ((((p.rules.take 40).map cutR)).take 40).map cutR, ()) = _
  rw [List.take_take, List.take_take, ← List.map_take, List.take_take, List.map_map]
  congr 1; congr 1; congr 1; congr 1
  apply List.map_congr_left
  intro r _
  show cutR (cutR r) = cutR r
  unfold cutR
  show (r.kind, r.k, (r.steps.take 20).take 20, ()) = _
  rw [List.take_take]; rfl
theorem Cut_spec {x : SW} (H : Ze) (p : Pb) : F (psys x) 19 [.agg (pbB p)] H fun v G => v = .agg (pbB (cutP p)) ∧ G = H := by
 refine Zr Tryd.func19 rfl Zw rfl ?_
 refine Zd (Za ?_)
 refine Lo Zw (Zy rfl rfl rfl) ?_
 refine Lo Zw (ZA rfl rfl) ?_
 refine Zf (Zc (Zd (Za ?_)))
 refine L_gh (Gh.freezePtrL (cs := pbB p) 1 0 rfl rfl rfl) ?_
 refine Lo Zw (rfl) ?_
 refine Lo Zw (W1p rfl rfl rfl rfl) ?_
 refine Lo Zw (rfl) ?_
 refine Lo Zw (ZA rfl rfl) ?_
 refine Lo Zw (W13 rfl rfl rfl rfl rfl rfl rfl) ?_
 refine Zf (Zc ?_)
 refine B_seqJ (mk 102 5070602400912917605986812821489) (fun (u0 : Unit) => []) (fun (u0 : Unit) G => (True) ∧ ∃ lv X, G = (H ++ [VBlk.dead, pqB 0 ZK ZK ZK, pqB p.users lv ZK ZK]) ++ X ∧ LV (H.length + 3) 1 X lv ((p.who.take 20).map iW) (p.who.take 20).length) ?_ ?_
 ·skip
  refine Zd (Za ?_)
  refine Lo Zw (Zg (VVal.int .i64 0) (.inr rfl) rfl) ?_
  refine Zf (Zc (Zj ?_))
  refine ZC (mk 102 5070602400912917605986812821473) (env' := Zw) rfl ?_
  refine ZJ (fun (k : Nat) => p.who.length - k) (fun (k : Nat) => [(4, iI (k : Nat))]) (fun (k : Nat) G => (k ≤ p.who.length ∧ k ≤ 20) ∧ ∃ lv X, G = (H ++ [VBlk.dead, pqB 0 ZK ZK ZK, pqB p.users lv ZK ZK]) ++ X ∧ LV (H.length + 3) 1 X lv (((p.who).take k).map iW) ((p.who).take k).length) 0 rfl ?_ ?_
  ·refine ⟨?_, ⟨_, [], (List.append_nil _).symm, LV.nil _ _ _⟩⟩
   exact ⟨Nat.zero_le _, Nat.zero_le _⟩
  rintro k _ ⟨⟨hk1, hk2⟩, ⟨lv, X, rfl, hl⟩⟩
  refine ZU (env' := Zw) rfl ?_
  refine Zd (Zd (Za ?_))
  refine Lo Zw (Zb (.inl rfl) rfl) ?_
  refine Lo Zw (rfl) ?_
  refine Lo Zw (W1p rfl rfl rfl rfl) ?_
  refine Lo Zw (rfl) ?_
  refine Lo Zw (rfl) ?_
  refine Lo Zw (Zb (.inl rfl) rfl) ?_
  refine ZL 18 (env1 := Zw) (env2 := Zw) rfl rfl rfl (fun hg1 => ?_) (fun hg1 => ?_)
  ·try simp only [qB, qN] at hg1
   refine Lo Zw (Zb (.inl rfl) rfl) ?_
   refine Lo Zw (rfl) ?_
   refine Lo Zw (Zz rfl rfl rfl) ?_
   refine Zf (Zc ?_)
   refine Zo _ rfl (fun hc2 => ?_) (fun hc2 => ?_)
   ·try simp only [qB, qN] at hc2
    refine Zk (Zc (Zd (Zj ?_)))
    refine ZW [0, 1, 2, 3, 4, 5, 6, 7, 8, 9, 10] #[0, 1, 0, 4, 0, 28, 60, 124, 255, 511, 1023] XH6 XH6 XH6 ?_
    refine Oo Zw .calm rfl (rfl) ?_
    refine Oo Zw .look rfl (W1p rfl rfl rfl rfl) ?_
    refine Oo Zw .calm rfl (rfl) ?_
    refine Oo Zw .look rfl (W1p rfl rfl rfl rfl) ?_
    refine Oo Zw .calm rfl (Zb (.inl rfl) rfl) ?_
    refine Oo Zw .calm rfl (W18 rfl rfl rfl rfl rfl rfl rfl) ?_
    refine Oo Zw .look rfl (W1p rfl rfl rfl rfl) ?_
    refine Oo Zw .grow rfl (Zx rfl rfl (by decide) rfl) ?_
    refine O_opX .turn rfl rfl rfl (YI rfl rfl rfl rfl rfl rfl rfl (by simp) hl rfl rfl (by decide) XH31 (by decide)) rfl rfl ?_
    rintro _ _ ⟨Y1, rfl, rfl, hY1, hY2, hY3⟩
    refine O_env (env' := Zw) rfl ?_
    refine Oo Zw .calm rfl (rfl) ?_
    refine Oo Zw .turn rfl (W13 rfl rfl rfl rfl rfl rfl rfl) ?_
    refine Z3 [] XH6 (trivial) ?_
    refine Zu (Zc (Za ?_))
    refine Lo Zw (Zb (.inl rfl) rfl) ?_
    refine Lo Zw (W14 rfl rfl rfl) ?_
    refine Lo Zw (Zb (.inr rfl) rfl) ?_
    refine Zf ?_
    refine ZD (mk 102 5070602400912917605986812821473) (env' := Zw) rfl ⟨k + 1, ?_, rfl, ?_⟩
    ·first | omega | (simp only []; omega)
    ·exact ⟨⟨by omega, by omega⟩, _, _, rfl, by rw [Yx (d := 0) (by omega)]; exact LV.pushW hY3⟩
   ·try simp only [qB, qN] at hc2
    refine ZP (ZR (ZH (ZO ?_)))
    refine ZD (mk 102 5070602400912917605986812821489) (env' := Zw) rfl ⟨(), rfl, ?_⟩
    exact ⟨trivial, _, _, rfl, by rw [← take_end (m := 20) hk2 (by omega)]; exact hl⟩
  ·try simp only [qB, qN] at hg1
   refine Lf Zw ?_
   refine Lf Zw ?_
   refine Lo Zw (ZN (VVal.bool false) rfl rfl rfl) ?_
   refine Zf (Zc ?_)
   refine ZV rfl rfl ?_
   refine ZP (ZR (ZH (ZO ?_)))
   refine ZD (mk 102 5070602400912917605986812821489) (env' := Zw) rfl ⟨(), rfl, ?_⟩
   exact ⟨trivial, _, _, rfl, by rw [← take_end (m := 20) hk2 (by omega)]; exact hl⟩
 ·rintro u0 _ ⟨_, ⟨lv, X, rfl, hl⟩⟩
  refine ZU (env' := Zw) rfl ?_
  refine B_seqJ (mk 102 5070602400912917605986812821489) (fun (u0 : Unit) => []) (fun (u0 : Unit) G => (True) ∧ ∃ lv X, G = (H ++ [VBlk.dead, pqB 0 ZK ZK ZK, pqB p.users (fzW (p.who.take 20)) lv ZK]) ++ X ∧ LV (H.length + 3) 1 X lv ((p.fixed.take 20).map iI) (p.fixed.take 20).length) ?_ ?_
  ·skip
   refine Zd ?_
   refine B_ghCell 2 1 hl rfl rfl (by simp) fun X1 _ _ => ?_
   refine Za ?_
   refine Lo Zw (Zg (VVal.int .i64 0) (.inr rfl) rfl) ?_
   refine Zf (Zc (Zj ?_))
   refine ZC (mk 102 5070602400912917605986812821457) (env' := Zw) rfl ?_
   refine ZJ (fun (j : Nat) => p.fixed.length - j) (fun (j : Nat) => [(5, iI (j : Nat))]) (fun (j : Nat) G => (j ≤ p.fixed.length ∧ j ≤ 20) ∧ ∃ lv X, G = (H ++ [VBlk.dead, pqB 0 ZK ZK ZK, pqB p.users (fzW (p.who.take 20)) lv ZK]) ++ X ∧ LV (H.length + 3) 1 X lv (((p.fixed).take j).map iI) ((p.fixed).take j).length) 0 rfl ?_ ?_
   ·refine ⟨?_, ⟨_, X1, rfl, LV.nil _ _ _⟩⟩
    exact ⟨Nat.zero_le _, Nat.zero_le _⟩
   rintro j _ ⟨⟨hj1, hj2⟩, ⟨lv, X, rfl, hl⟩⟩
   refine ZU (env' := Zw) rfl ?_
   refine Zd (Zd (Za ?_))
   refine Lo Zw (Zb (.inl rfl) rfl) ?_
   refine Lo Zw (rfl) ?_
   refine Lo Zw (W1p rfl rfl rfl rfl) ?_
   refine Lo Zw (rfl) ?_
   refine Lo Zw (rfl) ?_
   refine Lo Zw (Zb (.inl rfl) rfl) ?_
   refine ZL 39 (env1 := Zw) (env2 := Zw) rfl rfl rfl (fun hg3 => ?_) (fun hg3 => ?_)
   ·try simp only [qB, qN] at hg3
    refine Lo Zw (Zb (.inl rfl) rfl) ?_
    refine Lo Zw (rfl) ?_
    refine Lo Zw (Zz rfl rfl rfl) ?_
    refine Zf (Zc ?_)
    refine Zo _ rfl (fun hc4 => ?_) (fun hc4 => ?_)
    ·try simp only [qB, qN] at hc4
     refine Zk (Zc (Zd (Zj ?_)))
     refine ZW [0, 1, 2, 3, 4, 5, 6, 7, 8, 9, 10] #[0, 1, 0, 4, 0, 28, 60, 124, 255, 511, 1023] XH6 XH6 XH6 ?_
     refine Oo Zw .calm rfl (rfl) ?_
     refine Oo Zw .look rfl (W1p rfl rfl rfl rfl) ?_
     refine Oo Zw .calm rfl (rfl) ?_
     refine Oo Zw .look rfl (W1p rfl rfl rfl rfl) ?_
     refine Oo Zw .calm rfl (Zb (.inl rfl) rfl) ?_
     refine Oo Zw .calm rfl (W18 rfl rfl rfl rfl rfl rfl rfl) ?_
     refine Oo Zw .look rfl (W1p rfl rfl rfl rfl) ?_
     refine Oo Zw .grow rfl (Zx rfl rfl (by decide) rfl) ?_
     refine O_opX .turn rfl rfl rfl (YI rfl rfl rfl rfl rfl rfl rfl (by simp) hl rfl rfl (by decide) XH31 (by decide)) rfl rfl ?_
     rintro _ _ ⟨Y1, rfl, rfl, hY1, hY2, hY3⟩
     refine O_env (env' := Zw) rfl ?_
     refine Oo Zw .calm rfl (rfl) ?_
     refine Oo Zw .turn rfl (W13 rfl rfl rfl rfl rfl rfl rfl) ?_
     refine Z3 [] XH6 (trivial) ?_
     refine Zu (Zc (Za ?_))
     refine Lo Zw (Zb (.inl rfl) rfl) ?_
     refine Lo Zw (W14 rfl rfl rfl) ?_
     refine Lo Zw (Zb (.inr rfl) rfl) ?_
     refine Zf ?_
     refine ZD (mk 102 5070602400912917605986812821457) (env' := Zw) rfl ⟨j + 1, ?_, rfl, ?_⟩
     ·first | omega | (simp only []; omega)
     ·exact ⟨⟨by omega, by omega⟩, _, _, rfl, by rw [Yx (d := 0) (by omega)]; exact LV.pushI hY3⟩
    ·try simp only [qB, qN] at hc4
     refine ZP (ZR (ZH (ZO ?_)))
     refine ZD (mk 102 5070602400912917605986812821489) (env' := Zw) rfl ⟨(), rfl, ?_⟩
     exact ⟨trivial, _, _, rfl, by rw [← take_end (m := 20) hj2 (by omega)]; exact hl⟩
   ·try simp only [qB, qN] at hg3
    refine Lf Zw ?_
    refine Lf Zw ?_
    refine Lo Zw (ZN (VVal.bool false) rfl rfl rfl) ?_
    refine Zf (Zc ?_)
    refine ZV rfl rfl ?_
    refine ZP (ZR (ZH (ZO ?_)))
    refine ZD (mk 102 5070602400912917605986812821489) (env' := Zw) rfl ⟨(), rfl, ?_⟩
    exact ⟨trivial, _, _, rfl, by rw [← take_end (m := 20) hj2 (by omega)]; exact hl⟩
  ·rintro u0 _ ⟨_, ⟨lv, X, rfl, hl⟩⟩
   refine ZU (env' := Zw) rfl ?_
   refine B_seqJ (mk 102 5070602400912917605986812821491) (fun (u0 : Unit) => []) (fun (u0 : Unit) G => (True) ∧ ∃ lv X, G = (H ++ [VBlk.dead, pqB 0 ZK ZK ZK, pqB p.users (fzW (p.who.take 20)) (fzI (p.fixed.take 20)) lv]) ++ X ∧ LV (H.length + 3) 3 X lv (((p.rules.take 40).map cutR).flatMap rlB) ((p.rules.take 40).map cutR).length) ?_ ?_
   ·skip
    refine Zd ?_
    refine B_ghCell 2 2 hl rfl rfl (by simp) fun X2 _ _ => ?_
    refine Za ?_
    refine Lo Zw (Zg (VVal.int .i64 0) (.inr rfl) rfl) ?_
    refine Zf (Zc (Zj ?_))
    refine ZC (mk 102 5070602400912917605986812821425) (env' := Zw) rfl ?_
    refine ZJ (fun (m : Nat) => p.rules.length - m) (fun (m : Nat) => [(6, iI (m : Nat))]) (fun (m : Nat) G => (m ≤ p.rules.length ∧ m ≤ 40) ∧ ∃ lv X, G = (H ++ [VBlk.dead, pqB 0 ZK ZK ZK, pqB p.users (fzW (p.who.take 20)) (fzI (p.fixed.take 20)) lv]) ++ X ∧ LV (H.length + 3) 3 X lv (((p.rules.take m).map cutR).flatMap rlB) ((p.rules.take m).map cutR).length) 0 rfl ?_ ?_
    ·refine ⟨?_, ⟨_, X2, rfl, LV.nil _ _ _⟩⟩
     exact ⟨Nat.zero_le _, Nat.zero_le _⟩
    rintro m _ ⟨⟨hm1, hm2⟩, ⟨lv, X, rfl, hl⟩⟩
    refine ZU (env' := Zw) rfl ?_
    refine Zd (Zd (Za ?_))
    refine Lo Zw (Zb (.inl rfl) rfl) ?_
    refine Lo Zw (rfl) ?_
    refine Lo Zw (W1p rfl rfl rfl rfl) ?_
    refine Lo Zw (rfl) ?_
    refine Lo Zw (rfl) ?_
    refine Lo Zw (Zb (.inl rfl) rfl) ?_
    refine ZL 60 (env1 := Zw) (env2 := Zw) rfl rfl rfl (fun hg5 => ?_) (fun hg5 => ?_)
    ·try simp only [qB, qN] at hg5
     refine Lo Zw (Zb (.inl rfl) rfl) ?_
     refine Lo Zw (rfl) ?_
     refine Lo Zw (Zz rfl rfl rfl) ?_
     refine Zf (Zc ?_)
     refine Zo _ rfl (fun hc6 => ?_) (fun hc6 => ?_)
     ·try simp only [qB, qN] at hc6
      refine Zk (Zc (Zd (Zj (Zd (Za ?_)))))
      refine Lo Zw (rfl) ?_
      refine Lo Zw (W1p rfl rfl rfl rfl) ?_
      refine Lo Zw (Zb (.inl rfl) rfl) ?_
      refine Lo Zw (W18 rfl rfl rfl rfl rfl rfl rfl) ?_
      refine Lo Zw (W1t rfl rfl rfl rfl rfl) ?_
      refine Lo Zw (ZA rfl rfl) ?_
      refine Lo Zw (W13 rfl rfl rfl rfl rfl rfl rfl) ?_
      refine Zf (Zc (Zd ?_))
      refine Yp (Gh.freezeEnd (cs := rlB (p.rules.getD m r0)) 7 rfl rfl) ?_
      refine Za ?_
      refine Lo Zw (Zg (VVal.slice none 0 0 true 0) (.inr rfl) rfl) ?_
      refine Zf (Zc (Zd (Zd (Za ?_))))
      refine Lo Zw (Zg (VVal.int .i64 0) (.inr rfl) rfl) ?_
      refine Zf (Zc (Zj ?_))
      refine ZC (mk 102 5070602400912917605986812820529) (env' := Zw) rfl ?_
      refine ZJ (fun (⟨k, sv⟩ : Nat × VVal) => (p.rules.getD m r0).steps.length - k) (fun (⟨k, sv⟩ : Nat × VVal) => [(8, sv), (9, iI (k : Nat))]) (fun (⟨k, sv⟩ : Nat × VVal) G => (k ≤ (p.rules.getD m r0).steps.length ∧ k ≤ 20) ∧ ∃ X, G = (H ++ [VBlk.dead, pqB 0 ZK ZK ZK, pqB p.users (fzW (p.who.take 20)) (fzI (p.fixed.take 20)) lv]) ++ X ∧ LV (H.length + 3) 3 X lv (((p.rules.take m).map cutR).flatMap rlB) ((p.rules.take m).map cutR).length ∧ LV (H.length + 3) 1 X sv (((p.rules.getD m r0).steps.take k).map iI) ((p.rules.getD m r0).steps.take k).length ∧ ∀ n, YZ lv = some n → YZ sv ≠ some n) ⟨0, _⟩ rfl ?_ ?_
      ·refine ⟨?_, ⟨X ++ [.dead], rfl, LV.app hl _, LV.nil _ _ _, fun n _ e => by cases e⟩⟩
       exact ⟨Nat.zero_le _, Nat.zero_le _⟩
      rintro ⟨k, sv⟩ _ ⟨⟨hk1, hk2⟩, ⟨X3, rfl, hl3, hs, hd⟩⟩
      refine ZU (env' := Zw) rfl ?_
      refine Zd (Zd (Za ?_))
      refine Lo Zw (Zb (.inl rfl) rfl) ?_
      refine Lo Zw (rfl) ?_
      refine Lo Zw (W1p rfl rfl rfl rfl) ?_
      refine Lo Zw (rfl) ?_
      refine Lo Zw (rfl) ?_
      refine Lo Zw (Zb (.inl rfl) rfl) ?_
      refine ZL 76 (env1 := Zw) (env2 := Zw) rfl rfl rfl (fun hg7 => ?_) (fun hg7 => ?_)
      ·try simp only [qB, qN] at hg7
       refine Lo Zw (Zb (.inl rfl) rfl) ?_
       refine Lo Zw (rfl) ?_
       refine Lo Zw (Zz rfl rfl rfl) ?_
       refine Zf (Zc ?_)
       refine Zo _ rfl (fun hc8 => ?_) (fun hc8 => ?_)
       ·try simp only [qB, qN] at hc8
        refine Zk (Zc (Zd (Zj (Za ?_))))
        refine Lo Zw (Zb (.inl rfl) rfl) ?_
        refine Lo Zw (rfl) ?_
        refine Lo Zw (W1p rfl rfl rfl rfl) ?_
        refine Lo Zw (Zb (.inl rfl) rfl) ?_
        refine Lo Zw (W18 rfl rfl rfl rfl rfl rfl rfl) ?_
        refine Lo Zw (W1p rfl rfl rfl rfl) ?_
        refine Lo Zw (Zx rfl rfl (by decide) rfl) ?_
        refine L_opX rfl rfl (YI rfl rfl rfl rfl rfl rfl rfl (by simp) hs rfl rfl (by decide) XH31 (by decide)) ?_
        rintro _ _ ⟨Y1, rfl, rfl, hY1, hY2, hY3⟩
        refine Le Zw ?_
        refine Lo Zw (Zb (.inr rfl) rfl) ?_
        refine Zf (Zu (Zc (Za ?_)))
        refine Lo Zw (Zb (.inl rfl) rfl) ?_
        refine Lo Zw (W14 rfl rfl rfl) ?_
        refine Lo Zw (Zb (.inr rfl) rfl) ?_
        refine Zf ?_
        refine ZD (mk 102 5070602400912917605986812820529) (env' := Zw) rfl ⟨⟨k + 1, _⟩, ?_, rfl, ?_⟩
        ·first | omega | (simp only []; omega)
        ·exact ⟨⟨by omega, by omega⟩, _, rfl, LV.app (LV.keep hl3 hd hY2) _, by rw [Yx (d := 0) (by omega)]; exact LV.pushI hY3, LV.far hl3 (Nat.le_succ _)⟩
       ·try simp only [qB, qN] at hc8
        refine ZP (ZR (ZH (ZO (Zc ?_))))
        rw [take_end (m := 20) hk2 (by omega)] at hs
        refine B_ghLVh (env' := Zw) 8 hs (by simp) rfl rfl fun X4 hX4 hF4 => ?_
        have hl4 := LV.keep hl3 hd hF4
        refine Za ?_
        refine Lo Zw (rfl) ?_
        refine Lo Zw (W1p rfl rfl rfl rfl) ?_
        refine Lo Zw (rfl) ?_
        refine Lo Zw (W1p rfl rfl rfl rfl) ?_
        refine Lo Zw (rfl) ?_
        refine Lo Zw (W1p rfl rfl rfl rfl) ?_
        refine Lo Zw (Zb (.inl rfl) rfl) ?_
        refine Lo Zw (rfl) ?_
        refine Lo Zw (Zx rfl rfl (by decide) rfl) ?_
        refine L_opX rfl rfl (YI rfl rfl rfl rfl rfl rfl rfl (by simp) hl4 rfl rfl (by decide) (by rw [List.length_map, List.length_take]; show (_ + 1) * 40 ≤ _ ∧ _ + 1 ≤ _; omega) (by decide)) ?_
        rintro _ _ ⟨Y1, rfl, rfl, hY1, hY2, hY3⟩
        refine Le Zw ?_
        refine Lo Zw (rfl) ?_
        refine Lo Zw (W13 rfl rfl rfl rfl rfl rfl rfl) ?_
        refine Zf (Zu (Zc (Za ?_)))
        refine Lo Zw (Zb (.inl rfl) rfl) ?_
        refine Lo Zw (W14 rfl rfl rfl) ?_
        refine Lo Zw (Zb (.inr rfl) rfl) ?_
        refine Zf ?_
        refine ZD (mk 102 5070602400912917605986812821425) (env' := Zw) rfl ⟨m + 1, ?_, rfl, ?_⟩
        ·first | omega | (simp only []; omega)
        ·exact ⟨⟨by omega, by omega⟩, _, _, rfl, by rw [cutR_step (by omega)]; exact LV.pushF hY3⟩
      ·try simp only [qB, qN] at hg7
       refine Lf Zw ?_
       refine Lf Zw ?_
       refine Lo Zw (ZN (VVal.bool false) rfl rfl rfl) ?_
       refine Zf (Zc ?_)
       refine ZV rfl rfl ?_
       refine ZP (ZR (ZH (ZO (Zc ?_))))
       rw [take_end (m := 20) hk2 (by omega)] at hs
       refine B_ghLVh (env' := Zw) 8 hs (by simp) rfl rfl fun X4 hX4 hF4 => ?_
       have hl4 := LV.keep hl3 hd hF4
       refine Za ?_
       refine Lo Zw (rfl) ?_
       refine Lo Zw (W1p rfl rfl rfl rfl) ?_
       refine Lo Zw (rfl) ?_
       refine Lo Zw (W1p rfl rfl rfl rfl) ?_
       refine Lo Zw (rfl) ?_
       refine Lo Zw (W1p rfl rfl rfl rfl) ?_
       refine Lo Zw (Zb (.inl rfl) rfl) ?_
       refine Lo Zw (rfl) ?_
       refine Lo Zw (Zx rfl rfl (by decide) rfl) ?_
       refine L_opX rfl rfl (YI rfl rfl rfl rfl rfl rfl rfl (by simp) hl4 rfl rfl (by decide) (by rw [List.length_map, List.length_take]; show (_ + 1) * 40 ≤ _ ∧ _ + 1 ≤ _; omega) (by decide)) ?_
       rintro _ _ ⟨Y1, rfl, rfl, hY1, hY2, hY3⟩
       refine Le Zw ?_
       refine Lo Zw (rfl) ?_
       refine Lo Zw (W13 rfl rfl rfl rfl rfl rfl rfl) ?_
       refine Zf (Zu (Zc (Za ?_)))
       refine Lo Zw (Zb (.inl rfl) rfl) ?_
       refine Lo Zw (W14 rfl rfl rfl) ?_
       refine Lo Zw (Zb (.inr rfl) rfl) ?_
       refine Zf ?_
       refine ZD (mk 102 5070602400912917605986812821425) (env' := Zw) rfl ⟨m + 1, ?_, rfl, ?_⟩
       ·first | omega | (simp only []; omega)
       ·exact ⟨⟨by omega, by omega⟩, _, _, rfl, by rw [cutR_step (by omega)]; exact LV.pushF hY3⟩
     ·try simp only [qB, qN] at hc6
      refine ZP (ZR (ZH (ZO ?_)))
      refine ZD (mk 102 5070602400912917605986812821491) (env' := Zw) rfl ⟨(), rfl, ?_⟩
      exact ⟨trivial, _, _, rfl, by rw [← take_end (m := 40) hm2 (by omega)]; exact hl⟩
    ·try simp only [qB, qN] at hg5
     refine Lf Zw ?_
     refine Lf Zw ?_
     refine Lo Zw (ZN (VVal.bool false) rfl rfl rfl) ?_
     refine Zf (Zc ?_)
     refine ZV rfl rfl ?_
     refine ZP (ZR (ZH (ZO ?_)))
     refine ZD (mk 102 5070602400912917605986812821491) (env' := Zw) rfl ⟨(), rfl, ?_⟩
     exact ⟨trivial, _, _, rfl, by rw [← take_end (m := 40) hm2 (by omega)]; exact hl⟩
   ·rintro u0 _ ⟨_, ⟨lv, X, rfl, hl⟩⟩
    refine ZU (env' := Zw) rfl ?_
    refine Zd ?_
    refine B_ghCell 2 3 hl rfl rfl (by simp) fun X5 _ _ => ?_
    refine Yi (List.append_assoc _ _ _) ?_
    refine Za ?_
    refine Lo Zw (W1t rfl rfl rfl rfl rfl) ?_
    refine Lo Zw (W13 rfl rfl rfl rfl rfl rfl rfl) ?_
    refine Zf (Zc (Zl ?_))
    refine W23 (.inr rfl) (Yz rfl rfl rfl rfl XH0 (by first | rfl | assumption | exact Y5 (α := BitVec 64) 0 (by omega) | exact Y5 (α := Int) 0 (by omega) | exact rul_at (by omega))) ?_
    exact ⟨rfl, rfl⟩
abbrev u76 {a0 a1 a2 a3 a4 a5 a6 a7 a8 a9 a10 a11 a12 a13 a14 a15 a16 a17 a18 a19 a20 a21 a22 a23 a24 a25 a26 a27 a28 a29 a30 a31 a32 a33 a34 a35 a36 a37 a38 a39 a40 a41 a42 a43 a44 a45 a46 a47 a48 a49 a50 a51 a52 a53 a54 a55 a56 a57 a58 a59 a60 a61 a62 a63 a64 a65 a66 a67 a68 a69 a70 a71 a72 a73 a74 a75 : VVal} : VEnv := a0 :: a1 :: a2 :: a3 :: a4 :: a5 :: a6 :: a7 :: a8 :: a9 :: a10 :: a11 :: a12 :: a13 :: a14 :: a15 :: a16 :: a17 :: a18 :: a19 :: a20 :: a21 :: a22 :: a23 :: a24 :: a25 :: a26 :: a27 :: a28 :: a29 :: a30 :: a31 :: a32 :: a33 :: a34 :: a35 :: a36 :: a37 :: a38 :: a39 :: a40 :: a41 :: a42 :: a43 :: a44 :: a45 :: a46 :: a47 :: a48 :: a49 :: a50 :: a51 :: a52 :: a53 :: a54 :: a55 :: a56 :: a57 :: a58 :: a59 :: a60 :: a61 :: a62 :: a63 :: a64 :: a65 :: a66 :: a67 :: a68 :: a69 :: a70 :: a71 :: a72 :: a73 :: a74 :: a75 :: []
theorem W24 {T : TypeId → Option VTy} {H : Ze} {op : Op} {ρ : Operand → VVal} {t : TypeId} {a : Operand} {y : VTy} {p : VVal} {n : Nat} {vs : List VVal} (ho : op = .load t a) (ha : ρ a = p) (hy : T t = some y) (hd : Zm y.desc = true) (hn : y.size = n) (h : LdOkA H p n vs := by first | exact .inl ⟨_, _, rfl, XH50⟩ | exact .inr ⟨_, _, _, _, rfl, XH47, XH50⟩) : vop T ρ H op = some (.agg vs, H) := v_ldA ho ha hy hd hn h
theorem W26 {T : TypeId → Option VTy} {H : Ze} {op : Op} {ρ : Operand → VVal} {t : TypeId} {a : Operand} {y : VTy} {p v : VVal} (ho : op = .load t a) (ha : ρ a = p) (hy : T t = some y) (hd : Zm y.desc = false) (h : LdOk H p v := by first | exact .inl ⟨_, _, rfl, XH50⟩ | exact .inr ⟨_, _, _, _, rfl, XH47, XH50⟩) : vop T ρ H op = some (v, H) := v_ld ho ha hy hd h
theorem W29 {S : V.Sys} {H : Ze} {fn : Func} {ex : Exit} {env : VEnv} {B L : Ze} {v : VVal} {R : VVal → Ze → Prop} (hx : ex = .normal ∨ ex = .ret) (hv : ZZ S.C.T env (B ++ L) fn.results = some v) (h : R v B) (hB : BaseOk H B := by exact BaseOk.refl _) (hu : v.under H.length = true := by exact pb_under (p := fewQ q m)) : fnK S fn H R ex env (B ++ L) := YE hx hv hB hu h
theorem cells_get {l w : List VVal} {off m j : Nat} (h : Zs l off m = some w) (hj : j < m) : l[off + j]? = w[j]? := by
  unfold Zs at h
  split at h
  · injection h with h; subst h
    rw [List.getElem?_take, if_pos hj, List.getElem?_drop]
  · cases h
theorem rul_f {l : List Rul} {k j : Nat} (h : k < l.length) (hj : j < 3) : (l.flatMap rlB)[((k : Nat) : Int).toNat * 3 + j]? = (rlB (l.getD k r0))[j]? := by
  exact cells_get (fm_nat (f := rlB) (m := 3) (fun _ => rfl) l k r0 h) hj
theorem rul_f0 {l : List Rul} {k : Nat} (h : k < l.length) : (l.flatMap rlB)[((k : Nat) : Int).toNat * 3 + 0]? = some (iI (l.getD k r0).kind) := rul_f h (by decide)
theorem rul_f1 {l : List Rul} {k : Nat} (h : k < l.length) : (l.flatMap rlB)[((k : Nat) : Int).toNat * 3 + 1]? = some (iI (l.getD k r0).k) := rul_f h (by decide)
theorem rul_f2 {l : List Rul} {k : Nat} (h : k < l.length) : (l.flatMap rlB)[((k : Nat) : Int).toNat * 3 + 2]? = some (fzI (l.getD k r0).steps) := rul_f h (by decide)
def fewR (m : Nat) (r : Rul) : Bool := r.steps.all fun s => decide (s < (m : Int))
def fewQ (q : Pb) (m : Nat) : Pb := (q.users, q.who.take m, q.fixed.take m, q.rules.filter (fewR m), ())
def ZG (p : Pb) (m : Nat) : Pb := fewQ (cutP p) m
theorem fewP_L {p : Pb} {m : Nat} (h : -9223372036854775808 ≤ p.users ∧ p.users < 9223372036854775808) : PbL (ZG p m) := by
  have g := cutP_L h
  refine ⟨g.u, ?_, ?_, ?_, fun r hr => g.s r (List.mem_filter.1 hr).1⟩
  · have := g.w; show (List.take _ _).length ≤ _; rw [List.length_take]; omega
  · have := g.f; show (List.take _ _).length ≤ _; rw [List.length_take]; omega
  · have := g.r; exact Nat.le_trans (List.length_filter_le _ _) this
theorem fewP_cut {p : Pb} {m : Nat} : cutP (ZG p m) = ZG p m := by
  have h2 := @cutP_2 p
  have hw : (cutP p).who.take 20 = (cutP p).who := congrArg Pb.who h2
  have hf : (cutP p).fixed.take 20 = (cutP p).fixed := congrArg Pb.fixed h2
  have hr : ((cutP p).rules.take 40).map cutR = (cutP p).rules := congrArg Pb.rules h2
  have hlen : (cutP p).rules.length ≤ 40 := by show ((List.take 40 _).map cutR).length ≤ _; rw [List.length_map, List.length_take]; omega
  have hr2 : ∀ r, r ∈ (cutP p).rules → cutR r = r := fun r hr1 => by
    have h1 : r ∈ (p.rules.take 40).map cutR := hr1
    obtain ⟨r1, _, rfl⟩ := List.mem_map.1 h1
    show (r1.kind, r1.k, (r1.steps.take 20).take 20, ()) = (r1.kind, r1.k, r1.steps.take 20, ())
    rw [List.take_take]; rfl
  have hwl : (cutP p).who.length ≤ 20 := by show (List.take 20 _).length ≤ _; rw [List.length_take]; omega
  have hfl : (cutP p).fixed.length ≤ 20 := by show (List.take 20 _).length ≤ _; rw [List.length_take]; omega
  unfold ZG fewQ
  show ((cutP p).users, ((cutP p).who.take m).take 20, ((cutP p).fixed.take m).take 20, ((((cutP p).rules.filter (fewR m)).take 40).map cutR), ()) = _
  rw [List.take_of_length_le (l := (cutP p).who.take m) (by rw [List.length_take]; omega), List.take_of_length_le (l := (cutP p).fixed.take m) (by rw [List.length_take]; omega), List.take_of_length_le (Nat.le_trans (List.length_filter_le _ _) hlen)]
  congr 1; congr 1; congr 1; congr 1
  conv => rhs; rw [← List.map_id ((cutP p).rules.filter (fewR m))]
  exact List.map_congr_left fun r hr1 => hr2 r (List.mem_filter.1 hr1).1
theorem YA {l : List Rul} {m k : Nat} (h : k < l.length) : (l.take (k + 1)).filter (fewR m) = (l.take k).filter (fewR m) ++ if fewR m (l.getD k r0) = true then [l.getD k r0] else [] := by
  rw [Yx (d := r0) h, List.filter_append]
  congr 1
  by_cases e : fewR m (l.getD k r0) = true
  · rw [if_pos e, List.filter_cons, if_pos e]; rfl
  · rw [if_neg e, List.filter_cons, if_neg e]; rfl
theorem YB {l : List Int} {k : Nat} {f : Int → Bool} (h : k < l.length) : (l.take (k + 1)).all f = ((l.take k).all f && f (l.getD k 0)) := by
  rw [Yx (d := 0) h, List.all_append, List.all_cons, List.all_nil, Bool.and_true]
theorem Few_q {x : SW} (H : Ze) (p : Pb) (m : Nat) (hu : -9223372036854775808 ≤ p.users ∧ p.users < 9223372036854775808) (q : Pb) (hq : cutP p = q) : F (psys x) 15 [.agg (pbB p), iI (m : Nat)] H fun v G => v = .agg (pbB (fewQ q m)) ∧ G = H := by
 have hL := cutP_L hu
 rw [hq] at hL
 have h1 := hL.w; have h2 := hL.f; have h3 := hL.r; have h4 := hL.s
 have h40 : q.rules.length ≤ 40 := by rw [← hq]; show ((List.take 40 _).map cutR).length ≤ _; rw [List.length_map, List.length_take]; omega
 refine Zr Tryd.func15 rfl u76 rfl ?_
 refine Zd (Za ?_)
 refine Lo u76 (Zy rfl rfl rfl) ?_
 refine Lo u76 (ZA rfl rfl) ?_
 refine Zf (Zc (Zd ?_))
 refine Yp (Gh.freezePtrL (cs := pbB p) 2 0 rfl rfl rfl) ?_
 refine Za ?_
 refine Lo u76 (W24 rfl rfl rfl rfl rfl) ?_
 refine Zn rfl rfl rfl (by exact hq ▸ Cut_spec _ p) ?_
 rintro _ _ ⟨rfl, rfl⟩
 refine Le u76 ?_
 refine Lo u76 (ZA rfl rfl) ?_
 refine Lo u76 (W13 rfl rfl rfl rfl rfl rfl rfl) ?_
 refine Zf (Zc ?_)
 refine B_seqJ (mk 76 75557863725914323419085) (fun (u0 : Unit) => []) (fun (u0 : Unit) G => (True) ∧ G = H ++ [.dead, pqB 0 ZK ZK ZK, .cells [iI q.users, fzW (q.who.take m), fzI q.fixed, fzR q.rules] true]) ?_ ?_
 ·skip
  refine Zd (Za ?_)
  refine Lo u76 (rfl) ?_
  refine Lo u76 (W26 rfl rfl rfl rfl) ?_
  refine Lo u76 (rfl) ?_
  refine Lo u76 (Zb (.inl rfl) rfl) ?_
  refine Lo u76 (rfl) ?_
  refine Zf (Zc ?_)
  refine Zo _ rfl (fun hc1 => ?_) (fun hc1 => ?_)
  ·try simp only [qB, qN] at hc1
   refine Za ?_
   refine Lo u76 (rfl) ?_
   refine Lo u76 (W26 rfl rfl rfl rfl) ?_
   refine Lo u76 (Zb (.inl rfl) rfl) ?_
   refine Lo u76 (v_wHi (k := m) rfl rfl rfl rfl rfl rfl rfl (by omega)) ?_
   refine Lo u76 (rfl) ?_
   refine Lo u76 (W13 rfl rfl rfl rfl rfl rfl rfl) ?_
   refine Zf ?_
   refine ZD (mk 76 75557863725914323419085) (env' := u76) rfl ⟨(), rfl, ?_⟩
   first
     | exact ⟨trivial, rfl⟩
     | exact ⟨trivial, by rw [List.take_of_length_le (l := q.who) (by omega)]; rfl⟩
  ·try simp only [qB, qN] at hc1
   refine Zk ?_
   refine ZD (mk 76 75557863725914323419085) (env' := u76) rfl ⟨(), rfl, ?_⟩
   first
     | exact ⟨trivial, rfl⟩
     | exact ⟨trivial, by rw [List.take_of_length_le (l := q.who) (by omega)]; rfl⟩
 ·rintro u0 _ ⟨_, rfl⟩
  refine ZU (env' := u76) rfl ?_
  refine B_seqJ (mk 76 75557863725914323419085) (fun (u0 : Unit) => []) (fun (u0 : Unit) G => (True) ∧ G = H ++ [.dead, pqB 0 ZK ZK ZK, .cells [iI q.users, fzW (q.who.take m), fzI (q.fixed.take m), fzR q.rules] true]) ?_ ?_
  ·skip
   refine Zd (Za ?_)
   refine Lo u76 (rfl) ?_
   refine Lo u76 (W26 rfl rfl rfl rfl) ?_
   refine Lo u76 (rfl) ?_
   refine Lo u76 (Zb (.inl rfl) rfl) ?_
   refine Lo u76 (rfl) ?_
   refine Zf (Zc ?_)
   refine Zo _ rfl (fun hc2 => ?_) (fun hc2 => ?_)
   ·try simp only [qB, qN] at hc2
    refine Za ?_
    refine Lo u76 (rfl) ?_
    refine Lo u76 (W26 rfl rfl rfl rfl) ?_
    refine Lo u76 (Zb (.inl rfl) rfl) ?_
    refine Lo u76 (v_iHi (k := m) rfl rfl rfl rfl rfl rfl rfl (by omega)) ?_
    refine Lo u76 (rfl) ?_
    refine Lo u76 (W13 rfl rfl rfl rfl rfl rfl rfl) ?_
    refine Zf ?_
    refine ZD (mk 76 75557863725914323419085) (env' := u76) rfl ⟨(), rfl, ?_⟩
    first
      | exact ⟨trivial, rfl⟩
      | exact ⟨trivial, by rw [List.take_of_length_le (l := q.fixed) (by omega)]⟩
   ·try simp only [qB, qN] at hc2
    refine Zk ?_
    refine ZD (mk 76 75557863725914323419085) (env' := u76) rfl ⟨(), rfl, ?_⟩
    first
      | exact ⟨trivial, rfl⟩
      | exact ⟨trivial, by rw [List.take_of_length_le (l := q.fixed) (by omega)]⟩
  ·rintro u0 _ ⟨_, rfl⟩
   refine ZU (env' := u76) rfl ?_
   refine Zd (Za ?_)
   refine Lo u76 (Zg (VVal.slice none 0 0 true 0) (.inr rfl) rfl) ?_
   refine Zf (Zc (Zd (Zd (Za ?_))))
   refine Lo u76 (Zg (VVal.int .i64 0) (.inr rfl) rfl) ?_
   refine Zf (Zc (Zj ?_))
   refine ZC (mk 76 75557863725914323418893) (env' := u76) rfl ?_
   refine ZJ (fun (⟨k, lv⟩ : Nat × VVal) => q.rules.length - k) (fun (⟨k, lv⟩ : Nat × VVal) => [(6, lv), (7, iI (k : Nat))]) (fun (⟨k, lv⟩ : Nat × VVal) G => (k ≤ q.rules.length) ∧ ∃ X, G = (H ++ [.dead, pqB 0 ZK ZK ZK, .cells [iI q.users, fzW (q.who.take m), fzI (q.fixed.take m), fzR q.rules] true]) ++ X ∧ LV (H.length + 3) 3 X lv (((q.rules.take k).filter (fewR m)).flatMap rlB) ((q.rules.take k).filter (fewR m)).length) ⟨0, _⟩ rfl ?_ ?_
   ·refine ⟨?_, ⟨[], (List.append_nil _).symm, LV.nil _ _ _⟩⟩
    exact Nat.zero_le _
   rintro ⟨k, lv⟩ _ ⟨hk, ⟨X, rfl, hl⟩⟩
   refine ZU (env' := u76) rfl ?_
   refine Zd (Zd (Za ?_))
   refine Lo u76 (Zb (.inl rfl) rfl) ?_
   refine Lo u76 (rfl) ?_
   refine Lo u76 (W26 rfl rfl rfl rfl) ?_
   refine Lo u76 (rfl) ?_
   refine Lo u76 (rfl) ?_
   refine Zf (Zc ?_)
   refine Zo _ rfl (fun hc3 => ?_) (fun hc3 => ?_)
   ·try simp only [qB, qN] at hc3
    refine Zk (Zc (Zd (Zj (Zd (Za ?_)))))
    refine Lo u76 (Zg (VVal.bool true) (.inr rfl) rfl) ?_
    refine Zf (Zc (Zd (Zd (Za ?_))))
    refine Lo u76 (Zg (VVal.int .i64 0) (.inr rfl) rfl) ?_
    refine Zf (Zc (Zj ?_))
    refine ZC (mk 76 75557863725914323418125) (env' := u76) rfl ?_
    refine ZJ (fun (⟨s, b⟩ : Nat × Bool) => (q.rules.getD k r0).steps.length - s) (fun (⟨s, b⟩ : Nat × Bool) => [(8, .bool b), (9, iI (s : Nat))]) (fun (⟨s, b⟩ : Nat × Bool) G => (s ≤ (q.rules.getD k r0).steps.length ∧ b = ((q.rules.getD k r0).steps.take s).all fun x => decide (x < (m : Int))) ∧ G = (H ++ [.dead, pqB 0 ZK ZK ZK, .cells [iI q.users, fzW (q.who.take m), fzI (q.fixed.take m), fzR q.rules] true]) ++ X) ⟨0, true⟩ rfl ?_ ?_
    ·refine ⟨?_, rfl⟩
     exact ⟨Nat.zero_le _, rfl⟩
    rintro ⟨s, b⟩ _ ⟨⟨hs, hb⟩, rfl⟩
    refine ZU (env' := u76) rfl ?_
    refine Zd (Zd ?_)
    have hst := h4 _ (rul_mem (l := q.rules) (k := k) (by omega))
    refine Za ?_
    refine Lo u76 (Zb (.inl rfl) rfl) ?_
    refine Lo u76 (rfl) ?_
    refine Lo u76 (W26 rfl rfl rfl rfl) ?_
    refine Lo u76 (Zb (.inl rfl) rfl) ?_
    refine Lo u76 (W18 rfl rfl rfl rfl rfl rfl rfl) ?_
    refine Lo u76 (rfl) ?_
    refine Lo u76 (W26 rfl rfl rfl rfl) ?_
    refine Lo u76 (rfl) ?_
    refine Lo u76 (rfl) ?_
    refine Zf (Zc ?_)
    refine Zo _ rfl (fun hc4 => ?_) (fun hc4 => ?_)
    ·try simp only [qB, qN] at hc4
     refine Zk (Zc (Zd (Zj (Za ?_))))
     refine Lo u76 (Zb (.inl rfl) rfl) ?_
     refine Lo u76 (Zb (.inl rfl) rfl) ?_
     refine ZL 51 (env1 := u76) (env2 := u76) rfl rfl rfl (fun hg5 => ?_) (fun hg5 => ?_)
     ·try simp only [qB, qN] at hg5
      refine Lo u76 (rfl) ?_
      refine Lo u76 (W26 rfl rfl rfl rfl) ?_
      refine Lo u76 (Zb (.inl rfl) rfl) ?_
      refine Lo u76 (W18 rfl rfl rfl rfl rfl rfl rfl) ?_
      refine Lo u76 (rfl) ?_
      refine Lo u76 (W26 rfl rfl rfl rfl) ?_
      refine Lo u76 (Zb (.inl rfl) rfl) ?_
      refine Lo u76 (W18 rfl rfl rfl rfl rfl rfl rfl) ?_
      refine Lo u76 (W26 rfl rfl rfl rfl) ?_
      refine Lo u76 (Zb (.inl rfl) rfl) ?_
      refine Lo u76 (rfl) ?_
      refine Lo u76 (Zz rfl rfl rfl) ?_
      refine Lo u76 (Zb (.inr rfl) rfl) ?_
      refine Zf (Zu (Zc (Za ?_)))
      refine Lo u76 (Zb (.inl rfl) rfl) ?_
      refine Lo u76 (W14 rfl rfl rfl) ?_
      refine Lo u76 (Zb (.inr rfl) rfl) ?_
      refine Zf ?_
      refine ZD (mk 76 75557863725914323418125) (env' := u76) rfl ⟨⟨s + 1, _⟩, ?_, rfl, ?_⟩
      ·first | omega | (simp only []; omega)
      ·first | exact ⟨⟨by omega, by rw [YB (by omega), ← hb, (show b = true by assumption), Bool.true_and]⟩, rfl⟩ | exact ⟨⟨by omega, by rw [YB (by omega), ← hb, (show b = false by simp_all), Bool.false_and]⟩, rfl⟩
     ·try simp only [qB, qN] at hg5
      refine Lf u76 ?_
      refine Lf u76 ?_
      refine Lf u76 ?_
      refine Lf u76 ?_
      refine Lf u76 ?_
      refine Lf u76 ?_
      refine Lf u76 ?_
      refine Lf u76 ?_
      refine Lf u76 ?_
      refine Lf u76 ?_
      refine Lf u76 ?_
      refine Lo u76 (ZN (VVal.bool false) rfl rfl rfl) ?_
      refine Lo u76 (Zb (.inr rfl) rfl) ?_
      refine Zf (Zu (Zc (Za ?_)))
      refine Lo u76 (Zb (.inl rfl) rfl) ?_
      refine Lo u76 (W14 rfl rfl rfl) ?_
      refine Lo u76 (Zb (.inr rfl) rfl) ?_
      refine Zf ?_
      refine ZD (mk 76 75557863725914323418125) (env' := u76) rfl ⟨⟨s + 1, _⟩, ?_, rfl, ?_⟩
      ·first | omega | (simp only []; omega)
      ·first | exact ⟨⟨by omega, by rw [YB (by omega), ← hb, (show b = true by assumption), Bool.true_and]⟩, rfl⟩ | exact ⟨⟨by omega, by rw [YB (by omega), ← hb, (show b = false by simp_all), Bool.false_and]⟩, rfl⟩
    ·try simp only [qB, qN] at hc4
     refine ZP (ZR (ZH (ZO (Zc (Zd (Za ?_))))))
     refine Lo u76 (Zb (.inl rfl) rfl) ?_
     refine Zf (Zc ?_)
     refine Zo _ rfl (fun hc6 => ?_) (fun hc6 => ?_)
     ·try simp only [qB, qN] at hc6
      refine Za ?_
      refine Lo u76 (Zb (.inl rfl) rfl) ?_
      refine Lo u76 (rfl) ?_
      refine Lo u76 (W26 rfl rfl rfl rfl) ?_
      refine Lo u76 (Zb (.inl rfl) rfl) ?_
      refine Lo u76 (W18 rfl rfl rfl rfl rfl rfl rfl) ?_
      refine Lo u76 (W24 rfl rfl rfl rfl rfl) ?_
      refine Lo u76 (Zx rfl rfl (by decide) rfl) ?_
      refine L_opX rfl rfl (YI rfl rfl rfl rfl rfl rfl rfl (by simp) hl rfl rfl (by decide) XH28 (by decide)) ?_
      rintro _ _ ⟨Y1, rfl, rfl, hY1, hY2, hY3⟩
      refine Le u76 ?_
      refine Lo u76 (Zb (.inr rfl) rfl) ?_
      refine Zf (Zu (Zc (Za ?_)))
      refine Lo u76 (Zb (.inl rfl) rfl) ?_
      refine Lo u76 (W14 rfl rfl rfl) ?_
      refine Lo u76 (Zb (.inr rfl) rfl) ?_
      refine Zf ?_
      obtain rfl : s = (q.rules.getD k r0).steps.length := by omega
      rw [List.take_length] at hb
      refine ZD (mk 76 75557863725914323418893) (env' := u76) rfl ⟨⟨k + 1, _⟩, ?_, rfl, ?_⟩
      ·first | omega | (simp only []; omega)
      ·first | exact ⟨by omega, _, rfl, by rw [YA (by omega), if_pos (show fewR m (q.rules.getD k r0) = true from hb.symm.trans (by assumption))]; exact LV.pushF hY3⟩ | exact ⟨by omega, _, rfl, by rw [YA (by omega), if_neg (fun e => by rw [show fewR m (q.rules.getD k r0) = b from hb.symm] at e; rw [(by assumption : b = false)] at e; cases e), List.append_nil]; exact hl⟩
     ·try simp only [qB, qN] at hc6
      refine Zk (Zu (Zc (Za ?_)))
      refine Lo u76 (Zb (.inl rfl) rfl) ?_
      refine Lo u76 (W14 rfl rfl rfl) ?_
      refine Lo u76 (Zb (.inr rfl) rfl) ?_
      refine Zf ?_
      obtain rfl : s = (q.rules.getD k r0).steps.length := by omega
      rw [List.take_length] at hb
      refine ZD (mk 76 75557863725914323418893) (env' := u76) rfl ⟨⟨k + 1, _⟩, ?_, rfl, ?_⟩
      ·first | omega | (simp only []; omega)
      ·first | exact ⟨by omega, _, rfl, by rw [YA (by omega), if_pos (show fewR m (q.rules.getD k r0) = true from hb.symm.trans (by assumption))]; exact LV.pushF hY3⟩ | exact ⟨by omega, _, rfl, by rw [YA (by omega), if_neg (fun e => by rw [show fewR m (q.rules.getD k r0) = b from hb.symm] at e; rw [(by assumption : b = false)] at e; cases e), List.append_nil]; exact hl⟩
   ·try simp only [qB, qN] at hc3
    refine ZP (ZR (ZH (ZO (Zc (Zd ?_)))))
    obtain rfl : k = q.rules.length := by omega
    rw [List.take_length] at hl
    refine B_ghLVh (env' := u76) 6 hl (by simp) rfl rfl fun X4 hX4 hF4 => ?_
    refine Yi (List.append_assoc _ _ _) ?_
    refine Za ?_
    refine Lo u76 (Zb (.inl rfl) rfl) ?_
    refine Lo u76 (rfl) ?_
    refine Lo u76 (W13 rfl rfl rfl rfl rfl rfl rfl) ?_
    refine Zf (Zc (Zd (Za ?_)))
    refine Lo u76 (W24 rfl rfl rfl rfl rfl) ?_
    refine Lo u76 (W13 rfl rfl rfl rfl rfl rfl rfl) ?_
    refine Zf (Zc (Zl ?_))
    refine W29 (.inr rfl) (Yz rfl rfl rfl rfl XH0 XH11) ?_
    exact ⟨rfl, rfl⟩
theorem Few_spec {x : SW} (H : Ze) (p : Pb) (m : Nat) (hu : -9223372036854775808 ≤ p.users ∧ p.users < 9223372036854775808) : F (psys x) 15 [.agg (pbB p), iI (m : Nat)] H fun v G => v = .agg (pbB (ZG p m)) ∧ G = H := Few_q H p m hu _ rfl
abbrev hmB (s : Nat) (rows : List (BitVec 64)) (O : List Int) : VBlk := .cells (fzW rows :: (O.map iI ++ [.ptr (some (s, 0))])) true
abbrev hsB (w : BitVec 64) : VBlk := .cells [iW w] true
abbrev gw (g : Gz) (w : BitVec 64) : Gz := ⟨g.n, g.p, g.e + YK 64 w⟩
def htH (H : Ze) (p q s : Nat) (rows : List (BitVec 64)) (t : GSt) (g : Gz) : Ze := ((H.set p (hmB s rows t.1)).set q (hsB t.2)).set s (gaB g)
section
variable {H L : Ze} {p q s : Nat} {rows : List (BitVec 64)} {t : GSt} {g : Gz}
structure Apart3 (H : Ze) (p q s : Nat) : Prop where
  hp : p < H.length
  hq : q < H.length
  hs : s < H.length
  pq : p ≠ q
  ps : p ≠ s
  qs : q ≠ s
theorem YQ {n : Nat} (h : H.length = n) : (htH H p q s rows t g).length = n := by unfold htH; rw [List.length_set, List.length_set, List.length_set]; exact h
theorem htH_id {O : List Int} {w : BitVec 64} (hp : H[p]? = some (hmB s rows O)) (hq : H[q]? = some (hsB w)) (hs : H[s]? = some (gaB g)) : htH H p q s rows (O, w) g = H := by
  unfold htH; rw [← YL hp, ← YL hq, ← YL hs]
theorem ht_s (a : Apart3 H p q s) : (htH H p q s rows t g ++ L)[s]? = some (gaB g) := by
  unfold htH; exact Zp (List.getElem?_set_self (by rw [List.length_set, List.length_set]; exact a.hs))
theorem ht_q (a : Apart3 H p q s) : (htH H p q s rows t g ++ L)[q]? = some (hsB t.2) := by
  unfold htH; exact Zp (by rw [List.getElem?_set_ne (Ne.symm a.qs)]; exact List.getElem?_set_self (by rw [List.length_set]; exact a.hq))
theorem ht_p (a : Apart3 H p q s) : (htH H p q s rows t g ++ L)[p]? = some (hmB s rows t.1) := by
  unfold htH; exact Zp (by rw [List.getElem?_set_ne (Ne.symm a.ps), List.getElem?_set_ne (Ne.symm a.pq)]; exact List.getElem?_set_self a.hp)
theorem ht_sets0 {k : VBlk} (a : Apart3 H p q s) : (htH H p q s rows t g ++ L).set s k = ((H.set p (hmB s rows t.1)).set q (hsB t.2)).set s k ++ L := by
  rw [Yl (by rw [YQ rfl]; exact a.hs)]; unfold htH; rw [List.set_set]
theorem ht_setq0 {k : VBlk} (a : Apart3 H p q s) : (htH H p q s rows t g ++ L).set q k = ((H.set p (hmB s rows t.1)).set q k).set s (gaB g) ++ L := by
  rw [Yl (by rw [YQ rfl]; exact a.hq)]; unfold htH; rw [List.set_comm _ _ (Ne.symm a.qs), List.set_set]
theorem ht_setq {w : BitVec 64} (a : Apart3 H p q s) : (htH H p q s rows t g ++ L).set q (hsB w) = htH H p q s rows (t.1, w) g ++ L := ht_setq0 a
theorem ht_setp0 {k : VBlk} (a : Apart3 H p q s) : (htH H p q s rows t g ++ L).set p k = ((H.set p k).set q (hsB t.2)).set s (gaB g) ++ L := by
  rw [Yl (by rw [YQ rfl]; exact a.hp)]; unfold htH
  rw [List.set_comm _ _ (Ne.symm a.ps), List.set_comm _ _ (Ne.symm a.pq), List.set_set]
theorem ht_setp {u : Int} {r : Int} (a : Apart3 H p q s) (hu : u.toNat < t.1.length) : (htH H p q s rows t g ++ L).set p (.cells (Zv (fzW rows :: (t.1.map iI ++ [.ptr (some (s, 0))])) (0 + 1 + u.toNat * 1) [iI r]) true) = htH H p q s rows (t.1.set u.toNat r, t.2) g ++ L := by
  have : Zv (fzW rows :: (t.1.map iI ++ [.ptr (some (s, 0))])) (0 + 1 + u.toNat * 1) [iI r] = fzW rows :: ((t.1.set u.toNat r).map iI ++ [.ptr (some (s, 0))]) := by
    rw [show 0 + 1 + u.toNat * 1 = u.toNat + 1 by omega]
    unfold Zv
    rw [List.map_set, ← List.set_append_left _ _ (by rw [List.length_map]; exact hu), List.set_eq_take_append_cons_drop, if_pos (by rw [List.length_append, List.length_map]; omega)]; simp
  rw [this, ht_setp0 a]; rfl
theorem ht_ht {t' : GSt} {g' : Gz} (a : Apart3 H p q s) : htH (htH H p q s rows t g ++ L) p q s rows t' g' = htH H p q s rows t' g' ++ L := by
  have : htH (htH H p q s rows t g ++ L) p q s rows t' g' = (((htH H p q s rows t g ++ L).set p (hmB s rows t'.1)).set q (hsB t'.2)).set s (gaB g') := rfl
  rw [this, ht_setp0 a]
  rw [Yl (by simp; exact a.hq), List.set_comm _ _ (Ne.symm a.qs), List.set_set, Yl (by simp; exact a.hs), List.set_set]; rfl
theorem ht_len6 {u : Int} {v : VVal} (h : u.toNat < t.1.length) : 0 + 1 + u.toNat * 1 + [v].length ≤ (fzW rows :: (t.1.map iI ++ [.ptr (some (s, 0))])).length := by
  show 0 + 1 + u.toNat * 1 + 1 ≤ (t.1.map iI ++ [_]).length + 1
  rw [List.length_append, List.length_map]; show _ ≤ _ + 1 + 1; omega
theorem ht_base (a : Apart3 H p q s) : BaseOk H (htH H p q s rows t g) := BaseOk.set (BaseOk.set (BaseOk.set (BaseOk.refl _) _ (by
    show VVal.underL _ (fzW rows :: (t.1.map iI ++ [.ptr (some (s, 0))])) = true
    have h1 : VVal.underL H.length (t.1.map iI ++ [.ptr (some (s, 0))]) = true := VVal.underL_app (VVal.underL_map fun _ => rfl) (by simp [VVal.underL, VVal.under, a.hs])
    simp only [VVal.underL, h1, Bool.and_true]
    exact VVal.underL_map fun _ => rfl)) _ rfl) _ rfl
theorem hown_cell {u : Int} (h : 0 ≤ u ∧ u < t.1.length) : (fzW rows :: (t.1.map iI ++ [.ptr (some (s, 0))]))[0 + 1 + u.toNat * 1]? = some (iI (t.1.getD u.toNat 0)) := by
  rw [show 0 + 1 + u.toNat * 1 = u.toNat + 1 by omega, List.getElem?_cons_succ]
  have : u.toNat < t.1.length := by omega
  rw [List.getElem?_append_left (by rw [List.length_map]; exact this)]
  simp [List.getElem?_eq_getElem this]
theorem hgp_cell (h : t.1.length = 64) : (fzW rows :: (t.1.map iI ++ [.ptr (some (s, 0))]))[0 + 65]? = some (.ptr (some (s, 0))) := by
  rw [show 0 + 65 = 64 + 1 by omega, List.getElem?_cons_succ, List.getElem?_append_right (by rw [List.length_map, h]; omega), List.length_map, h]; rfl
theorem apart_app {X : Ze} (a : Apart3 H p q s) : Apart3 (htH H p q s rows t g ++ X) p q s := ⟨by rw [List.length_append, YQ rfl]; have := a.hp; omega, by rw [List.length_append, YQ rfl]; have := a.hq; omega, by rw [List.length_append, YQ rfl]; have := a.hs; omega, a.pq, a.ps, a.qs⟩
end
theorem come_one {w : BitVec 64} {u : Nat} (hu : u < 64) (h : w.getLsbD u = false) (g : Gz) : (⟨g.n, g.p, (g.e + YK 64 w) + 1⟩ : Gz) = gw g (w ||| 1#64 <<< u) := by
  unfold gw; rw [come_next hu (Nat.le_refl _) h, Nat.add_assoc]
section
variable {H L : Ze} {p q s : Nat} {rows : List (BitVec 64)} {t : GSt} {g : Gz}
theorem ht_incw {w : BitVec 64} (a : Apart3 H p q s) : (htH H p q s rows t (gw g w) ++ L).set s (.cells (Zv [iN (gw g w).n, iN (gw g w).p, iN (gw g w).e] (0 + 2) [iW (BitVec.ofNat 64 (gw g w).e + 1#64)]) true) = htH H p q s rows t ⟨g.n, g.p, (g.e + YK 64 w) + 1⟩ ++ L := by
  rw [iN_one]; exact ht_sets0 a
end
abbrev u67 {a0 a1 a2 a3 a4 a5 a6 a7 a8 a9 a10 a11 a12 a13 a14 a15 a16 a17 a18 a19 a20 a21 a22 a23 a24 a25 a26 a27 a28 a29 a30 a31 a32 a33 a34 a35 a36 a37 a38 a39 a40 a41 a42 a43 a44 a45 a46 a47 a48 a49 a50 a51 a52 a53 a54 a55 a56 a57 a58 a59 a60 a61 a62 a63 a64 a65 a66 : VVal} : VEnv := a0 :: a1 :: a2 :: a3 :: a4 :: a5 :: a6 :: a7 :: a8 :: a9 :: a10 :: a11 :: a12 :: a13 :: a14 :: a15 :: a16 :: a17 :: a18 :: a19 :: a20 :: a21 :: a22 :: a23 :: a24 :: a25 :: a26 :: a27 :: a28 :: a29 :: a30 :: a31 :: a32 :: a33 :: a34 :: a35 :: a36 :: a37 :: a38 :: a39 :: a40 :: a41 :: a42 :: a43 :: a44 :: a45 :: a46 :: a47 :: a48 :: a49 :: a50 :: a51 :: a52 :: a53 :: a54 :: a55 :: a56 :: a57 :: a58 :: a59 :: a60 :: a61 :: a62 :: a63 :: a64 :: a65 :: a66 :: []
theorem W2c {T : TypeId → Option VTy} {H : Ze} {op : Op} {ρ : Operand → VVal} {t : TypeId} {a : Operand} {y : VTy} {p v : VVal} (ho : op = .load t a) (ha : ρ a = p) (hy : T t = some y) (hd : Zm y.desc = false) (h : LdOk H p v := by first | exact .inl ⟨_, _, rfl, by first | rfl | assumption | exact hown_cell (by omega) | exact hgp_cell hl1 | exact fget (α := BitVec 64) 0 (by omega)⟩ | exact .inr ⟨_, _, _, _, rfl, XH52, by first | rfl | assumption | exact hown_cell (by omega) | exact hgp_cell hl1 | exact fget (α := BitVec 64) 0 (by omega)⟩) : vop T ρ H op = some (v, H) := v_ld ho ha hy hd h
theorem W2e {T : TypeId → Option VTy} {H : Ze} {op : Op} {ρ : Operand → VVal} {t : TypeId} {a : Operand} {y : VTy} {p v : VVal} (ho : op = .load t a) (ha : ρ a = p) (hy : T t = some y) (hd : Zm y.desc = false) (h : LdOk H p v := by first | exact .inl ⟨_, _, rfl, by rfl⟩ | exact .inr ⟨_, _, _, _, rfl, by exact ZB (YQ rfl) rfl, by rfl⟩) : vop T ρ H op = some (v, H) := v_ld ho ha hy hd h
theorem W2f {T : TypeId → Option VTy} {H : Ze} {op : Op} {ρ : Operand → VVal} {t : TypeId} {a : Operand} {y : VTy} {p v : VVal} (ho : op = .load t a) (ha : ρ a = p) (hy : T t = some y) (hd : Zm y.desc = false) (h : LdOk H p v := by first | exact .inl ⟨_, _, rfl, by rfl⟩ | exact .inr ⟨_, _, _, _, rfl, XH52, by rfl⟩) : vop T ρ H op = some (v, H) := v_ld ho ha hy hd h
theorem W2g {T : TypeId → Option VTy} {H : Ze} {op : Op} {ρ : VEnv} {H' : Ze} {t : TypeId} {a : Operand} {i : Nat} {v : VVal} {y : VTy} {b off : Nat} {cs new : List VVal} (ho : op = .store t a (.tmp i)) (hv : ρ[i]? = some v) (ha : ρ.eval a = .ptr (some (b, off))) (hy : T t = some y) (hx : v.cells = some new) (hn : new.length = y.size) (h1 : new.all VVal.one = true) (hb : H[b]? = some (.cells cs true) := by exact XH52) (hl : off + new.length ≤ cs.length := by exact XH49) (hH : H.set b (.cells (Zv cs off new) true) = H' := by exact ht_incw hA) : vop T ρ.eval H op = some (.skip, H') := ZT ho hv ha hy hx hn h1 hb hl hH
theorem W2h {T : TypeId → Option VTy} {H : Ze} {op : Op} {ρ : VEnv} {H' : Ze} {t : TypeId} {a : Operand} {i : Nat} {v : VVal} {y : VTy} {b off : Nat} {cs new : List VVal} (ho : op = .store t a (.tmp i)) (hv : ρ[i]? = some v) (ha : ρ.eval a = .ptr (some (b, off))) (hy : T t = some y) (hx : v.cells = some new) (hn : new.length = y.size) (h1 : new.all VVal.one = true) (hb : H[b]? = some (.cells cs true) := by exact XH52) (hl : off + new.length ≤ cs.length := by exact XH49) (hH : H.set b (.cells (Zv cs off new) true) = H' := by exact ht_setq hA) : vop T ρ.eval H op = some (.skip, H') := ZT ho hv ha hy hx hn h1 hb hl hH
theorem W2i {T : TypeId → Option VTy} {H : Ze} {op : Op} {ρ : Operand → VVal} {t : TypeId} {a : Operand} {y : VTy} {p v : VVal} (ho : op = .load t a) (ha : ρ a = p) (hy : T t = some y) (hd : Zm y.desc = false) (h : LdOk H p v := by first | exact .inl ⟨_, _, rfl, by exact hown_cell (t := (s1.1, s1.2 ||| 1#64 <<< c)) (by show 0 ≤ (c : Int) ∧ (c : Int) < s1.1.length; omega)⟩ | exact .inr ⟨_, _, _, _, rfl, XH52, by exact hown_cell (t := (s1.1, s1.2 ||| 1#64 <<< c)) (by show 0 ≤ (c : Int) ∧ (c : Int) < s1.1.length; omega)⟩) : vop T ρ H op = some (v, H) := v_ld ho ha hy hd h
theorem W2k {T : TypeId → Option VTy} {H : Ze} {op : Op} {ρ : VEnv} {H' : Ze} {t : TypeId} {a : Operand} {i : Nat} {v : VVal} {y : VTy} {b off : Nat} {cs new : List VVal} (ho : op = .store t a (.tmp i)) (hv : ρ[i]? = some v) (ha : ρ.eval a = .ptr (some (b, off))) (hy : T t = some y) (hx : v.cells = some new) (hn : new.length = y.size) (h1 : new.all VVal.one = true) (hb : H[b]? = some (.cells cs true) := by exact XH52) (hl : off + new.length ≤ cs.length := by first | exact ht_len6 (t := (s1.1, 0#64)) (show c < s1.1.length by omega) | exact ht_len6 (Nat.lt_of_lt_of_eq hc64 (hgr.yes (by assumption)).1.len.symm)) (hH : H.set b (.cells (Zv cs off new) true) = H' := by first | exact ht_setp hA (show c < s1.1.length by omega) | exact ht_setp hA (Nat.lt_of_lt_of_eq hc64 (hgr.yes (by assumption)).1.len.symm)) : vop T ρ.eval H op = some (.skip, H') := ZT ho hv ha hy hx hn h1 hb hl hH
theorem W2l {T : TypeId → Option VTy} {H : Ze} {op : Op} {ρ : Operand → VVal} {t ty : TypeId} {x y : Operand} {n m : Int} (ho : op = .binOp .sub t x y ty) (hx : ρ x = .int .i64 n) (hy : ρ y = .int .i64 m) (h : -9223372036854775808 ≤ n - m ∧ n - m < 9223372036854775808 := by exact XH57) : vop T ρ H op = some (.int .i64 (n - m), H) := v_subI ho hx hy h
theorem W2m {S : V.Sys} {H : Ze} {fn : Func} {ex : Exit} {env : VEnv} {B L : Ze} {v : VVal} {R : VVal → Ze → Prop} (hx : ex = .normal ∨ ex = .ret) (hv : ZZ S.C.T env (B ++ L) fn.results = some v) (h : R v B) (hB : BaseOk H B := by exact ht_base hA) (hu : v.under H.length = true := by first | rfl | simp [VVal.under, VVal.underL, *]) : fnK S fn H R ex env (B ++ L) := YE hx hv hB hu h
theorem hset_spec {x : SW} (H : Ze) (w : BitVec 64) : F (psys x) 145 [iW w] H fun v G => v = .agg [iW w] ∧ G = H := by
 refine Zr Tryd.func145 rfl u6 rfl ?_
 refine Zd (Za ?_)
 refine Lo u6 (ZA rfl rfl) ?_
 refine Zf (Zc (Zd (Za ?_)))
 refine Lo u6 (rfl) ?_
 refine Lo u6 (Zb (.inl rfl) rfl) ?_
 refine Zn rfl rfl rfl (by exact Of_spec _ 0#64 _) ?_
 rintro _ _ ⟨rfl, rfl⟩
 refine Le u6 ?_
 refine Lo u6 (W13 rfl rfl rfl rfl rfl rfl rfl) ?_
 refine Zf (Zc (Zl ?_))
 refine W10 (.inr rfl) (Yz rfl rfl rfl rfl XH0 XH4) ?_
 exact ⟨rfl, rfl⟩
theorem hgrow_in {x : SW} {p q y n : Nat} {rows : List (BitVec 64)} (ih : ∀ (H : Ze) (row : Int) (O : List Int) (S : BitVec 64) (g : Gz), Apart3 H p q y → H[p]? = some (hmB y rows O) → H[q]? = some (hsB S) → H[y]? = some (gaB (gw g S)) → 0 ≤ row → row < rows.length → Gok rows O → 64 - YK 64 S < n → F (psys x) 119 [.ptr (some (p, 0)), iI row, .ptr (some (q, 0))] H fun v G => v = .bool (grw rows n row (O, S)).1 ∧ G = htH H p q y rows (grw rows n row (O, S)).2 (gw g (grw rows n row (O, S)).2.2)) {H L : Ze} (a : Apart3 H p q y) (t : GSt) (g : Gz) (row : Int) (h0 : 0 ≤ row) (h1 : row < rows.length) (hk : Gok rows t.1) (hm : 64 - YK 64 t.2 < n) :
    F (psys x) 119 [.ptr (some (p, 0)), iI row, .ptr (some (q, 0))] (htH H p q y rows t (gw g t.2) ++ L) fun v G => v = .bool (grw rows n row t).1 ∧ G = htH H p q y rows (grw rows n row t).2 (gw g (grw rows n row t).2.2) ++ L := by
  have := ih (htH H p q y rows t (gw g t.2) ++ L) row t.1 t.2 g (apart_app a) (ht_p a) (ht_q a) (ht_s a) h0 h1 hk hm
  rw [ht_ht a] at this
  exact this
theorem hgrow_s {x : SW} (p q y n : Nat) (rows : List (BitVec 64)) (ih : ∀ (H : Ze) (row : Int) (O : List Int) (S : BitVec 64) (g : Gz), Apart3 H p q y → H[p]? = some (hmB y rows O) → H[q]? = some (hsB S) → H[y]? = some (gaB (gw g S)) → 0 ≤ row → row < rows.length → Gok rows O → 64 - YK 64 S < n → F (psys x) 119 [.ptr (some (p, 0)), iI row, .ptr (some (q, 0))] H fun v G => v = .bool (grw rows n row (O, S)).1 ∧ G = htH H p q y rows (grw rows n row (O, S)).2 (gw g (grw rows n row (O, S)).2.2)) (H : Ze) (hA : Apart3 H p q y) (row : Int) (O : List Int) (S : BitVec 64) (g : Gz) (hp : H[p]? = some (hmB y rows O)) (hq : H[q]? = some (hsB S)) (hs : H[y]? = some (gaB (gw g S))) (h0 : 0 ≤ row) (h1 : row < rows.length) (hO : Gok rows O) (hm : 64 - YK 64 S < n + 1) (h62 : rows.length < 4611686018427387904) : F (psys x) 119 [.ptr (some (p, 0)), iI row, .ptr (some (q, 0))] H fun v G => v = .bool (grw rows (n + 1) row (O, S)).1 ∧ G = htH H p q y rows (grw rows (n + 1) row (O, S)).2 (gw g (grw rows (n + 1) row (O, S)).2.2) := by
 refine Zr Tryd.func119 rfl u67 rfl ?_
 refine Zd (Za ?_)
 refine Lo u67 (Zy rfl rfl rfl) ?_
 refine Lo u67 (Zy rfl rfl rfl) ?_
 refine Lo u67 (Zy rfl rfl rfl) ?_
 refine Lo u67 (ZA rfl rfl) ?_
 refine Zf (Zc (Zd (Zd ?_)))
 refine ZW [0, 1, 2, 3, 4, 5, 6, 7, 8] #[0, 1, 3, 7, 0, 31, 63, 127, 255] XH6 XH6 XH6 ?_
 refine Oo u67 .look rfl (W2c rfl rfl rfl rfl) ?_
 refine Oo u67 .calm rfl (rfl) ?_
 refine Oo u67 .calm rfl (rfl) ?_
 refine Oo u67 .look rfl (W2c rfl rfl rfl rfl) ?_
 refine Oo u67 .look rfl (W2c rfl rfl rfl rfl) ?_
 refine Oo u67 .calm rfl (W18 rfl rfl rfl rfl rfl rfl rfl) ?_
 refine Oo u67 .look rfl (W2c rfl rfl rfl rfl) ?_
 refine Yf (env' := u67) rfl rfl rfl rfl rfl (by exact hset_spec _ _) XH27 rfl rfl ?_
 refine Yf (env' := u67) rfl rfl rfl rfl rfl (by exact All_spec _ _) XH27 rfl rfl ?_
 refine Z3 [] XH6 (trivial) ?_
 refine Zc (Zj ?_)
 refine ZC (mk 67 147573952589676347271) (env' := u67) rfl ?_
 refine B_rangeM cI (pl (rows.getD row.toNat 0) 0) (fun l0 h => by cases h) rfl (fun l G R h => All1_spec _ _ _ _ h) (σ := GSt × Bool) (fun k s => htH H p q y rows s.1 (gw g (s.1).2) ++ [.cells [.ptr (some (p, 0))] true, .cells [iI row] true, .cells [.ptr (some (q, 0))] true, .cells [.bool s.2] true, k]) ((O, S), false) (fun k => by show _ = htH H p q y rows (O, S) (gw g S) ++ _; rw [htH_id hp hq hs, List.append_assoc]; rfl) (fun k s => by rw [List.length_append]; exact ZB (YQ rfl) rfl) (fun k k1 s => by rw [List.length_append]; exact ZF (YQ rfl)) (fun pre s => ∃ z, (pl (rows.getD row.toNat 0) 0) = pre ++ z ∧ grL (grw rows n) row (pl (rows.getD row.toNat 0) 0) (O, S) = grL (grw rows n) row z s.1 ∧ s.1.1 = O ∧ 64 - YK 64 s.1.2 ≤ n ∧ s.2 = false) ?_ (fun j pre c s => (j = Code.ret ∧ (grL (grw rows n) row (pl (rows.getD row.toNat 0) 0) (O, S) = (true, s.1) ∧ s.2 = true))) rfl ?_ ?_ ?_
 ·exact ⟨_, rfl, rfl, rfl, by show 64 - YK 64 S ≤ n; omega, rfl⟩
 ·intro pre c post s hx hI kr kb hkr hkb
  obtain ⟨s1, res⟩ := s
  try dsimp only at hI ⊢
  obtain ⟨z, hz, hg, hO1, hcm, hres⟩ := hI
  have hres : res = false := hres
  subst hres
  obtain rfl : z = c :: post := List.append_cancel_left (hz.symm.trans hx)
  have hO1 : s1.1 = O := hO1
  have hcm : 64 - YK 64 s1.2 ≤ n := hcm
  have hg : grL (grw rows n) row (pl (rows.getD row.toNat 0) 0) (O, S) = grL (grw rows n) row (c :: post) s1 := hg
  have hcx : c ∈ (pl (rows.getD row.toNat 0) 0) := by rw [hx]; simp
  obtain ⟨_, hc64, _⟩ := mem_pl.1 hcx
  have hk1 : Gok rows s1.1 := by rw [hO1]; exact hO
  have hl1 : s1.1.length = 64 := hk1.len
  have hnn1 := hk1.nn c hc64
  refine ZU (env' := u67) rfl ?_
  refine Za ?_
  refine Lo u67 (Zb (.inr rfl) rfl) ?_
  refine Zf ?_
  refine ⟨rfl, (s1, false), rfl, ?_⟩
  try dsimp only
  refine Zj (Zd (Zd (Za ?_)))
  refine Lo u67 (W2e rfl rfl rfl rfl) ?_
  refine Lo u67 (rfl) ?_
  refine Lo u67 (W2f rfl rfl rfl rfl) ?_
  refine Zn rfl rfl rfl (by exact hset_spec _ _) ?_
  rintro _ _ ⟨rfl, rfl⟩
  refine Le u67 ?_
  refine Lo u67 (Zb (.inl rfl) rfl) ?_
  refine Zn rfl rfl rfl (by exact Has_spec _ _ _) ?_
  rintro v _ ⟨hv, rfl⟩; obtain rfl : v = .bool (s1.2.getLsbD c) := hv.trans (by rw [decide_eq_true ⟨Int.natCast_nonneg c, by omega⟩, Bool.true_and]; rfl)
  refine Le u67 ?_
  refine Zf (Zc ?_)
  refine Zo _ rfl (fun hc1 => ?_) (fun hc1 => ?_)
  ·try simp only [qB] at hc1
   refine ZP (ZR (ZO ?_))
   have hseen : s1.2.getLsbD c = true := by assumption
   refine ⟨(s1, false), rfl, .inl ⟨rfl, ?_⟩⟩
   exact ⟨post, by rw [hx, List.append_assoc]; rfl, by rw [hg, grL, if_pos hseen], hO1, hcm, rfl⟩
  ·try simp only [qB] at hc1
   refine Zk (Zc (Zd (Za ?_)))
   have hnseen : ¬ s1.2.getLsbD c = true := nof (by assumption)
   have hcg := come_grow (s := s1.2) (t := s1.2 ||| 1#64 <<< c) (fun a ha => (or1 hc64).2 (.inl ha)) ⟨c, (or1 hc64).2 (.inr rfl), bool_f hnseen⟩
   have hcl := come_le (s1.2 ||| 1#64 <<< c)
   refine Lo u67 (W2e rfl rfl rfl rfl) ?_
   refine Lo u67 (rfl) ?_
   refine Lo u67 (rfl) ?_
   refine Lo u67 (W2c rfl rfl rfl rfl) ?_
   refine Lo u67 (rfl) ?_
   refine Lo u67 (rfl) ?_
   refine Lo u67 (W2f rfl rfl rfl rfl) ?_
   refine Lo u67 (v_addW (b := 1#64) rfl rfl rfl) ?_
   refine Lo u67 (rfl) ?_
   refine Lo u67 (rfl) ?_
   refine Lo u67 (W2g rfl rfl rfl rfl rfl rfl rfl) ?_
   refine Zf (Zc (Zd ?_))
   refine ZW [0, 1, 2, 3, 4, 5, 6, 7] #[0, 1, 3, 0, 8, 31, 63, 127] XH6 XH6 XH6 ?_
   refine Oo u67 .look rfl (W2e rfl rfl rfl rfl) ?_
   refine Oo u67 .calm rfl (rfl) ?_
   refine Oo u67 .look rfl (W2c rfl rfl rfl rfl) ?_
   refine Oo u67 .calm rfl (Zb (.inl rfl) rfl) ?_
   refine Oo u67 .calm rfl (v_shl1 rfl rfl rfl XH2) ?_
   refine Oo u67 .calm rfl (v_orW rfl rfl rfl) ?_
   refine Oo u67 .calm rfl (rfl) ?_
   refine Oo u67 .turn rfl (W2h rfl rfl rfl rfl rfl rfl rfl) ?_
   refine Z3 [] XH6 (trivial) ?_
   refine Zc (Zd ?_)
   rw [come_one hc64 (bool_f hnseen) g]
   refine ZW [0, 1, 2, 3, 4, 5, 6, 7, 8, 9, 10, 11, 12, 13, 14, 15, 16, 17, 18] #[0, 0, 1, 5, 15, 31, 63, 127, 255, 255, 255, 767, 2815, 7935, 16127, 32511, 255, 131071, 262143] XH6 XH6 XH6 ?_
   refine Oo u67 .look rfl (W2e rfl rfl rfl rfl) ?_
   refine Oo u67 .calm rfl (Zb (.inl rfl) rfl) ?_
   refine Oo u67 .calm rfl (rfl) ?_
   refine Oo u67 .calm rfl (rfl) ?_
   refine Oo u67 .calm rfl XH43 ?_
   refine Oo u67 .look rfl (W2i rfl rfl rfl rfl) ?_
   refine Oo u67 .calm rfl (rfl) ?_
   refine Oo u67 .calm rfl (Zb (.inl rfl) rfl) ?_
   refine O_split 48 (env1 := u67) (env2 := u67) rfl rfl rfl (fun hg2 => ?_) (fun hg2 => ?_)
   ·try simp only [qB] at hg2
    refine Of u67 rfl ?_
    refine Of u67 rfl ?_
    refine Of u67 rfl ?_
    refine Of u67 rfl ?_
    refine Of u67 rfl ?_
    refine Of u67 rfl ?_
    refine Of u67 rfl ?_
    refine Of u67 rfl ?_
    refine Of u67 rfl ?_
    refine Of u67 rfl ?_
    refine Oo u67 .calm rfl (ZY (VVal.bool true) rfl rfl rfl) ?_
    refine Z3 [] XH6 (trivial) ?_
    refine Zc ?_
    refine Z0 rfl rfl ?_
    refine Zd ?_
    refine ZW [0, 1, 2, 3, 4, 5, 6, 7] #[0, 0, 0, 4, 1, 17, 63, 127] XH6 XH6 XH6 ?_
    refine Oo u67 .look rfl (W2e rfl rfl rfl rfl) ?_
    refine Oo u67 .calm rfl (Zb (.inl rfl) rfl) ?_
    refine Oo u67 .look rfl (W2e rfl rfl rfl rfl) ?_
    refine Oo u67 .calm rfl (W14 rfl rfl rfl) ?_
    refine Oo u67 .calm rfl (rfl) ?_
    refine Oo u67 .calm rfl (rfl) ?_
    refine Oo u67 .calm rfl XH43 ?_
    refine Oo u67 .turn rfl (W2k rfl rfl rfl rfl rfl rfl rfl) ?_
    refine Z3 [] XH6 (trivial) ?_
    refine Zc (Zd (Za ?_))
    refine Lo u67 (Z6 (VVal.bool true) rfl rfl rfl rfl rfl rfl rfl XH24 XH3 (by exact ZF (YQ rfl))) ?_
    refine Zf (Zc (Zl (ZX ?_)))
    refine ⟨(_, true), rfl, .inr ⟨Code.ret, rfl, ⟨rfl, ?_⟩⟩⟩
    first
      | exact ⟨by rw [hg, grL, if_neg hnseen, if_pos (by assumption)]; rfl, rfl⟩
      | exact ⟨by rw [hg, grL, if_neg hnseen, if_neg hno, if_pos (by assumption)]; rfl, rfl⟩
   ·try simp only [qB] at hg2
    have hno : ¬ s1.1.getD c 0 = 0 := by assumption
    have hgr := grw_ok (rows := rows) (n := n) (row := s1.1.getD c 0 - 1) (s := (s1.1, s1.2 ||| 1#64 <<< c)) (by omega) (by omega) hk1 XH36
    refine Oo u67 .look rfl (W2e rfl rfl rfl rfl) ?_
    refine Oo u67 .look rfl (W2e rfl rfl rfl rfl) ?_
    refine Oo u67 .calm rfl (Zb (.inl rfl) rfl) ?_
    refine Oo u67 .calm rfl (rfl) ?_
    refine Oo u67 .calm rfl (rfl) ?_
    refine Oo u67 .calm rfl XH43 ?_
    refine Oo u67 .look rfl (W2i rfl rfl rfl rfl) ?_
    refine Oo u67 .calm rfl (W2l rfl rfl rfl) ?_
    refine Oo u67 .look rfl (W2e rfl rfl rfl rfl) ?_
    refine Yf (env' := u67) rfl rfl rfl rfl rfl (by exact hgrow_in ih hA (s1.1, s1.2 ||| 1#64 <<< c) g _ (show (0 : Int) ≤ s1.1.getD c 0 - 1 by omega) (show s1.1.getD c 0 - 1 < (rows.length : Int) by omega) hk1 XH36) XH27 rfl rfl ?_
    refine Oo u67 .calm rfl (ZQ rfl rfl rfl) ?_
    refine Z3 [] XH6 (trivial) ?_
    refine Zc ?_
    refine Zo _ rfl (fun hc3 => ?_) (fun hc3 => ?_)
    ·try simp only [qB] at hc3
     refine Zd ?_
     refine ZW [0, 1, 2, 3, 4, 5, 6, 7] #[0, 0, 0, 4, 1, 17, 63, 127] XH6 XH6 XH6 ?_
     refine Oo u67 .look rfl (W2e rfl rfl rfl rfl) ?_
     refine Oo u67 .calm rfl (Zb (.inl rfl) rfl) ?_
     refine Oo u67 .look rfl (W2e rfl rfl rfl rfl) ?_
     refine Oo u67 .calm rfl (W14 rfl rfl rfl) ?_
     refine Oo u67 .calm rfl (rfl) ?_
     refine Oo u67 .calm rfl (rfl) ?_
     refine Oo u67 .calm rfl XH43 ?_
     refine Oo u67 .turn rfl (W2k rfl rfl rfl rfl rfl rfl rfl) ?_
     refine Z3 [] XH6 (trivial) ?_
     refine Zc (Zd (Za ?_))
     refine Lo u67 (Z6 (VVal.bool true) rfl rfl rfl rfl rfl rfl rfl XH24 XH3 (by exact ZF (YQ rfl))) ?_
     refine Zf (Zc (Zl (ZX ?_)))
     refine ⟨(_, true), rfl, .inr ⟨Code.ret, rfl, ⟨rfl, ?_⟩⟩⟩
     first
       | exact ⟨by rw [hg, grL, if_neg hnseen, if_pos (by assumption)]; rfl, rfl⟩
       | exact ⟨by rw [hg, grL, if_neg hnseen, if_neg hno, if_pos (by assumption)]; rfl, rfl⟩
    ·try simp only [qB] at hc3
     refine Zk (Zu ?_)
     have hcg2 : YK 64 (s1.2 ||| 1#64 <<< c) ≤ YK 64 (grw rows n (s1.1.getD c 0 - 1) (s1.1, s1.2 ||| 1#64 <<< c)).2.2 := come_le2 hgr.sub
     refine ⟨(_, false), rfl, .inl ⟨rfl, ?_⟩⟩
     exact ⟨post, by rw [hx, List.append_assoc]; rfl, by rw [hg, grL, if_neg hnseen, if_neg hno, if_neg (nof (by assumption))]; rfl, ((hgr.no (by assumption)).1).trans hO1, (by show 64 - YK 64 (grw rows n (s1.1.getD c 0 - 1) (s1.1, s1.2 ||| 1#64 <<< c)).2.2 ≤ n; omega), rfl⟩
 ·intro s k hk hI
  obtain ⟨s1, res⟩ := s
  try dsimp only at hI ⊢
  obtain ⟨z, hz, hg, hO1, hcm, hres⟩ := hI
  have hres : res = false := hres
  subst hres
  obtain rfl : z = [] := by simpa using hz
  refine Zu (Zc (Zd (Za ?_)))
  refine Lo u67 (Z6 (VVal.bool false) rfl rfl rfl rfl rfl rfl rfl XH24 XH3 (by exact ZF (YQ rfl))) ?_
  refine Zf (Zc (Zl ?_))
  refine W2m (.inr rfl) (vres_cell rfl rfl rfl rfl (by exact ZB (YQ rfl) rfl) (by first | rfl | assumption | exact hown_cell (by omega) | exact hgp_cell hl1 | exact fget (α := BitVec 64) 0 (by omega))) ?_
  exact ⟨by rw [show grw rows (n + 1) row (O, S) = (false, s1) from grw_all.trans hg], by rw [show grw rows (n + 1) row (O, S) = (false, s1) from grw_all.trans hg]⟩
 ·rintro j pre c post s k hk hx (⟨rfl, hX⟩)
  obtain ⟨s1, res⟩ := s
  try dsimp only
  obtain ⟨hX1, hX2⟩ := hX
  have hX2 : res = true := hX2
  subst hX2
  refine J_ret ?_
  refine ZX (Zt ?_)
  refine W2m (.inr rfl) (vres_cell rfl rfl rfl rfl (by exact ZB (YQ rfl) rfl) (by first | rfl | assumption | exact hown_cell (by omega) | exact hgp_cell hl1 | exact fget (α := BitVec 64) 0 (by omega))) ?_
  exact ⟨by rw [show grw rows (n + 1) row (O, S) = (true, s1) from grw_all.trans hX1], by rw [show grw rows (n + 1) row (O, S) = (true, s1) from grw_all.trans hX1]⟩
end Go.Proofs.YtenkjadobkjaeaaDoor.VT
