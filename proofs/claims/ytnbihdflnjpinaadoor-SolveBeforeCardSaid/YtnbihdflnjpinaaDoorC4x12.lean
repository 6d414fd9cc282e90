/- Proved: Rows.SolveBeforeCardSaid, the statement SolveBefore with its card, of the given program at the commit; no conditions beyond those in the statement. -/
import Derived.Test.YtnbihdflnjpinaaDoorC4x11
import Derived.Shelf.Spec.TrailingZeros
import Derived.KernelRfl
set_option autoImplicit false
set_option linter.unusedVariables false
set_option maxRecDepth 100000
namespace Go.Proofs.YtnbihdflnjpinaaDoor.VT
open Go Go.V Go.Shelf Go.RowKit
noncomputable def ren : Ren := { f := fun _ => 125, t := fun t => if t = 54 then 149 else if t = 22 then 41 else if t = 25 then 126 else t, g := fun _ => 0 }
theorem mixed : Tryd.prog.follows .mixedOrders = true := by kernel_rfl
theorem tzLays : Lays7.n29 Tryd.prog ren := by
  constructor
  case mixed => exact mixed
  case f29 => exact Tryd.func125.trans (by kernel_rfl)
  case t0 => exact Tryd.underlying0
  case a0 => exact Tryd.isAgg0
  case z0 => exact Tryd.sizeOf0
  case v0 => exact Tryd.zeroValue0
  case i0 => kernel_rfl
  case t3 => exact Tryd.underlying3
  case a3 => exact Tryd.isAgg3
  case z3 => exact Tryd.sizeOf3
  case v3 => exact Tryd.zeroValue3
  case i3 => kernel_rfl
  case t4 => exact Tryd.underlying4
  case a4 => exact Tryd.isAgg4
  case z4 => exact Tryd.sizeOf4
  case v4 => exact Tryd.zeroValue4
  case i4 => kernel_rfl
  case t5 => exact Tryd.underlying5
  case a5 => exact Tryd.isAgg5
  case z5 => exact Tryd.sizeOf5
  case v5 => exact Tryd.zeroValue5
  case i5 => kernel_rfl
  case t22 => exact Tryd.underlying41
  case a22 => exact Tryd.isAgg41
  case z22 => exact Tryd.sizeOf41
  case v22 => exact Tryd.zeroValue41
  case i22 => kernel_rfl
  case t25 => exact Tryd.underlying126
  case a25 => exact Tryd.isAgg126
  case z25 => exact Tryd.sizeOf126
  case v25 => exact Tryd.zeroValue126
  case i25 => kernel_rfl
  case t54 => exact Tryd.underlying149
  case a54 => exact Tryd.isAgg149
  case z54 => exact Tryd.sizeOf149
  case g1 => kernel_rfl
noncomputable def cfg : Cfg := { T := tys, meth := fun _ _ => none, fn := fun f => Tryd.prog.funcs[f]? }
theorem cfgOk {w0 : World} : CfgOk Tryd.prog cfg w0 where
  mixed := mixed
  tys := tysOk
  fns f fn hf := ⟨hf, names_ok (by kernel_rfl) hf⟩
  meths t name f h := by cases h
/-- the worlds in which the statements begin -/
structure SW where
  w : World
  h0 : 0 < w.heap.size
  hT : TabAt 0 Lib.deBruijn64tab w
noncomputable def psys (x : SW) : V.Sys := ⟨Tryd.prog, cfg, x.w, cfgOk⟩
theorem tz_spec {x : SW} (H : VHeap) (m : BitVec 64) : F (psys x) 125 [iW m] H fun v G => v = .int .i64 (Lib.ctz 64 m.toNat) ∧ G = H := by
  intro n w ι args' s ra
  refine ⟨Tryd.call125 args' w, ?_⟩
  obtain ⟨y, hy, ry⟩ := one_rel' ra
  have hy' : args' = #[y] := by apply Array.ext'; simpa using hy
  simp only [Rel] at ry
  subst hy' ry
  have hT' : TabAt 0 Lib.deBruijn64tab w := by
    intro j hj
    have := x.hT j hj
    rw [← this]
    simp only [World.cell?]
    rw [s.below.block 0 x.h0]
    rfl
  have := Any7.bits_TrailingZeros64 tzLays m.toNat m.isLt w (fun _ => hT')
  refine callsIn_wide.2 (this.mono ?_)
  rintro e w' ⟨rfl, rfl⟩
  exact ⟨_, _, H, ι, rfl, Inj.ex_refl _ _, Nat.le_refl _, s, by simp [Rel], rfl, rfl⟩
end Go.Proofs.YtnbihdflnjpinaaDoor.VT

set_option autoImplicit false
set_option linter.unusedVariables false
set_option linter.unusedSimpArgs false
set_option maxHeartbeats 4000000
set_option maxRecDepth 100000
namespace Go.Proofs.YtnbihdflnjpinaaDoor.VT
open Go Go.V
abbrev u4 {a0 a1 a2 a3 : VVal} : VEnv := a0 :: a1 :: a2 :: a3 :: []
abbrev u6 {a0 a1 a2 a3 a4 a5 : VVal} : VEnv := a0 :: a1 :: a2 :: a3 :: a4 :: a5 :: []
abbrev u7 {a0 a1 a2 a3 a4 a5 a6 : VVal} : VEnv := a0 :: a1 :: a2 :: a3 :: a4 :: a5 :: a6 :: []
abbrev u13 {a0 a1 a2 a3 a4 a5 a6 a7 a8 a9 a10 a11 a12 : VVal} : VEnv := a0 :: a1 :: a2 :: a3 :: a4 :: a5 :: a6 :: a7 :: a8 :: a9 :: a10 :: a11 :: a12 :: []
abbrev u16 {a0 a1 a2 a3 a4 a5 a6 a7 a8 a9 a10 a11 a12 a13 a14 a15 : VVal} : VEnv := a0 :: a1 :: a2 :: a3 :: a4 :: a5 :: a6 :: a7 :: a8 :: a9 :: a10 :: a11 :: a12 :: a13 :: a14 :: a15 :: []
abbrev u18 {a0 a1 a2 a3 a4 a5 a6 a7 a8 a9 a10 a11 a12 a13 a14 a15 a16 a17 : VVal} : VEnv := a0 :: a1 :: a2 :: a3 :: a4 :: a5 :: a6 :: a7 :: a8 :: a9 :: a10 :: a11 :: a12 :: a13 :: a14 :: a15 :: a16 :: a17 :: []
abbrev u20 {a0 a1 a2 a3 a4 a5 a6 a7 a8 a9 a10 a11 a12 a13 a14 a15 a16 a17 a18 a19 : VVal} : VEnv := a0 :: a1 :: a2 :: a3 :: a4 :: a5 :: a6 :: a7 :: a8 :: a9 :: a10 :: a11 :: a12 :: a13 :: a14 :: a15 :: a16 :: a17 :: a18 :: a19 :: []
abbrev u35 {a0 a1 a2 a3 a4 a5 a6 a7 a8 a9 a10 a11 a12 a13 a14 a15 a16 a17 a18 a19 a20 a21 a22 a23 a24 a25 a26 a27 a28 a29 a30 a31 a32 a33 a34 : VVal} : VEnv := a0 :: a1 :: a2 :: a3 :: a4 :: a5 :: a6 :: a7 :: a8 :: a9 :: a10 :: a11 :: a12 :: a13 :: a14 :: a15 :: a16 :: a17 :: a18 :: a19 :: a20 :: a21 :: a22 :: a23 :: a24 :: a25 :: a26 :: a27 :: a28 :: a29 :: a30 :: a31 :: a32 :: a33 :: a34 :: []
theorem W10 {S : V.Sys} {H : VHeap} {fn : Func} {ex : Exit} {env : VEnv} {B L : VHeap} {v : VVal} {R : VVal → VHeap → Prop} (hx : ex = .normal ∨ ex = .ret) (hv : vresults S.C.T env (B ++ L) fn.results = some v) (h : R v B) (hB : BaseOk H B := by first | exact BaseOk.refl _ | exact BaseOk.set (BaseOk.refl _) _ rfl) (hu : v.under H.length = true := by first | rfl | simp [VVal.under, VVal.underL, *]) : fnK S fn H R ex env (B ++ L) := E_app hx hv hB hu h
theorem W11 {T : TypeId → Option VTy} {H : VHeap} {op : Op} {ρ : Operand → VVal} {t : TypeId} {a : Operand} {y : VTy} {p : VVal} {n : Nat} {vs : List VVal} (ho : op = .load t a) (ha : ρ a = p) (hy : T t = some y) (hd : isAggDesc y.desc = true) (hn : y.size = n) (h : LdOkA H p n vs := by first | exact .inl ⟨_, _, rfl, by first | rfl | assumption | exact fget (α := BitVec 64) 0 (by omega) | exact fget (α := Int) 0 (by omega) | exact fget0 (α := BitVec 64) 0 (by omega) | exact fget0 (α := Int) 0 (by omega) | exact fget (α := Bool) false (by omega) | exact fget0 (α := Bool) false (by omega) | (simp [*]; done)⟩ | exact .inr ⟨_, _, _, _, rfl, by first | exact get_app rfl rfl | exact get_out (by assumption) | exact getE0 rfl rfl | exact get_out (get_app rfl rfl) | exact get_app rfl (by assumption) | assumption | (simp only [List.append_assoc, List.singleton_append, List.cons_append, List.nil_append]; refine getE (i := 0) rfl ?_ rfl; simp; done) | (simp only [List.append_assoc, List.singleton_append, List.cons_append, List.nil_append]; refine getE (i := 1) rfl ?_ rfl; simp; done) | (simp only [List.append_assoc, List.singleton_append, List.cons_append, List.nil_append]; refine getE (i := 2) rfl ?_ rfl; simp; done) | (simp only [List.append_assoc, List.singleton_append, List.cons_append, List.nil_append]; refine getE (i := 3) rfl ?_ rfl; simp; done) | (simp [*]; done), by first | rfl | assumption | exact fget (α := BitVec 64) 0 (by omega) | exact fget (α := Int) 0 (by omega) | exact fget0 (α := BitVec 64) 0 (by omega) | exact fget0 (α := Int) 0 (by omega) | exact fget (α := Bool) false (by omega) | exact fget0 (α := Bool) false (by omega) | (simp [*]; done)⟩) : vop T ρ H op = some (.agg vs, H) := v_ldA ho ha hy hd hn h
theorem W12 {T : TypeId → Option VTy} {H : VHeap} {op : Op} {ρ : Operand → VVal} {t : TypeId} {a : Operand} {y : VTy} {p v : VVal} (ho : op = .load t a) (ha : ρ a = p) (hy : T t = some y) (hd : isAggDesc y.desc = false) (h : LdOk H p v := by first | exact .inl ⟨_, _, rfl, by first | rfl | assumption | exact fget (α := BitVec 64) 0 (by omega) | exact fget (α := Int) 0 (by omega) | exact fget0 (α := BitVec 64) 0 (by omega) | exact fget0 (α := Int) 0 (by omega) | exact fget (α := Bool) false (by omega) | exact fget0 (α := Bool) false (by omega) | (simp [*]; done)⟩ | exact .inr ⟨_, _, _, _, rfl, by first | exact get_app rfl rfl | exact get_out (by assumption) | exact getE0 rfl rfl | exact get_out (get_app rfl rfl) | exact get_app rfl (by assumption) | assumption | (simp only [List.append_assoc, List.singleton_append, List.cons_append, List.nil_append]; refine getE (i := 0) rfl ?_ rfl; simp; done) | (simp only [List.append_assoc, List.singleton_append, List.cons_append, List.nil_append]; refine getE (i := 1) rfl ?_ rfl; simp; done) | (simp only [List.append_assoc, List.singleton_append, List.cons_append, List.nil_append]; refine getE (i := 2) rfl ?_ rfl; simp; done) | (simp only [List.append_assoc, List.singleton_append, List.cons_append, List.nil_append]; refine getE (i := 3) rfl ?_ rfl; simp; done) | (simp [*]; done), by first | rfl | assumption | exact fget (α := BitVec 64) 0 (by omega) | exact fget (α := Int) 0 (by omega) | exact fget0 (α := BitVec 64) 0 (by omega) | exact fget0 (α := Int) 0 (by omega) | exact fget (α := Bool) false (by omega) | exact fget0 (α := Bool) false (by omega) | (simp [*]; done)⟩) : vop T ρ H op = some (v, H) := v_ld ho ha hy hd h
theorem W13 {T : TypeId → Option VTy} {H : VHeap} {op : Op} {ρ : VEnv} {H' : VHeap} {t : TypeId} {a : Operand} {i : Nat} {v : VVal} {y : VTy} {b off : Nat} {cs new : List VVal} (ho : op = .store t a (.tmp i)) (hv : ρ[i]? = some v) (ha : ρ.eval a = .ptr (some (b, off))) (hy : T t = some y) (hx : v.cells = some new) (hn : new.length = y.size) (h1 : new.all VVal.one = true) (hb : H[b]? = some (.cells cs true) := by first | exact get_app rfl rfl | exact get_out (by assumption) | exact getE0 rfl rfl | exact get_out (get_app rfl rfl) | exact get_app rfl (by assumption) | assumption | (simp only [List.append_assoc, List.singleton_append, List.cons_append, List.nil_append]; refine getE (i := 0) rfl ?_ rfl; simp; done) | (simp only [List.append_assoc, List.singleton_append, List.cons_append, List.nil_append]; refine getE (i := 1) rfl ?_ rfl; simp; done) | (simp only [List.append_assoc, List.singleton_append, List.cons_append, List.nil_append]; refine getE (i := 2) rfl ?_ rfl; simp; done) | (simp only [List.append_assoc, List.singleton_append, List.cons_append, List.nil_append]; refine getE (i := 3) rfl ?_ rfl; simp; done) | (simp [*]; done)) (hl : off + new.length ≤ cs.length := by first | exact Nat.le_of_ble_eq_true rfl | (simp only [List.length_map, List.length_cons, List.length_nil]; omega) | omega | (simp; done) | (simp; omega)) (hH : H.set b (.cells (splice cs off new) true) = H' := by first | exact setE0 rfl rfl | (simp only [List.append_assoc, List.singleton_append, List.cons_append, List.nil_append]; refine setE (i := 0) rfl ?_; simp; done) | (simp only [List.append_assoc, List.singleton_append, List.cons_append, List.nil_append]; refine setE (i := 1) rfl ?_; simp; done) | (simp only [List.append_assoc, List.singleton_append, List.cons_append, List.nil_append]; refine setE (i := 2) rfl ?_; simp; done) | (simp only [List.append_assoc, List.singleton_append, List.cons_append, List.nil_append]; refine setE (i := 3) rfl ?_; simp; done) | (refine setB rfl ?_; simp; done) | exact set_app rfl | exact set_out (lt_of_get (by assumption)) | rfl) : vop T ρ.eval H op = some (.skip, H') := v_storeT ho hv ha hy hx hn h1 hb hl hH
theorem W14 {T : TypeId → Option VTy} {H : VHeap} {op : Op} {ρ : Operand → VVal} {t ty : TypeId} {x y : Operand} {n m : Int} (ho : op = .binOp .add t x y ty) (hx : ρ x = .int .i64 n) (hy : ρ y = .int .i64 m) (h : -9223372036854775808 ≤ n + m ∧ n + m < 9223372036854775808 := by first | assumption | omega | (simp [*]; done) | (simp at *; omega)) : vop T ρ H op = some (.int .i64 (n + m), H) := v_addI ho hx hy h
theorem Ones_all {x : SW} (H : VHeap) : F (psys x) 107 [.int .u64 ((18446744073709551615#64).toNat : Int)] H fun v G => v = .int .i64 64 ∧ G = H := by
 refine F_body Tryd.func107 rfl u35 rfl ?_
 refine B_seq (B_region ?_)
 refine Lo u35 (v_const (VVal.int .i64 0) (.inr rfl) rfl) ?_
 refine L_nil (K_seq (B_seq (B_region ?_)))
 refine Lo u35 (v_move (.inl rfl) rfl) ?_
 refine Lo u35 (v_shrW rfl rfl rfl (by first | assumption | omega | (simp [*]; done) | (simp at *; omega))) ?_
 refine Lo u35 (v_andW (b := 6148914691236517205#64) rfl rfl rfl) ?_
 refine Lo u35 (v_move (.inl rfl) rfl) ?_
 refine Lo u35 (v_andW (b := 6148914691236517205#64) rfl rfl rfl) ?_
 refine Lo u35 (v_addW rfl rfl rfl) ?_
 refine Lo u35 (v_move (.inr rfl) rfl) ?_
 refine L_nil (K_seq (B_seq (B_region ?_)))
 refine Lo u35 (v_move (.inl rfl) rfl) ?_
 refine Lo u35 (v_shrW rfl rfl rfl (by first | assumption | omega | (simp [*]; done) | (simp at *; omega))) ?_
 refine Lo u35 (v_andW (b := 3689348814741910323#64) rfl rfl rfl) ?_
 refine Lo u35 (v_move (.inl rfl) rfl) ?_
 refine Lo u35 (v_andW (b := 3689348814741910323#64) rfl rfl rfl) ?_
 refine Lo u35 (v_addW rfl rfl rfl) ?_
 refine Lo u35 (v_move (.inr rfl) rfl) ?_
 refine L_nil (K_seq (B_seq (B_region ?_)))
 refine Lo u35 (v_move (.inl rfl) rfl) ?_
 refine Lo u35 (v_shrW rfl rfl rfl (by first | assumption | omega | (simp [*]; done) | (simp at *; omega))) ?_
 refine Lo u35 (v_move (.inl rfl) rfl) ?_
 refine Lo u35 (v_addW rfl rfl rfl) ?_
 refine Lo u35 (v_andW (b := 1085102592571150095#64) rfl rfl rfl) ?_
 refine Lo u35 (v_move (.inr rfl) rfl) ?_
 refine L_nil (K_seq (B_seq (B_region ?_)))
 refine Lo u35 (v_move (.inl rfl) rfl) ?_
 refine Lo u35 (v_move (.inl rfl) rfl) ?_
 refine Lo u35 (v_shrW rfl rfl rfl (by first | assumption | omega | (simp [*]; done) | (simp at *; omega))) ?_
 refine Lo u35 (v_addW rfl rfl rfl) ?_
 refine Lo u35 (v_move (.inr rfl) rfl) ?_
 refine L_nil (K_seq (B_seq (B_region ?_)))
 refine Lo u35 (v_move (.inl rfl) rfl) ?_
 refine Lo u35 (v_move (.inl rfl) rfl) ?_
 refine Lo u35 (v_shrW rfl rfl rfl (by first | assumption | omega | (simp [*]; done) | (simp at *; omega))) ?_
 refine Lo u35 (v_addW rfl rfl rfl) ?_
 refine Lo u35 (v_move (.inr rfl) rfl) ?_
 refine L_nil (K_seq (B_seq (B_region ?_)))
 refine Lo u35 (v_move (.inl rfl) rfl) ?_
 refine Lo u35 (v_move (.inl rfl) rfl) ?_
 refine Lo u35 (v_shrW rfl rfl rfl (by first | assumption | omega | (simp [*]; done) | (simp at *; omega))) ?_
 refine Lo u35 (v_addW rfl rfl rfl) ?_
 refine Lo u35 (v_move (.inr rfl) rfl) ?_
 refine L_nil (K_seq (B_seq (B_region ?_)))
 refine Lo u35 (v_move (.inl rfl) rfl) ?_
 refine Lo u35 (rfl) ?_
 refine Lo u35 (rfl) ?_
 refine Lo u35 (v_move (.inr rfl) rfl) ?_
 refine L_nil (K_seq (B_ret ?_))
 refine W10 (.inr rfl) (vres_tmp rfl rfl) ?_
 exact ⟨rfl, rfl⟩
theorem Width_spec {x : SW} (H : VHeap) (w : BitVec 64) : F (psys x) 95 [.agg [iW w]] H fun v G => v = .int .i64 64 ∧ G = H := by
 refine F_body Tryd.func95 rfl u6 rfl ?_
 refine B_seq (B_region ?_)
 refine Lo u6 (v_boxT rfl rfl rfl) ?_
 refine Lo u6 (v_const (VVal.int .i64 0) (.inr rfl) rfl) ?_
 refine L_nil (K_seq (B_seq (B_region ?_)))
 refine Lo u6 ((rfl : vop _ _ _ _ = some (VVal.int .u64 (((0#64 : BitVec 64).toNat : Nat) : Int), _))) ?_
 refine Lo u6 (v_xorU rfl rfl) ?_
 refine L_call rfl rfl rfl (by exact Ones_all _) ?_
 rintro _ _ ⟨rfl, rfl⟩
 refine Le u6 ?_
 refine Lo u6 (v_move (.inr rfl) rfl) ?_
 refine L_nil (K_seq (B_ret ?_))
 refine W10 (.inr rfl) (vres_tmp rfl rfl) ?_
 exact ⟨rfl, rfl⟩
theorem within_spec {x : SW} (H : VHeap) (w : BitVec 64) (i : Int) : F (psys x) 72 [.agg [iW w], iI i] H fun v G => v = .bool (decide (0 ≤ i ∧ i < 64)) ∧ G = H := by
 refine F_body Tryd.func72 rfl u13 rfl ?_
 refine B_seq (B_region ?_)
 refine Lo u13 (v_boxT rfl rfl rfl) ?_
 refine Lo u13 (v_const (VVal.bool false) (.inr rfl) rfl) ?_
 refine L_nil (K_seq (B_seq (B_region ?_)))
 refine Lo u13 (v_move (.inl rfl) rfl) ?_
 refine Lo u13 (rfl) ?_
 refine Lo u13 (v_move (.inl rfl) rfl) ?_
 refine L_split 7 (env1 := u13) (env2 := u13) rfl rfl rfl (fun hg1 => ?_) (fun hg1 => ?_)
 ·try simp only [qB] at hg1
  refine Lo u13 (v_move (.inl rfl) rfl) ?_
  refine Lo u13 (W11 rfl rfl rfl rfl rfl) ?_
  refine L_call rfl rfl rfl (by exact Width_spec _ _) ?_
  rintro _ _ ⟨rfl, rfl⟩
  refine Le u13 ?_
  refine Lo u13 (rfl) ?_
  refine Lo u13 (v_pickT rfl rfl rfl) ?_
  refine Lo u13 (v_move (.inr rfl) rfl) ?_
  refine L_nil (K_seq (B_ret ?_))
  refine W10 (.inr rfl) (vres_tmp rfl rfl) ?_
  exact ⟨by simp [*]; try omega, rfl⟩
 ·try simp only [qB] at hg1
  refine Lf u13 ?_
  refine Lf u13 ?_
  refine Lf u13 ?_
  refine Lf u13 ?_
  refine Lo u13 (v_pickFC (VVal.bool false) rfl rfl rfl) ?_
  refine Lo u13 (v_move (.inr rfl) rfl) ?_
  refine L_nil (K_seq (B_ret ?_))
  refine W10 (.inr rfl) (vres_tmp rfl rfl) ?_
  exact ⟨by simp [*]; try omega, rfl⟩
theorem Has_spec {x : SW} (H : VHeap) (w : BitVec 64) (i : Int) : F (psys x) 47 [.agg [iW w], iI i] H fun v G => v = .bool (decide (0 ≤ i ∧ i < 64) && w.getLsbD i.toNat) ∧ G = H := by
 refine F_body Tryd.func47 rfl u16 rfl ?_
 refine B_seq (B_region ?_)
 refine Lo u16 (v_boxT rfl rfl rfl) ?_
 refine Lo u16 (v_const (VVal.bool false) (.inr rfl) rfl) ?_
 refine L_nil (K_seq (B_seq (B_region ?_)))
 refine Lo u16 (W11 rfl rfl rfl rfl rfl) ?_
 refine Lo u16 (v_move (.inl rfl) rfl) ?_
 refine L_call rfl rfl rfl (by exact within_spec _ _ _) ?_
 rintro _ _ ⟨rfl, rfl⟩
 refine Le u16 ?_
 refine Lo u16 (v_move (.inl rfl) rfl) ?_
 refine L_split 8 (env1 := u16) (env2 := u16) rfl rfl rfl (fun hg1 => ?_) (fun hg1 => ?_)
 ·try simp only [qB] at hg1
  refine Lo u16 (rfl) ?_
  refine Lo u16 (W12 rfl rfl rfl rfl) ?_
  refine Lo u16 (v_move (.inl rfl) rfl) ?_
  refine Lo u16 (v_shrW rfl rfl rfl (by first | assumption | omega | (simp [*]; done) | (simp at *; omega))) ?_
  refine Lo u16 (v_andW (b := 1#64) rfl rfl rfl) ?_
  refine Lo u16 (rfl) ?_
  refine Lo u16 (v_pickT rfl rfl rfl) ?_
  refine Lo u16 (v_move (.inr rfl) rfl) ?_
  refine L_nil (K_seq (B_ret ?_))
  refine W10 (.inr rfl) (vres_tmp rfl rfl) ?_
  exact ⟨by (first | exact (congrArg VVal.bool (by rw [decide_eq_true hg1, Bool.true_and, ← bit1, ← beq_wd1])) | (rw [decide_eq_false (by omega), Bool.false_and])), rfl⟩
 ·try simp only [qB] at hg1
  refine Lf u16 ?_
  refine Lf u16 ?_
  refine Lf u16 ?_
  refine Lf u16 ?_
  refine Lf u16 ?_
  refine Lf u16 ?_
  refine Lo u16 (v_pickFC (VVal.bool false) rfl rfl rfl) ?_
  refine Lo u16 (v_move (.inr rfl) rfl) ?_
  refine L_nil (K_seq (B_ret ?_))
  refine W10 (.inr rfl) (vres_tmp rfl rfl) ?_
  exact ⟨by (first | exact (congrArg VVal.bool (by rw [decide_eq_true hg1, Bool.true_and, ← bit1, ← beq_wd1])) | (rw [decide_eq_false (by omega), Bool.false_and])), rfl⟩
theorem Of_spec {x : SW} (H : VHeap) (w u : BitVec 64) : F (psys x) 68 [.agg [iW w], iW u] H fun v G => v = .agg [iW u] ∧ G = H := by
 refine F_body Tryd.func68 rfl u7 rfl ?_
 refine B_seq (B_region ?_)
 refine Lo u7 (v_boxT rfl rfl rfl) ?_
 refine Lo u7 (v_alloc rfl rfl) ?_
 refine L_nil (K_seq (B_seq (B_region ?_)))
 refine Lo u7 (v_move (.inl rfl) rfl) ?_
 refine Lo u7 (rfl) ?_
 refine Lo u7 (W13 rfl rfl rfl rfl rfl rfl rfl) ?_
 refine L_nil (K_seq (B_ret ?_))
 refine W10 (.inr rfl) (vres_cellA rfl rfl rfl rfl (by first | exact get_app rfl rfl | exact get_out (by assumption) | exact getE0 rfl rfl | exact get_out (get_app rfl rfl) | exact get_app rfl (by assumption) | assumption | (simp only [List.append_assoc, List.singleton_append, List.cons_append, List.nil_append]; refine getE (i := 0) rfl ?_ rfl; simp; done) | (simp only [List.append_assoc, List.singleton_append, List.cons_append, List.nil_append]; refine getE (i := 1) rfl ?_ rfl; simp; done) | (simp only [List.append_assoc, List.singleton_append, List.cons_append, List.nil_append]; refine getE (i := 2) rfl ?_ rfl; simp; done) | (simp only [List.append_assoc, List.singleton_append, List.cons_append, List.nil_append]; refine getE (i := 3) rfl ?_ rfl; simp; done) | (simp [*]; done)) (by first | rfl | assumption | exact fget (α := BitVec 64) 0 (by omega) | exact fget (α := Int) 0 (by omega) | exact fget0 (α := BitVec 64) 0 (by omega) | exact fget0 (α := Int) 0 (by omega) | exact fget (α := Bool) false (by omega) | exact fget0 (α := Bool) false (by omega) | (simp [*]; done))) ?_
 exact ⟨rfl, rfl⟩
theorem below_spec {x : SW} (H : VHeap) (w : BitVec 64) (i : Int) : F (psys x) 124 [.agg [iW w], iI i] H fun v G => v = iW (if i ≤ 0 then 0#64 else if 64 ≤ i then ~~~0#64 else 1#64 <<< i.toNat - 1#64) ∧ G = H := by
 refine F_body Tryd.func124 rfl u18 rfl ?_
 refine B_seq (B_region ?_)
 refine Lo u18 (v_boxT rfl rfl rfl) ?_
 refine Lo u18 (v_const (VVal.int .u64 0) (.inr rfl) rfl) ?_
 refine L_nil (K_seq (B_seq (B_block (B_seq (B_region ?_)))))
 refine Lo u18 (v_move (.inl rfl) rfl) ?_
 refine Lo u18 (rfl) ?_
 refine Lo u18 (v_move (.inr rfl) rfl) ?_
 refine L_nil (K_seq ?_)
 refine B_cond _ rfl (fun hc1 => ?_) (fun hc1 => ?_)
 ·try simp only [qB] at hc1
  refine B_seq (B_region ?_)
  refine Lo u18 (v_const (VVal.int .u64 0) (.inr rfl) rfl) ?_
  refine L_nil (K_seq (B_ret (K_blkR (K_seqR ?_))))
  refine W10 (.inr rfl) (vres_tmp rfl rfl) ?_
  exact ⟨by (first | rw [if_pos hc1]; rfl | rw [if_neg (by omega), if_pos (by omega)] | rw [if_neg (by omega), if_neg (by omega)]), rfl⟩
 ·try simp only [qB] at hc1
  refine B_seq (B_region ?_)
  refine Lo u18 (v_move (.inl rfl) rfl) ?_
  refine Lo u18 (W11 rfl rfl rfl rfl rfl) ?_
  refine L_call rfl rfl rfl (by exact Width_spec _ _) ?_
  rintro _ _ ⟨rfl, rfl⟩
  refine Le u18 ?_
  refine Lo u18 (rfl) ?_
  refine Lo u18 (v_move (.inr rfl) rfl) ?_
  refine L_nil (K_seq ?_)
  refine B_cond _ rfl (fun hc2 => ?_) (fun hc2 => ?_)
  ·try simp only [qB] at hc2
   refine B_seq (B_region ?_)
   refine Lo u18 ((rfl : vop _ _ _ _ = some (VVal.int .u64 (((0#64 : BitVec 64).toNat : Nat) : Int), _))) ?_
   refine Lo u18 (v_xorU rfl rfl) ?_
   refine Lo u18 (v_move (.inr rfl) rfl) ?_
   refine L_nil (K_seq (B_ret (K_blkR (K_seqR ?_))))
   refine W10 (.inr rfl) (vres_tmp rfl rfl) ?_
   exact ⟨by (first | rw [if_pos hc1]; rfl | rw [if_neg (by omega), if_pos (by omega)] | rw [if_neg (by omega), if_neg (by omega)]), rfl⟩
  ·try simp only [qB] at hc2
   refine B_skip (K_blk (K_seq (B_seq (B_region ?_))))
   refine Lo u18 (v_move (.inl rfl) rfl) ?_
   refine Lo u18 (v_shl1 rfl rfl rfl (by first | assumption | omega | (simp [*]; done) | (simp at *; omega))) ?_
   refine Lo u18 (v_subW (b := 1#64) rfl rfl rfl) ?_
   refine Lo u18 (v_move (.inr rfl) rfl) ?_
   refine L_nil (K_seq (B_ret ?_))
   refine W10 (.inr rfl) (vres_tmp rfl rfl) ?_
   exact ⟨by (first | rw [if_pos hc1]; rfl | rw [if_neg (by omega), if_pos (by omega)] | rw [if_neg (by omega), if_neg (by omega)]), rfl⟩
theorem Next_spec {x : SW} (H : VHeap) (w : BitVec 64) (i : Int) : F (psys x) 122 [.agg [iW w], iI i] H fun v G => v = iI (nx (w &&& ~~~bel i)) ∧ G = H := by
 refine F_body Tryd.func122 rfl u20 rfl ?_
 refine B_seq (B_region ?_)
 refine Lo u20 (v_boxT rfl rfl rfl) ?_
 refine Lo u20 (v_const (VVal.int .i64 0) (.inr rfl) rfl) ?_
 refine L_nil (K_seq (B_seq (B_region ?_)))
 refine Lo u20 (rfl) ?_
 refine Lo u20 (W12 rfl rfl rfl rfl) ?_
 refine Lo u20 (v_move (.inr rfl) rfl) ?_
 refine L_nil (K_seq (B_seq (B_seq (B_region ?_))))
 refine Lo u20 (v_move (.inl rfl) rfl) ?_
 refine Lo u20 (rfl) ?_
 refine L_nil (K_seq ?_)
 refine B_cond _ rfl (fun hc1 => ?_) (fun hc1 => ?_)
 ·try simp only [qB] at hc1
  refine B_draw [0, 1, 2, 3, 4, 5, 6] #[0, 1, 0, 0, 12, 31, 63] (by kernel_rfl) (by kernel_rfl) (by kernel_rfl) ?_
  refine Oo u20 .calm rfl (rfl) ?_
  refine O_opI (env' := u20) (x := .look _ _) rfl rfl rfl (W12 rfl rfl rfl rfl) rfl rfl rfl ?_
  refine Oo u20 .look rfl (W11 rfl rfl rfl rfl rfl) ?_
  refine Oo u20 .calm rfl (v_move (.inl rfl) rfl) ?_
  refine O_call (env' := u20) rfl rfl rfl rfl rfl (by exact below_spec _ _ _) (by first | exact Nat.le_refl _ | simp) rfl rfl ?_
  refine Oo u20 .calm rfl (v_andNotW rfl rfl rfl) ?_
  refine Oo u20 .calm rfl (v_move (.inr rfl) rfl) ?_
  refine O_nil [_] (by rfl) (And.intro (And.intro (W12 rfl rfl rfl rfl) (W12 rfl rfl rfl rfl)) trivial) ?_
  refine K_seq (B_seq (B_seq (B_region ?_)))
  refine Lo u20 (v_move (.inl rfl) rfl) ?_
  refine Lo u20 (rfl) ?_
  refine L_nil (K_seq ?_)
  refine B_cond _ rfl (fun hc2 => ?_) (fun hc2 => ?_)
  ·try simp only [qB] at hc2
   refine B_seq (B_region ?_)
   refine Lo u20 (v_const (VVal.int .i64 (-1)) (.inr rfl) rfl) ?_
   refine L_nil (K_seq (B_ret (K_seqR ?_)))
   refine W10 (.inr rfl) (vres_tmp rfl rfl) ?_
   have hb : ¬ 0 < i → w &&& ~~~bel i = w := fun h => by rw [show bel i = 0#64 from if_pos (by omega), show ~~~0#64 = BitVec.allOnes 64 from rfl, BitVec.and_allOnes]
   exact ⟨by (first | (rw [show nx (w &&& ~~~bel i) = -1 from if_pos ‹_›]) | (rw [show nx (w &&& ~~~bel i) = _ from if_neg ‹_›]; rfl) | (rw [hb (by omega), show nx w = -1 from if_pos ‹_›]) | (rw [hb (by omega), show nx w = _ from if_neg ‹_›])), rfl⟩
  ·try simp only [qB] at hc2
   refine B_skip (K_seq (B_seq (B_region ?_)))
   refine Lo u20 (v_move (.inl rfl) rfl) ?_
   refine L_call rfl rfl rfl (by exact tz_spec _ _) ?_
   rintro _ _ ⟨rfl, rfl⟩
   refine Le u20 ?_
   refine Lo u20 (v_move (.inr rfl) rfl) ?_
   refine L_nil (K_seq (B_ret ?_))
   refine W10 (.inr rfl) (vres_tmp rfl rfl) ?_
   have hb : ¬ 0 < i → w &&& ~~~bel i = w := fun h => by rw [show bel i = 0#64 from if_pos (by omega), show ~~~0#64 = BitVec.allOnes 64 from rfl, BitVec.and_allOnes]
   exact ⟨by (first | (rw [show nx (w &&& ~~~bel i) = -1 from if_pos ‹_›]) | (rw [show nx (w &&& ~~~bel i) = _ from if_neg ‹_›]; rfl) | (rw [hb (by omega), show nx w = -1 from if_pos ‹_›]) | (rw [hb (by omega), show nx w = _ from if_neg ‹_›])), rfl⟩
 ·try simp only [qB] at hc1
  refine B_skip (K_seq (B_seq (B_seq (B_region ?_))))
  refine Lo u20 (v_move (.inl rfl) rfl) ?_
  refine Lo u20 (rfl) ?_
  refine L_nil (K_seq ?_)
  refine B_cond _ rfl (fun hc3 => ?_) (fun hc3 => ?_)
  ·try simp only [qB] at hc3
   refine B_seq (B_region ?_)
   refine Lo u20 (v_const (VVal.int .i64 (-1)) (.inr rfl) rfl) ?_
   refine L_nil (K_seq (B_ret (K_seqR ?_)))
   refine W10 (.inr rfl) (vres_tmp rfl rfl) ?_
   have hb : ¬ 0 < i → w &&& ~~~bel i = w := fun h => by rw [show bel i = 0#64 from if_pos (by omega), show ~~~0#64 = BitVec.allOnes 64 from rfl, BitVec.and_allOnes]
   exact ⟨by (first | (rw [show nx (w &&& ~~~bel i) = -1 from if_pos ‹_›]) | (rw [show nx (w &&& ~~~bel i) = _ from if_neg ‹_›]; rfl) | (rw [hb (by omega), show nx w = -1 from if_pos ‹_›]) | (rw [hb (by omega), show nx w = _ from if_neg ‹_›])), rfl⟩
  ·try simp only [qB] at hc3
   refine B_skip (K_seq (B_seq (B_region ?_)))
   refine Lo u20 (v_move (.inl rfl) rfl) ?_
   refine L_call rfl rfl rfl (by exact tz_spec _ _) ?_
   rintro _ _ ⟨rfl, rfl⟩
   refine Le u20 ?_
   refine Lo u20 (v_move (.inr rfl) rfl) ?_
   refine L_nil (K_seq (B_ret ?_))
   refine W10 (.inr rfl) (vres_tmp rfl rfl) ?_
   have hb : ¬ 0 < i → w &&& ~~~bel i = w := fun h => by rw [show bel i = 0#64 from if_pos (by omega), show ~~~0#64 = BitVec.allOnes 64 from rfl, BitVec.and_allOnes]
   exact ⟨by (first | (rw [show nx (w &&& ~~~bel i) = -1 from if_pos ‹_›]) | (rw [show nx (w &&& ~~~bel i) = _ from if_neg ‹_›]; rfl) | (rw [hb (by omega), show nx w = -1 from if_pos ‹_›]) | (rw [hb (by omega), show nx w = _ from if_neg ‹_›])), rfl⟩
theorem All_spec {x : SW} (H : VHeap) (w : BitVec 64) : F (psys x) 116 [.agg [iW w]] H fun v G => v = .func 121 [] [.fptr [iW w] 0] ∧ G = H := by
 refine F_body Tryd.func116 rfl u4 rfl ?_
 refine B_seq (B_region ?_)
 refine Lo u4 (v_boxT rfl rfl rfl) ?_
 refine Lo u4 (v_const (VVal.nilFunc) (.inr rfl) rfl) ?_
 refine L_nil (K_seq (B_seq (B_region ?_)))
 refine Lo u4 (v_func [_] rfl rfl) ?_
 refine Lo u4 (v_move (.inr rfl) rfl) ?_
 refine L_nil (K_seq (B_ret ?_))
 refine E_gh (.inr rfl) (vres_tmp rfl rfl) (Gh.cap1 (BaseOk.refl _) (j := 0) rfl rfl) ?_
 exact ⟨rfl, rfl⟩
theorem All1_spec {x : SW} (w : BitVec 64) (l : Nat) (H : VHeap) (R : VHeap → Prop) (hI : Iter (psys x) l ((pl w 0).map cI) H R) : F (psys x) 121 ([.yield l] ++ [.fptr [iW w] 0]) H fun v G => R G := by
 refine F_body Tryd.func121 rfl u16 rfl ?_
 refine B_seq (B_region ?_)
 refine Lo u16 (W11 rfl rfl rfl rfl rfl) ?_
 refine L_call rfl rfl rfl (by exact Next_spec _ _ _) ?_
 rintro _ _ ⟨rfl, rfl⟩
 refine Le u16 ?_
 refine Lo u16 (v_move (.inr rfl) rfl) ?_
 refine L_nil (K_seq (B_block ?_))
 refine B_clear (mk 16 65524) (env' := u16) rfl ?_
 refine B_loopE (fun (⟨i, xs⟩ : Int × List Nat) => xs.length) (fun (⟨i, xs⟩ : Int × List Nat) => [(3, iI i)]) (fun (⟨i, xs⟩ : Int × List Nat) G => (Iter (psys x) l (xs.map cI) G R ∧ ((i = -1 ∧ xs = []) ∨ ∃ c : Nat, i = c ∧ c < 64 ∧ xs = c :: pl w (c + 1))) ∧ True) ⟨_, pl w 0⟩ rfl ?_ ?_
 ·refine ⟨?_, trivial⟩
  exact ⟨by simpa using hI, pl_next' w 0⟩
 rintro ⟨i, xs⟩ G ⟨⟨hI, hx⟩, _⟩
 refine B_env (env' := u16) rfl ?_
 refine B_seq (B_seq (B_region ?_))
 refine Lo u16 (v_move (.inl rfl) rfl) ?_
 refine Lo u16 (rfl) ?_
 refine L_nil (K_seq ?_)
 refine B_cond _ rfl (fun hc1 => ?_) (fun hc1 => ?_)
 ·try simp only [qB] at hc1
  obtain ⟨c, rfl, hc, rfl⟩ : ∃ c : Nat, i = c ∧ c < 64 ∧ xs = c :: pl w (c + 1) := by
        rcases hx with ⟨e, _⟩ | h
        · omega
        · exact h
  refine B_skip (K_seq (B_seq (B_block (B_seq (B_region ?_)))))
  refine Lo u16 (v_move (.inl rfl) rfl) ?_
  refine Lo u16 (v_move (.inl rfl) rfl) ?_
  refine L_callV rfl rfl rfl (by exact hI) ?_
  rintro _ G1 ⟨t, rfl, hrest⟩
  refine Le u16 ?_
  refine Lo u16 (rfl) ?_
  refine L_nil (K_seq ?_)
  refine B_cond _ rfl (fun hc2 => ?_) (fun hc2 => ?_)
  ·try simp only [qB] at hc2
   have ht : t = false := by simpa using hc2
   subst ht
   have hR : R G1 := by simpa using hrest
   refine B_ret (K_blkR (K_seqR (K_loopR (K_blkR ?_))))
   refine E_keep (.inr rfl) (vres_none rfl) ?_
   exact hR
  ·try simp only [qB] at hc2
   have ht : t = true := by simpa using hc2
   subst ht
   have hrest : Iter (psys x) l ((pl w (c + 1)).map cI) G1 R := by simpa using hrest
   refine B_skip (K_blk (K_seq (B_region ?_)))
   refine Lo u16 (W11 rfl rfl rfl rfl rfl) ?_
   refine Lo u16 (v_move (.inl rfl) rfl) ?_
   refine Lo u16 (W14 rfl rfl rfl) ?_
   refine L_call rfl rfl rfl (by exact Next_spec _ _ _) ?_
   rintro _ _ ⟨rfl, rfl⟩
   refine Le u16 ?_
   refine Lo u16 (v_move (.inr rfl) rfl) ?_
   refine L_nil ?_
   refine K_loop (mk 16 65524) (env' := u16) rfl ⟨⟨_, pl w (c + 1)⟩, ?_, rfl, ?_⟩
   ·simp
   ·exact ⟨⟨hrest, pl_next' w (c + 1)⟩, trivial⟩
 ·try simp only [qB] at hc1
  obtain ⟨rfl, rfl⟩ : i = -1 ∧ xs = [] := by
        rcases hx with h | ⟨c, rfl, _⟩
        · exact h
        · omega
  have hR : R G := hI
  refine B_exit (K_seqX (K_loopX (K_blkX ?_)))
  refine E_keep (.inl rfl) (vres_none rfl) ?_
  exact hR
end Go.Proofs.YtnbihdflnjpinaaDoor.VT

set_option autoImplicit false
set_option linter.unusedVariables false
set_option linter.unusedSimpArgs false
set_option maxHeartbeats 4000000
set_option maxRecDepth 100000
namespace Go.Proofs.YtnbihdflnjpinaaDoor.VT
open Go Go.V Go.RowKit
abbrev hmB (s : Nat) (rows : List (BitVec 64)) (O : List Int) : VBlk := .cells (fzW rows :: (O.map iI ++ [.ptr (some (s, 0))])) true
abbrev hsB (w : BitVec 64) : VBlk := .cells [iW w] true
abbrev gw (g : Gz) (w : BitVec 64) : Gz := ⟨g.n, g.p, g.e + come 64 w⟩
def htH (H : VHeap) (p q s : Nat) (rows : List (BitVec 64)) (t : GSt) (g : Gz) : VHeap := ((H.set p (hmB s rows t.1)).set q (hsB t.2)).set s (gaB g)
section
variable {H L : VHeap} {p q s : Nat} {rows : List (BitVec 64)} {t : GSt} {g : Gz}
structure Apart3 (H : VHeap) (p q s : Nat) : Prop where
  hp : p < H.length
  hq : q < H.length
  hs : s < H.length
  pq : p ≠ q
  ps : p ≠ s
  qs : q ≠ s
theorem htH_len {n : Nat} (h : H.length = n) : (htH H p q s rows t g).length = n := by unfold htH; rw [List.length_set, List.length_set, List.length_set]; exact h
theorem htH_id {O : List Int} {w : BitVec 64} (hp : H[p]? = some (hmB s rows O)) (hq : H[q]? = some (hsB w)) (hs : H[s]? = some (gaB g)) : htH H p q s rows (O, w) g = H := by
  unfold htH; rw [← set_keep hp, ← set_keep hq, ← set_keep hs]
theorem ht_s (a : Apart3 H p q s) : (htH H p q s rows t g ++ L)[s]? = some (gaB g) := by
  unfold htH; exact get_append (List.getElem?_set_self (by rw [List.length_set, List.length_set]; exact a.hs))
theorem ht_q (a : Apart3 H p q s) : (htH H p q s rows t g ++ L)[q]? = some (hsB t.2) := by
  unfold htH; exact get_append (by rw [List.getElem?_set_ne (Ne.symm a.qs)]; exact List.getElem?_set_self (by rw [List.length_set]; exact a.hq))
theorem ht_p (a : Apart3 H p q s) : (htH H p q s rows t g ++ L)[p]? = some (hmB s rows t.1) := by
  unfold htH; exact get_append (by rw [List.getElem?_set_ne (Ne.symm a.ps), List.getElem?_set_ne (Ne.symm a.pq)]; exact List.getElem?_set_self a.hp)
theorem ht_sets0 {k : VBlk} (a : Apart3 H p q s) : (htH H p q s rows t g ++ L).set s k = ((H.set p (hmB s rows t.1)).set q (hsB t.2)).set s k ++ L := by
  rw [set_out (by rw [htH_len rfl]; exact a.hs)]; unfold htH; rw [List.set_set]
theorem ht_setq0 {k : VBlk} (a : Apart3 H p q s) : (htH H p q s rows t g ++ L).set q k = ((H.set p (hmB s rows t.1)).set q k).set s (gaB g) ++ L := by
  rw [set_out (by rw [htH_len rfl]; exact a.hq)]; unfold htH; rw [List.set_comm _ _ (Ne.symm a.qs), List.set_set]
theorem ht_setq {w : BitVec 64} (a : Apart3 H p q s) : (htH H p q s rows t g ++ L).set q (hsB w) = htH H p q s rows (t.1, w) g ++ L := ht_setq0 a
theorem ht_setp0 {k : VBlk} (a : Apart3 H p q s) : (htH H p q s rows t g ++ L).set p k = ((H.set p k).set q (hsB t.2)).set s (gaB g) ++ L := by
  rw [set_out (by rw [htH_len rfl]; exact a.hp)]; unfold htH
  rw [List.set_comm _ _ (Ne.symm a.ps), List.set_comm _ _ (Ne.symm a.pq), List.set_set]
theorem ht_setp {u : Int} {r : Int} (a : Apart3 H p q s) (hu : u.toNat < t.1.length) : (htH H p q s rows t g ++ L).set p (.cells (splice (fzW rows :: (t.1.map iI ++ [.ptr (some (s, 0))])) (0 + 1 + u.toNat * 1) [iI r]) true) = htH H p q s rows (t.1.set u.toNat r, t.2) g ++ L := by
  have : splice (fzW rows :: (t.1.map iI ++ [.ptr (some (s, 0))])) (0 + 1 + u.toNat * 1) [iI r] = fzW rows :: ((t.1.set u.toNat r).map iI ++ [.ptr (some (s, 0))]) := by
    rw [show 0 + 1 + u.toNat * 1 = u.toNat + 1 by omega]
    unfold splice
    rw [List.map_set, ← List.set_append_left _ _ (by rw [List.length_map]; exact hu), List.set_eq_take_append_cons_drop, if_pos (by rw [List.length_append, List.length_map]; omega)]; simp
  rw [this, ht_setp0 a]; rfl
theorem ht_ht {t' : GSt} {g' : Gz} (a : Apart3 H p q s) : htH (htH H p q s rows t g ++ L) p q s rows t' g' = htH H p q s rows t' g' ++ L := by
  have : htH (htH H p q s rows t g ++ L) p q s rows t' g' = (((htH H p q s rows t g ++ L).set p (hmB s rows t'.1)).set q (hsB t'.2)).set s (gaB g') := rfl
  rw [this, ht_setp0 a]
  rw [set_out (by simp; exact a.hq), List.set_comm _ _ (Ne.symm a.qs), List.set_set, set_out (by simp; exact a.hs), List.set_set]; rfl
theorem ht_len6 {u : Int} {v : VVal} (h : u.toNat < t.1.length) : 0 + 1 + u.toNat * 1 + [v].length ≤ (fzW rows :: (t.1.map iI ++ [.ptr (some (s, 0))])).length := by
  show 0 + 1 + u.toNat * 1 + 1 ≤ (t.1.map iI ++ [_]).length + 1
  rw [List.length_append, List.length_map]; show _ ≤ _ + 1 + 1; omega
theorem ht_base (a : Apart3 H p q s) : BaseOk H (htH H p q s rows t g) := BaseOk.set (BaseOk.set (BaseOk.set (BaseOk.refl _) _ (by
    show VVal.underL _ (fzW rows :: (t.1.map iI ++ [.ptr (some (s, 0))])) = true
    have h1 : VVal.underL H.length (t.1.map iI ++ [.ptr (some (s, 0))]) = true := VVal.underL_app (VVal.underL_map fun _ => rfl) (by simp [VVal.underL, VVal.under, a.hs])
    simp only [VVal.underL, h1, Bool.and_true]
    exact VVal.underL_map fun _ => rfl)) _ rfl) _ rfl
theorem hown_cell {u : Int} (h : 0 ≤ u ∧ u < t.1.length) : (fzW rows :: (t.1.map iI ++ [.ptr (some (s, 0))]))[0 + 1 + u.toNat * 1]? = some (iI (t.1.getD u.toNat 0)) := by
  rw [show 0 + 1 + u.toNat * 1 = u.toNat + 1 by omega, List.getElem?_cons_succ]
  have : u.toNat < t.1.length := by omega
  rw [List.getElem?_append_left (by rw [List.length_map]; exact this)]
  simp [List.getElem?_eq_getElem this]
theorem hgp_cell (h : t.1.length = 64) : (fzW rows :: (t.1.map iI ++ [.ptr (some (s, 0))]))[0 + 65]? = some (.ptr (some (s, 0))) := by
  rw [show 0 + 65 = 64 + 1 by omega, List.getElem?_cons_succ, List.getElem?_append_right (by rw [List.length_map, h]; omega), List.length_map, h]; rfl
theorem apart_app {X : VHeap} (a : Apart3 H p q s) : Apart3 (htH H p q s rows t g ++ X) p q s := ⟨by rw [List.length_append, htH_len rfl]; have := a.hp; omega, by rw [List.length_append, htH_len rfl]; have := a.hq; omega, by rw [List.length_append, htH_len rfl]; have := a.hs; omega, a.pq, a.ps, a.qs⟩
end
theorem come_one {w : BitVec 64} {u : Nat} (hu : u < 64) (h : w.getLsbD u = false) (g : Gz) : (⟨g.n, g.p, (g.e + come 64 w) + 1⟩ : Gz) = gw g (w ||| 1#64 <<< u) := by
  unfold gw; rw [come_next hu (Nat.le_refl _) h, Nat.add_assoc]
section
variable {H L : VHeap} {p q s : Nat} {rows : List (BitVec 64)} {t : GSt} {g : Gz}
theorem ht_incw {w : BitVec 64} (a : Apart3 H p q s) : (htH H p q s rows t (gw g w) ++ L).set s (.cells (splice [iN (gw g w).n, iN (gw g w).p, iN (gw g w).e] (0 + 2) [iW (BitVec.ofNat 64 (gw g w).e + 1#64)]) true) = htH H p q s rows t ⟨g.n, g.p, (g.e + come 64 w) + 1⟩ ++ L := by
  rw [iN_one]; exact ht_sets0 a
end
end Go.Proofs.YtnbihdflnjpinaaDoor.VT

set_option autoImplicit false
set_option linter.unusedVariables false
set_option linter.unusedSimpArgs false
set_option maxHeartbeats 4000000
set_option maxRecDepth 100000
namespace Go.Proofs.YtnbihdflnjpinaaDoor.VT
open Go Go.V Go.RowKit
abbrev u67 {a0 a1 a2 a3 a4 a5 a6 a7 a8 a9 a10 a11 a12 a13 a14 a15 a16 a17 a18 a19 a20 a21 a22 a23 a24 a25 a26 a27 a28 a29 a30 a31 a32 a33 a34 a35 a36 a37 a38 a39 a40 a41 a42 a43 a44 a45 a46 a47 a48 a49 a50 a51 a52 a53 a54 a55 a56 a57 a58 a59 a60 a61 a62 a63 a64 a65 a66 : VVal} : VEnv := a0 :: a1 :: a2 :: a3 :: a4 :: a5 :: a6 :: a7 :: a8 :: a9 :: a10 :: a11 :: a12 :: a13 :: a14 :: a15 :: a16 :: a17 :: a18 :: a19 :: a20 :: a21 :: a22 :: a23 :: a24 :: a25 :: a26 :: a27 :: a28 :: a29 :: a30 :: a31 :: a32 :: a33 :: a34 :: a35 :: a36 :: a37 :: a38 :: a39 :: a40 :: a41 :: a42 :: a43 :: a44 :: a45 :: a46 :: a47 :: a48 :: a49 :: a50 :: a51 :: a52 :: a53 :: a54 :: a55 :: a56 :: a57 :: a58 :: a59 :: a60 :: a61 :: a62 :: a63 :: a64 :: a65 :: a66 :: []
theorem W17 {T : TypeId → Option VTy} {H : VHeap} {op : Op} {ρ : Operand → VVal} {t : TypeId} {a : Operand} {y : VTy} {p v : VVal} (ho : op = .load t a) (ha : ρ a = p) (hy : T t = some y) (hd : isAggDesc y.desc = false) (h : LdOk H p v := by first | exact .inl ⟨_, _, rfl, by first | rfl | assumption | exact hown_cell (by omega) | exact hgp_cell hl1 | exact fget (α := BitVec 64) 0 (by omega)⟩ | exact .inr ⟨_, _, _, _, rfl, by first | exact get_app rfl rfl | exact get_out hp | exact get_out hq | exact get_app (htH_len rfl) rfl | exact ht_q hA | exact ht_p hA | exact ht_s hA, by first | rfl | assumption | exact hown_cell (by omega) | exact hgp_cell hl1 | exact fget (α := BitVec 64) 0 (by omega)⟩) : vop T ρ H op = some (v, H) := v_ld ho ha hy hd h
theorem W18 {T : TypeId → Option VTy} {H : VHeap} {op : Op} {ρ : Operand → VVal} {t e : TypeId} {x i : Operand} {y z : VTy} {k : IntKind} {n : Int} {p v : VVal} {es : Nat} (ho : op = .indexAddr t x i) (hx : ρ x = p) (hi : ρ i = .int k n) (hy : T t = some y) (hd : y.desc = .slice e) (hz : T e = some z) (hs : z.size = es) (h : IxOk p es n v := by first | exact .inl ⟨_, _, _, rfl, by first | assumption | omega | (simp [*]; done) | (simp at *; omega), rfl⟩ | exact .inr ⟨_, _, _, _, _, rfl, by first | assumption | omega | (simp [*]; done) | (simp at *; omega), rfl⟩) : vop T ρ H op = some (v, H) := v_ix ho hx hi hy hd hz hs h
theorem W19 {T : TypeId → Option VTy} {H : VHeap} {op : Op} {ρ : Operand → VVal} {t : TypeId} {a : Operand} {y : VTy} {p v : VVal} (ho : op = .load t a) (ha : ρ a = p) (hy : T t = some y) (hd : isAggDesc y.desc = false) (h : LdOk H p v := by first | exact .inl ⟨_, _, rfl, by rfl⟩ | exact .inr ⟨_, _, _, _, rfl, by exact get_app (htH_len rfl) rfl, by rfl⟩) : vop T ρ H op = some (v, H) := v_ld ho ha hy hd h
theorem W1a {T : TypeId → Option VTy} {H : VHeap} {op : Op} {ρ : Operand → VVal} {t : TypeId} {a : Operand} {y : VTy} {p v : VVal} (ho : op = .load t a) (ha : ρ a = p) (hy : T t = some y) (hd : isAggDesc y.desc = false) (h : LdOk H p v := by first | exact .inl ⟨_, _, rfl, by rfl⟩ | exact .inr ⟨_, _, _, _, rfl, by first | exact get_app rfl rfl | exact get_out hp | exact get_out hq | exact get_app (htH_len rfl) rfl | exact ht_q hA | exact ht_p hA | exact ht_s hA, by rfl⟩) : vop T ρ H op = some (v, H) := v_ld ho ha hy hd h
theorem W1b {T : TypeId → Option VTy} {H : VHeap} {op : Op} {ρ : VEnv} {H' : VHeap} {t : TypeId} {a : Operand} {i : Nat} {v : VVal} {y : VTy} {b off : Nat} {cs new : List VVal} (ho : op = .store t a (.tmp i)) (hv : ρ[i]? = some v) (ha : ρ.eval a = .ptr (some (b, off))) (hy : T t = some y) (hx : v.cells = some new) (hn : new.length = y.size) (h1 : new.all VVal.one = true) (hb : H[b]? = some (.cells cs true) := by first | exact get_app rfl rfl | exact get_out hp | exact get_out hq | exact get_app (htH_len rfl) rfl | exact ht_q hA | exact ht_p hA | exact ht_s hA) (hl : off + new.length ≤ cs.length := by first | exact Nat.le_of_ble_eq_true rfl | (simp only [List.length_map, List.length_cons, List.length_nil]; omega) | omega | (simp; done) | (simp; omega)) (hH : H.set b (.cells (splice cs off new) true) = H' := by exact ht_incw hA) : vop T ρ.eval H op = some (.skip, H') := v_storeT ho hv ha hy hx hn h1 hb hl hH
theorem W1c {T : TypeId → Option VTy} {H : VHeap} {op : Op} {ρ : VEnv} {H' : VHeap} {t : TypeId} {a : Operand} {i : Nat} {v : VVal} {y : VTy} {b off : Nat} {cs new : List VVal} (ho : op = .store t a (.tmp i)) (hv : ρ[i]? = some v) (ha : ρ.eval a = .ptr (some (b, off))) (hy : T t = some y) (hx : v.cells = some new) (hn : new.length = y.size) (h1 : new.all VVal.one = true) (hb : H[b]? = some (.cells cs true) := by first | exact get_app rfl rfl | exact get_out hp | exact get_out hq | exact get_app (htH_len rfl) rfl | exact ht_q hA | exact ht_p hA | exact ht_s hA) (hl : off + new.length ≤ cs.length := by first | exact Nat.le_of_ble_eq_true rfl | (simp only [List.length_map, List.length_cons, List.length_nil]; omega) | omega | (simp; done) | (simp; omega)) (hH : H.set b (.cells (splice cs off new) true) = H' := by exact ht_setq hA) : vop T ρ.eval H op = some (.skip, H') := v_storeT ho hv ha hy hx hn h1 hb hl hH
theorem W1d {T : TypeId → Option VTy} {H : VHeap} {op : Op} {ρ : Operand → VVal} {t : TypeId} {a : Operand} {y : VTy} {p v : VVal} (ho : op = .load t a) (ha : ρ a = p) (hy : T t = some y) (hd : isAggDesc y.desc = false) (h : LdOk H p v := by first | exact .inl ⟨_, _, rfl, by exact hown_cell (t := (s1.1, s1.2 ||| 1#64 <<< c)) (by show 0 ≤ (c : Int) ∧ (c : Int) < s1.1.length; omega)⟩ | exact .inr ⟨_, _, _, _, rfl, by first | exact get_app rfl rfl | exact get_out hp | exact get_out hq | exact get_app (htH_len rfl) rfl | exact ht_q hA | exact ht_p hA | exact ht_s hA, by exact hown_cell (t := (s1.1, s1.2 ||| 1#64 <<< c)) (by show 0 ≤ (c : Int) ∧ (c : Int) < s1.1.length; omega)⟩) : vop T ρ H op = some (v, H) := v_ld ho ha hy hd h
theorem W1f {T : TypeId → Option VTy} {H : VHeap} {op : Op} {ρ : VEnv} {H' : VHeap} {t : TypeId} {a : Operand} {i : Nat} {v : VVal} {y : VTy} {b off : Nat} {cs new : List VVal} (ho : op = .store t a (.tmp i)) (hv : ρ[i]? = some v) (ha : ρ.eval a = .ptr (some (b, off))) (hy : T t = some y) (hx : v.cells = some new) (hn : new.length = y.size) (h1 : new.all VVal.one = true) (hb : H[b]? = some (.cells cs true) := by first | exact get_app rfl rfl | exact get_out hp | exact get_out hq | exact get_app (htH_len rfl) rfl | exact ht_q hA | exact ht_p hA | exact ht_s hA) (hl : off + new.length ≤ cs.length := by first | exact ht_len6 (t := (s1.1, 0#64)) (show c < s1.1.length by omega) | exact ht_len6 (Nat.lt_of_lt_of_eq hc64 (hgr.yes (by assumption)).1.len.symm)) (hH : H.set b (.cells (splice cs off new) true) = H' := by first | exact ht_setp hA (show c < s1.1.length by omega) | exact ht_setp hA (Nat.lt_of_lt_of_eq hc64 (hgr.yes (by assumption)).1.len.symm)) : vop T ρ.eval H op = some (.skip, H') := v_storeT ho hv ha hy hx hn h1 hb hl hH
theorem W1g {T : TypeId → Option VTy} {H : VHeap} {op : Op} {ρ : Operand → VVal} {t ty : TypeId} {x y : Operand} {n m : Int} (ho : op = .binOp .sub t x y ty) (hx : ρ x = .int .i64 n) (hy : ρ y = .int .i64 m) (h : -9223372036854775808 ≤ n - m ∧ n - m < 9223372036854775808 := by first | assumption | omega | (simp [*]; done) | (simp at *; omega)) : vop T ρ H op = some (.int .i64 (n - m), H) := v_subI ho hx hy h
theorem W1h {S : V.Sys} {H : VHeap} {fn : Func} {ex : Exit} {env : VEnv} {B L : VHeap} {v : VVal} {R : VVal → VHeap → Prop} (hx : ex = .normal ∨ ex = .ret) (hv : vresults S.C.T env (B ++ L) fn.results = some v) (h : R v B) (hB : BaseOk H B := by exact ht_base hA) (hu : v.under H.length = true := by first | rfl | simp [VVal.under, VVal.underL, *]) : fnK S fn H R ex env (B ++ L) := E_app hx hv hB hu h
theorem hset_spec {x : SW} (H : VHeap) (w : BitVec 64) : F (psys x) 115 [iW w] H fun v G => v = .agg [iW w] ∧ G = H := by
 refine F_body Tryd.func115 rfl u6 rfl ?_
 refine B_seq (B_region ?_)
 refine Lo u6 (v_alloc rfl rfl) ?_
 refine L_nil (K_seq (B_seq (B_region ?_)))
 refine Lo u6 (rfl) ?_
 refine Lo u6 (v_move (.inl rfl) rfl) ?_
 refine L_call rfl rfl rfl (by exact Of_spec _ 0#64 _) ?_
 rintro _ _ ⟨rfl, rfl⟩
 refine Le u6 ?_
 refine Lo u6 (W13 rfl rfl rfl rfl rfl rfl rfl) ?_
 refine L_nil (K_seq (B_ret ?_))
 refine W10 (.inr rfl) (vres_cellA rfl rfl rfl rfl (by first | exact get_app rfl rfl | exact get_out (by assumption) | exact getE0 rfl rfl | exact get_out (get_app rfl rfl) | exact get_app rfl (by assumption) | assumption | (simp only [List.append_assoc, List.singleton_append, List.cons_append, List.nil_append]; refine getE (i := 0) rfl ?_ rfl; simp; done) | (simp only [List.append_assoc, List.singleton_append, List.cons_append, List.nil_append]; refine getE (i := 1) rfl ?_ rfl; simp; done) | (simp only [List.append_assoc, List.singleton_append, List.cons_append, List.nil_append]; refine getE (i := 2) rfl ?_ rfl; simp; done) | (simp only [List.append_assoc, List.singleton_append, List.cons_append, List.nil_append]; refine getE (i := 3) rfl ?_ rfl; simp; done) | (simp [*]; done)) (by first | rfl | assumption | exact fget (α := BitVec 64) 0 (by omega) | exact fget (α := Int) 0 (by omega) | exact fget0 (α := BitVec 64) 0 (by omega) | exact fget0 (α := Int) 0 (by omega) | exact fget (α := Bool) false (by omega) | exact fget0 (α := Bool) false (by omega) | (simp [*]; done))) ?_
 exact ⟨rfl, rfl⟩
theorem hgrow_in {x : SW} {p q y n : Nat} {rows : List (BitVec 64)} (ih : ∀ (H : VHeap) (row : Int) (O : List Int) (S : BitVec 64) (g : Gz), Apart3 H p q y → H[p]? = some (hmB y rows O) → H[q]? = some (hsB S) → H[y]? = some (gaB (gw g S)) → 0 ≤ row → row < rows.length → Gok rows O → 64 - come 64 S < n → F (psys x) 98 [.ptr (some (p, 0)), iI row, .ptr (some (q, 0))] H fun v G => v = .bool (grw rows n row (O, S)).1 ∧ G = htH H p q y rows (grw rows n row (O, S)).2 (gw g (grw rows n row (O, S)).2.2)) {H L : VHeap} (a : Apart3 H p q y) (t : GSt) (g : Gz) (row : Int) (h0 : 0 ≤ row) (h1 : row < rows.length) (hk : Gok rows t.1) (hm : 64 - come 64 t.2 < n) :
    F (psys x) 98 [.ptr (some (p, 0)), iI row, .ptr (some (q, 0))] (htH H p q y rows t (gw g t.2) ++ L) fun v G => v = .bool (grw rows n row t).1 ∧ G = htH H p q y rows (grw rows n row t).2 (gw g (grw rows n row t).2.2) ++ L := by
  have := ih (htH H p q y rows t (gw g t.2) ++ L) row t.1 t.2 g (apart_app a) (ht_p a) (ht_q a) (ht_s a) h0 h1 hk hm
  rw [ht_ht a] at this
  exact this
theorem hgrow_s {x : SW} (p q y n : Nat) (rows : List (BitVec 64)) (ih : ∀ (H : VHeap) (row : Int) (O : List Int) (S : BitVec 64) (g : Gz), Apart3 H p q y → H[p]? = some (hmB y rows O) → H[q]? = some (hsB S) → H[y]? = some (gaB (gw g S)) → 0 ≤ row → row < rows.length → Gok rows O → 64 - come 64 S < n → F (psys x) 98 [.ptr (some (p, 0)), iI row, .ptr (some (q, 0))] H fun v G => v = .bool (grw rows n row (O, S)).1 ∧ G = htH H p q y rows (grw rows n row (O, S)).2 (gw g (grw rows n row (O, S)).2.2)) (H : VHeap) (hA : Apart3 H p q y) (row : Int) (O : List Int) (S : BitVec 64) (g : Gz) (hp : H[p]? = some (hmB y rows O)) (hq : H[q]? = some (hsB S)) (hs : H[y]? = some (gaB (gw g S))) (h0 : 0 ≤ row) (h1 : row < rows.length) (hO : Gok rows O) (hm : 64 - come 64 S < n + 1) (h62 : rows.length < 4611686018427387904) : F (psys x) 98 [.ptr (some (p, 0)), iI row, .ptr (some (q, 0))] H fun v G => v = .bool (grw rows (n + 1) row (O, S)).1 ∧ G = htH H p q y rows (grw rows (n + 1) row (O, S)).2 (gw g (grw rows (n + 1) row (O, S)).2.2) := by
 refine F_body Tryd.func98 rfl u67 rfl ?_
 refine B_seq (B_region ?_)
 refine Lo u67 (v_boxT rfl rfl rfl) ?_
 refine Lo u67 (v_boxT rfl rfl rfl) ?_
 refine Lo u67 (v_boxT rfl rfl rfl) ?_
 refine Lo u67 (v_alloc rfl rfl) ?_
 refine L_nil (K_seq (B_seq (B_seq ?_)))
 refine B_draw [0, 1, 2, 3, 4, 5, 6, 7, 8] #[0, 1, 3, 7, 0, 31, 63, 127, 255] (by kernel_rfl) (by kernel_rfl) (by kernel_rfl) ?_
 refine Oo u67 .look rfl (W17 rfl rfl rfl rfl) ?_
 refine Oo u67 .calm rfl (rfl) ?_
 refine Oo u67 .calm rfl (rfl) ?_
 refine Oo u67 .look rfl (W17 rfl rfl rfl rfl) ?_
 refine Oo u67 .look rfl (W17 rfl rfl rfl rfl) ?_
 refine Oo u67 .calm rfl (W18 rfl rfl rfl rfl rfl rfl rfl) ?_
 refine Oo u67 .look rfl (W17 rfl rfl rfl rfl) ?_
 refine O_call (env' := u67) rfl rfl rfl rfl rfl (by exact hset_spec _ _) (by first | exact Nat.le_refl _ | (simp; done) | exact Nat.le_of_eq (by rw [List.length_append, List.length_append, htH_len rfl, htH_len rfl])) rfl rfl ?_
 refine O_call (env' := u67) rfl rfl rfl rfl rfl (by exact All_spec _ _) (by first | exact Nat.le_refl _ | (simp; done) | exact Nat.le_of_eq (by rw [List.length_append, List.length_append, htH_len rfl, htH_len rfl])) rfl rfl ?_
 refine O_nil [] (by kernel_rfl) (trivial) ?_
 refine K_seq (B_block ?_)
 refine B_clear (mk 67 147573952589676347271) (env' := u67) rfl ?_
 refine B_rangeM cI (pl (rows.getD row.toNat 0) 0) (fun l0 h => by cases h) rfl (fun l G R h => All1_spec _ _ _ _ h) (σ := GSt × Bool) (fun k s => htH H p q y rows s.1 (gw g (s.1).2) ++ [.cells [.ptr (some (p, 0))] true, .cells [iI row] true, .cells [.ptr (some (q, 0))] true, .cells [.bool s.2] true, k]) ((O, S), false) (fun k => by show _ = htH H p q y rows (O, S) (gw g S) ++ _; rw [htH_id hp hq hs, List.append_assoc]; rfl) (fun k s => by rw [List.length_append]; exact get_app (htH_len rfl) rfl) (fun k k1 s => by rw [List.length_append]; exact set_app (htH_len rfl)) (fun pre s => ∃ z, (pl (rows.getD row.toNat 0) 0) = pre ++ z ∧ grL (grw rows n) row (pl (rows.getD row.toNat 0) 0) (O, S) = grL (grw rows n) row z s.1 ∧ s.1.1 = O ∧ 64 - come 64 s.1.2 ≤ n ∧ s.2 = false) ?_ (fun j pre c s => (j = Code.ret ∧ (grL (grw rows n) row (pl (rows.getD row.toNat 0) 0) (O, S) = (true, s.1) ∧ s.2 = true))) rfl ?_ ?_ ?_
 ·exact ⟨_, rfl, rfl, rfl, by show 64 - come 64 S ≤ n; omega, rfl⟩
 ·intro pre c post s hx hI kr kb hkr hkb
  obtain ⟨s1, res⟩ := s
  try dsimp only at hI ⊢
  obtain ⟨z, hz, hg, hO1, hcm, hres⟩ := hI
  have hres : res = false := hres
  subst hres
  obtain rfl : z = c :: post := List.append_cancel_left (hz.symm.trans hx)
  have hO1 : s1.1 = O := hO1
  have hcm : 64 - come 64 s1.2 ≤ n := hcm
  have hg : grL (grw rows n) row (pl (rows.getD row.toNat 0) 0) (O, S) = grL (grw rows n) row (c :: post) s1 := hg
  have hcx : c ∈ (pl (rows.getD row.toNat 0) 0) := by rw [hx]; simp
  obtain ⟨_, hc64, _⟩ := mem_pl.1 hcx
  have hk1 : Gok rows s1.1 := by rw [hO1]; exact hO
  have hl1 : s1.1.length = 64 := hk1.len
  have hnn1 := hk1.nn c hc64
  refine B_env (env' := u67) rfl ?_
  refine B_region ?_
  refine Lo u67 (v_move (.inr rfl) rfl) ?_
  refine L_nil ?_
  refine ⟨rfl, (s1, false), rfl, ?_⟩
  try dsimp only
  refine B_block (B_seq (B_seq (B_region ?_)))
  refine Lo u67 (W19 rfl rfl rfl rfl) ?_
  refine Lo u67 (rfl) ?_
  refine Lo u67 (W1a rfl rfl rfl rfl) ?_
  refine L_call rfl rfl rfl (by exact hset_spec _ _) ?_
  rintro _ _ ⟨rfl, rfl⟩
  refine Le u67 ?_
  refine Lo u67 (v_move (.inl rfl) rfl) ?_
  refine L_call rfl rfl rfl (by exact Has_spec _ _ _) ?_
  rintro v _ ⟨hv, rfl⟩; obtain rfl : v = .bool (s1.2.getLsbD c) := hv.trans (by rw [decide_eq_true ⟨Int.natCast_nonneg c, by omega⟩, Bool.true_and]; rfl)
  refine Le u67 ?_
  refine L_nil (K_seq ?_)
  refine B_cond _ rfl (fun hc1 => ?_) (fun hc1 => ?_)
  ·try simp only [qB] at hc1
   refine B_exit (K_seqX (K_blkX ?_))
   have hseen : s1.2.getLsbD c = true := by assumption
   refine ⟨(s1, false), rfl, .inl ⟨rfl, ?_⟩⟩
   exact ⟨post, by rw [hx, List.append_assoc]; rfl, by rw [hg, grL, if_pos hseen], hO1, hcm, rfl⟩
  ·try simp only [qB] at hc1
   refine B_skip (K_seq (B_seq (B_region ?_)))
   have hnseen : ¬ s1.2.getLsbD c = true := nof (by assumption)
   have hcg := come_grow (s := s1.2) (t := s1.2 ||| 1#64 <<< c) (fun a ha => (or1 hc64).2 (.inl ha)) ⟨c, (or1 hc64).2 (.inr rfl), bool_f hnseen⟩
   have hcl := come_le (s1.2 ||| 1#64 <<< c)
   refine Lo u67 (W19 rfl rfl rfl rfl) ?_
   refine Lo u67 (rfl) ?_
   refine Lo u67 (rfl) ?_
   refine Lo u67 (W17 rfl rfl rfl rfl) ?_
   refine Lo u67 (rfl) ?_
   refine Lo u67 (rfl) ?_
   refine Lo u67 (W1a rfl rfl rfl rfl) ?_
   refine Lo u67 (v_addW (b := 1#64) rfl rfl rfl) ?_
   refine Lo u67 (rfl) ?_
   refine Lo u67 (rfl) ?_
   refine Lo u67 (W1b rfl rfl rfl rfl rfl rfl rfl) ?_
   refine L_nil (K_seq (B_seq ?_))
   refine B_draw [0, 1, 2, 3, 4, 5, 6, 7] #[0, 1, 3, 0, 8, 31, 63, 127] (by kernel_rfl) (by kernel_rfl) (by kernel_rfl) ?_
   refine Oo u67 .look rfl (W19 rfl rfl rfl rfl) ?_
   refine Oo u67 .calm rfl (rfl) ?_
   refine Oo u67 .look rfl (W17 rfl rfl rfl rfl) ?_
   refine Oo u67 .calm rfl (v_move (.inl rfl) rfl) ?_
   refine Oo u67 .calm rfl (v_shl1 rfl rfl rfl (by first | assumption | omega | (simp [*]; done) | (simp at *; omega))) ?_
   refine Oo u67 .calm rfl (v_orW rfl rfl rfl) ?_
   refine Oo u67 .calm rfl (rfl) ?_
   refine Oo u67 .turn rfl (W1c rfl rfl rfl rfl rfl rfl rfl) ?_
   refine O_nil [] (by kernel_rfl) (trivial) ?_
   refine K_seq (B_seq ?_)
   rw [come_one hc64 (bool_f hnseen) g]
   refine B_draw [0, 1, 2, 3, 4, 5, 6, 7, 8, 9, 10, 11, 12, 13, 14, 15, 16, 17, 18] #[0, 0, 1, 5, 15, 31, 63, 127, 255, 255, 255, 767, 2815, 7935, 16127, 32511, 255, 131071, 262143] (by kernel_rfl) (by kernel_rfl) (by kernel_rfl) ?_
   refine Oo u67 .look rfl (W19 rfl rfl rfl rfl) ?_
   refine Oo u67 .calm rfl (v_move (.inl rfl) rfl) ?_
   refine Oo u67 .calm rfl (rfl) ?_
   refine Oo u67 .calm rfl (rfl) ?_
   refine Oo u67 .calm rfl (by first | exact v_idxFA rfl rfl rfl rfl rfl rfl (by first | assumption | omega | (simp [*]; done) | (simp at *; omega)) | exact v_idxA rfl rfl rfl rfl rfl rfl (by first | assumption | omega | (simp [*]; done) | (simp at *; omega))) ?_
   refine Oo u67 .look rfl (W1d rfl rfl rfl rfl) ?_
   refine Oo u67 .calm rfl (rfl) ?_
   refine Oo u67 .calm rfl (v_move (.inl rfl) rfl) ?_
   refine O_split 48 (env1 := u67) (env2 := u67) rfl rfl rfl (fun hg2 => ?_) (fun hg2 => ?_)
   ·try simp only [qB] at hg2
    refine Of u67 rfl ?_
    refine Of u67 rfl ?_
    refine Of u67 rfl ?_
    refine Of u67 rfl ?_
    refine Of u67 rfl ?_
    refine Of u67 rfl ?_
    refine Of u67 rfl ?_
    refine Of u67 rfl ?_
    refine Of u67 rfl ?_
    refine Of u67 rfl ?_
    refine Oo u67 .calm rfl (v_pickTC (VVal.bool true) rfl rfl rfl) ?_
    refine O_nil [] (by kernel_rfl) (trivial) ?_
    refine K_seq ?_
    refine B_true rfl rfl ?_
    refine B_seq ?_
    refine B_draw [0, 1, 2, 3, 4, 5, 6, 7] #[0, 0, 0, 4, 1, 17, 63, 127] (by kernel_rfl) (by kernel_rfl) (by kernel_rfl) ?_
    refine Oo u67 .look rfl (W19 rfl rfl rfl rfl) ?_
    refine Oo u67 .calm rfl (v_move (.inl rfl) rfl) ?_
    refine Oo u67 .look rfl (W19 rfl rfl rfl rfl) ?_
    refine Oo u67 .calm rfl (W14 rfl rfl rfl) ?_
    refine Oo u67 .calm rfl (rfl) ?_
    refine Oo u67 .calm rfl (rfl) ?_
    refine Oo u67 .calm rfl (by first | exact v_idxFA rfl rfl rfl rfl rfl rfl (by first | assumption | omega | (simp [*]; done) | (simp at *; omega)) | exact v_idxA rfl rfl rfl rfl rfl rfl (by first | assumption | omega | (simp [*]; done) | (simp at *; omega))) ?_
    refine Oo u67 .turn rfl (W1f rfl rfl rfl rfl rfl rfl rfl) ?_
    refine O_nil [] (by kernel_rfl) (trivial) ?_
    refine K_seq (B_seq (B_region ?_))
    refine Lo u67 (v_storeC (VVal.bool true) rfl rfl rfl rfl rfl rfl rfl (by first | exact get_app rfl rfl | exact get_out hp | exact get_out hq | exact get_app (htH_len rfl) rfl | exact ht_q hA | exact ht_p hA | exact ht_s hA) (by first | exact Nat.le_of_ble_eq_true rfl | (simp only [List.length_map, List.length_cons, List.length_nil]; omega) | omega | (simp; done) | (simp; omega)) (by exact set_app (htH_len rfl))) ?_
    refine L_nil (K_seq (B_ret (K_blkR ?_)))
    refine ⟨(_, true), rfl, .inr ⟨Code.ret, rfl, ⟨rfl, ?_⟩⟩⟩
    first
      | exact ⟨by rw [hg, grL, if_neg hnseen, if_pos (by assumption)]; rfl, rfl⟩
      | exact ⟨by rw [hg, grL, if_neg hnseen, if_neg hno, if_pos (by assumption)]; rfl, rfl⟩
   ·try simp only [qB] at hg2
    have hno : ¬ s1.1.getD c 0 = 0 := by assumption
    have hgr := grw_ok (rows := rows) (n := n) (row := s1.1.getD c 0 - 1) (s := (s1.1, s1.2 ||| 1#64 <<< c)) (by omega) (by omega) hk1 (by show 64 - come 64 (s1.2 ||| 1#64 <<< c) < n; omega)
    refine Oo u67 .look rfl (W19 rfl rfl rfl rfl) ?_
    refine Oo u67 .look rfl (W19 rfl rfl rfl rfl) ?_
    refine Oo u67 .calm rfl (v_move (.inl rfl) rfl) ?_
    refine Oo u67 .calm rfl (rfl) ?_
    refine Oo u67 .calm rfl (rfl) ?_
    refine Oo u67 .calm rfl (by first | exact v_idxFA rfl rfl rfl rfl rfl rfl (by first | assumption | omega | (simp [*]; done) | (simp at *; omega)) | exact v_idxA rfl rfl rfl rfl rfl rfl (by first | assumption | omega | (simp [*]; done) | (simp at *; omega))) ?_
    refine Oo u67 .look rfl (W1d rfl rfl rfl rfl) ?_
    refine Oo u67 .calm rfl (W1g rfl rfl rfl) ?_
    refine Oo u67 .look rfl (W19 rfl rfl rfl rfl) ?_
    refine O_call (env' := u67) rfl rfl rfl rfl rfl (by exact hgrow_in ih hA (s1.1, s1.2 ||| 1#64 <<< c) g _ (show (0 : Int) ≤ s1.1.getD c 0 - 1 by omega) (show s1.1.getD c 0 - 1 < (rows.length : Int) by omega) hk1 (by show 64 - come 64 (s1.2 ||| 1#64 <<< c) < n; omega)) (by first | exact Nat.le_refl _ | (simp; done) | exact Nat.le_of_eq (by rw [List.length_append, List.length_append, htH_len rfl, htH_len rfl])) rfl rfl ?_
    refine Oo u67 .calm rfl (v_pickF rfl rfl rfl) ?_
    refine O_nil [] (by kernel_rfl) (trivial) ?_
    refine K_seq ?_
    refine B_cond _ rfl (fun hc3 => ?_) (fun hc3 => ?_)
    ·try simp only [qB] at hc3
     refine B_seq ?_
     refine B_draw [0, 1, 2, 3, 4, 5, 6, 7] #[0, 0, 0, 4, 1, 17, 63, 127] (by kernel_rfl) (by kernel_rfl) (by kernel_rfl) ?_
     refine Oo u67 .look rfl (W19 rfl rfl rfl rfl) ?_
     refine Oo u67 .calm rfl (v_move (.inl rfl) rfl) ?_
     refine Oo u67 .look rfl (W19 rfl rfl rfl rfl) ?_
     refine Oo u67 .calm rfl (W14 rfl rfl rfl) ?_
     refine Oo u67 .calm rfl (rfl) ?_
     refine Oo u67 .calm rfl (rfl) ?_
     refine Oo u67 .calm rfl (by first | exact v_idxFA rfl rfl rfl rfl rfl rfl (by first | assumption | omega | (simp [*]; done) | (simp at *; omega)) | exact v_idxA rfl rfl rfl rfl rfl rfl (by first | assumption | omega | (simp [*]; done) | (simp at *; omega))) ?_
     refine Oo u67 .turn rfl (W1f rfl rfl rfl rfl rfl rfl rfl) ?_
     refine O_nil [] (by kernel_rfl) (trivial) ?_
     refine K_seq (B_seq (B_region ?_))
     refine Lo u67 (v_storeC (VVal.bool true) rfl rfl rfl rfl rfl rfl rfl (by first | exact get_app rfl rfl | exact get_out hp | exact get_out hq | exact get_app (htH_len rfl) rfl | exact ht_q hA | exact ht_p hA | exact ht_s hA) (by first | exact Nat.le_of_ble_eq_true rfl | (simp only [List.length_map, List.length_cons, List.length_nil]; omega) | omega | (simp; done) | (simp; omega)) (by exact set_app (htH_len rfl))) ?_
     refine L_nil (K_seq (B_ret (K_blkR ?_)))
     refine ⟨(_, true), rfl, .inr ⟨Code.ret, rfl, ⟨rfl, ?_⟩⟩⟩
     first
       | exact ⟨by rw [hg, grL, if_neg hnseen, if_pos (by assumption)]; rfl, rfl⟩
       | exact ⟨by rw [hg, grL, if_neg hnseen, if_neg hno, if_pos (by assumption)]; rfl, rfl⟩
    ·try simp only [qB] at hc3
     refine B_skip (K_blk ?_)
     have hcg2 : come 64 (s1.2 ||| 1#64 <<< c) ≤ come 64 (grw rows n (s1.1.getD c 0 - 1) (s1.1, s1.2 ||| 1#64 <<< c)).2.2 := come_le2 hgr.sub
     refine ⟨(_, false), rfl, .inl ⟨rfl, ?_⟩⟩
     exact ⟨post, by rw [hx, List.append_assoc]; rfl, by rw [hg, grL, if_neg hnseen, if_neg hno, if_neg (nof (by assumption))]; rfl, ((hgr.no (by assumption)).1).trans hO1, (by show 64 - come 64 (grw rows n (s1.1.getD c 0 - 1) (s1.1, s1.2 ||| 1#64 <<< c)).2.2 ≤ n; omega), rfl⟩
 ·intro s k hk hI
  obtain ⟨s1, res⟩ := s
  try dsimp only at hI ⊢
  obtain ⟨z, hz, hg, hO1, hcm, hres⟩ := hI
  have hres : res = false := hres
  subst hres
  obtain rfl : z = [] := by simpa using hz
  refine K_blk (K_seq (B_seq (B_region ?_)))
  refine Lo u67 (v_storeC (VVal.bool false) rfl rfl rfl rfl rfl rfl rfl (by first | exact get_app rfl rfl | exact get_out hp | exact get_out hq | exact get_app (htH_len rfl) rfl | exact ht_q hA | exact ht_p hA | exact ht_s hA) (by first | exact Nat.le_of_ble_eq_true rfl | (simp only [List.length_map, List.length_cons, List.length_nil]; omega) | omega | (simp; done) | (simp; omega)) (by exact set_app (htH_len rfl))) ?_
  refine L_nil (K_seq (B_ret ?_))
  refine W1h (.inr rfl) (vres_cell rfl rfl rfl rfl (by exact get_app (htH_len rfl) rfl) (by first | rfl | assumption | exact hown_cell (by omega) | exact hgp_cell hl1 | exact fget (α := BitVec 64) 0 (by omega))) ?_
  exact ⟨by rw [show grw rows (n + 1) row (O, S) = (false, s1) from grw_all.trans hg], by rw [show grw rows (n + 1) row (O, S) = (false, s1) from grw_all.trans hg]⟩
 ·rintro j pre c post s k hk hx (⟨rfl, hX⟩)
  obtain ⟨s1, res⟩ := s
  try dsimp only
  obtain ⟨hX1, hX2⟩ := hX
  have hX2 : res = true := hX2
  subst hX2
  refine J_ret ?_
  refine K_blkR (K_seqR ?_)
  refine W1h (.inr rfl) (vres_cell rfl rfl rfl rfl (by exact get_app (htH_len rfl) rfl) (by first | rfl | assumption | exact hown_cell (by omega) | exact hgp_cell hl1 | exact fget (α := BitVec 64) 0 (by omega))) ?_
  exact ⟨by rw [show grw rows (n + 1) row (O, S) = (true, s1) from grw_all.trans hX1], by rw [show grw rows (n + 1) row (O, S) = (true, s1) from grw_all.trans hX1]⟩
end Go.Proofs.YtnbihdflnjpinaaDoor.VT

set_option autoImplicit false
set_option linter.unusedVariables false
set_option linter.unusedSimpArgs false
set_option maxHeartbeats 4000000
set_option maxRecDepth 100000
namespace Go.Proofs.YtnbihdflnjpinaaDoor.VT
open Go Go.V Go.RowKit
abbrev u8 {a0 a1 a2 a3 a4 a5 a6 a7 : VVal} : VEnv := a0 :: a1 :: a2 :: a3 :: a4 :: a5 :: a6 :: a7 :: []
abbrev u51 {a0 a1 a2 a3 a4 a5 a6 a7 a8 a9 a10 a11 a12 a13 a14 a15 a16 a17 a18 a19 a20 a21 a22 a23 a24 a25 a26 a27 a28 a29 a30 a31 a32 a33 a34 a35 a36 a37 a38 a39 a40 a41 a42 a43 a44 a45 a46 a47 a48 a49 a50 : VVal} : VEnv := a0 :: a1 :: a2 :: a3 :: a4 :: a5 :: a6 :: a7 :: a8 :: a9 :: a10 :: a11 :: a12 :: a13 :: a14 :: a15 :: a16 :: a17 :: a18 :: a19 :: a20 :: a21 :: a22 :: a23 :: a24 :: a25 :: a26 :: a27 :: a28 :: a29 :: a30 :: a31 :: a32 :: a33 :: a34 :: a35 :: a36 :: a37 :: a38 :: a39 :: a40 :: a41 :: a42 :: a43 :: a44 :: a45 :: a46 :: a47 :: a48 :: a49 :: a50 :: []
theorem W1k {T : TypeId → Option VTy} {H : VHeap} {op : Op} {ρ : Operand → VVal} {t : TypeId} {a : Operand} {y : VTy} {p v : VVal} (ho : op = .load t a) (ha : ρ a = p) (hy : T t = some y) (hd : isAggDesc y.desc = false) (h : LdOk H p v := by first | exact .inl ⟨_, _, rfl, by first | exact fget0 (α := BitVec 64) 0 (by rw [mkT_len]; omega) | rfl⟩ | exact .inr ⟨_, _, _, _, rfl, by first | exact get_app rfl rfl | exact get_out (by assumption) | exact getE0 rfl rfl | exact get_out (get_app rfl rfl) | exact get_app rfl (by assumption) | assumption | (simp only [List.append_assoc, List.singleton_append, List.cons_append, List.nil_append]; refine getE (i := 0) rfl ?_ rfl; simp; done) | (simp only [List.append_assoc, List.singleton_append, List.cons_append, List.nil_append]; refine getE (i := 1) rfl ?_ rfl; simp; done) | (simp only [List.append_assoc, List.singleton_append, List.cons_append, List.nil_append]; refine getE (i := 2) rfl ?_ rfl; simp; done) | (simp only [List.append_assoc, List.singleton_append, List.cons_append, List.nil_append]; refine getE (i := 3) rfl ?_ rfl; simp; done) | (simp [*]; done), by first | exact fget0 (α := BitVec 64) 0 (by rw [mkT_len]; omega) | rfl⟩) : vop T ρ H op = some (v, H) := v_ld ho ha hy hd h
theorem W1m {T : TypeId → Option VTy} {H : VHeap} {op : Op} {ρ : VEnv} {H' : VHeap} {t : TypeId} {a : Operand} {i : Nat} {v : VVal} {y : VTy} {b off : Nat} {cs new : List VVal} (ho : op = .store t a (.tmp i)) (hv : ρ[i]? = some v) (ha : ρ.eval a = .ptr (some (b, off))) (hy : T t = some y) (hx : v.cells = some new) (hn : new.length = y.size) (h1 : new.all VVal.one = true) (hb : H[b]? = some (.cells cs true) := by first | exact get_app rfl rfl | exact get_out (by assumption) | exact getE0 rfl rfl | exact get_out (get_app rfl rfl) | exact get_app rfl (by assumption) | assumption | (simp only [List.append_assoc, List.singleton_append, List.cons_append, List.nil_append]; refine getE (i := 0) rfl ?_ rfl; simp; done) | (simp only [List.append_assoc, List.singleton_append, List.cons_append, List.nil_append]; refine getE (i := 1) rfl ?_ rfl; simp; done) | (simp only [List.append_assoc, List.singleton_append, List.cons_append, List.nil_append]; refine getE (i := 2) rfl ?_ rfl; simp; done) | (simp only [List.append_assoc, List.singleton_append, List.cons_append, List.nil_append]; refine getE (i := 3) rfl ?_ rfl; simp; done) | (simp [*]; done)) (hl : off + new.length ≤ cs.length := by show 0 + (k : Int).toNat * 1 + 1 ≤ _; rw [List.length_map, mkT_len]; omega) (hH : H.set b (.cells (splice cs off new) true) = H' := by exact (set_app rfl).trans (by show H ++ [VBlk.cells (splice (List.map iW (mkT l t k)) (0 + (k : Int).toNat * 1) [_]) true, _] = _; rw [spl_w (by rw [mkT_len]; omega)])) : vop T ρ.eval H op = some (.skip, H') := v_storeT ho hv ha hy hx hn h1 hb hl hH
theorem W1o {S : V.Sys} {H : VHeap} {fn : Func} {ex : Exit} {env : VEnv} {B L : VHeap} {v : VVal} {R : VVal → VHeap → Prop} (hx : ex = .normal ∨ ex = .ret) (hv : vresults S.C.T env (B ++ L) fn.results = some v) (h : R v B) (hB : BaseOk H B := by exact BaseOk.set (BaseOk.refl _) _ rfl) (hu : v.under H.length = true := by first | rfl | simp [VVal.under, VVal.underL, *]) : fnK S fn H R ex env (B ++ L) := E_app hx hv hB hu h
theorem W1p {P : Prop} (h : P := by first | exact ⟨by rw [(full_no (by omega) hz (by assumption)).1], by rw [show fuG l t = ⟨0, 0, edN (msk l t) (k + 1)⟩ from congrArg (Gz.mk 0 0) (full_no (by omega) hz (by assumption)).2]⟩ | (obtain rfl : k = l.length := by omega); exact ⟨by rw [full_yes hz], rfl⟩) : P := h
theorem hgrow_spec {x : SW} (p q y : Nat) (rows : List (BitVec 64)) (h62 : rows.length < 4611686018427387904) : ∀ (n : Nat) (H : VHeap) (row : Int) (O : List Int) (S : BitVec 64) (g : Gz), Apart3 H p q y → H[p]? = some (hmB y rows O) → H[q]? = some (hsB S) → H[y]? = some (gaB (gw g S)) → 0 ≤ row → row < rows.length → Gok rows O → 64 - come 64 S < n → F (psys x) 98 [.ptr (some (p, 0)), iI row, .ptr (some (q, 0))] H fun v G => v = .bool (grw rows n row (O, S)).1 ∧ G = htH H p q y rows (grw rows n row (O, S)).2 (gw g (grw rows n row (O, S)).2.2)
  | 0, _, _, _, _, _, _, _, _, _, _, _, _, h => absurd h (by omega)
  | n + 1, H, row, O, S, g, a, hp, hq, hs, h0, h1, hO, hm => hgrow_s p q y n rows (fun H row O S g a b c d e f h i => hgrow_spec p q y rows h62 n H row O S g a b c d e f h i) H a row O S g hp hq hs h0 h1 hO hm h62
theorem gw_0 (g : Gz) : gw g 0#64 = g := by unfold gw; rw [come_0]; rfl
theorem gw_ed {rows : List (BitVec 64)} {k : Nat} {g : Gz} (h : (szO rows k).2 = k) : gw (g + ⟨0, 0, edN rows k⟩) (grw rows 65 k ((szO rows k).1, 0#64)).2.2 = g + ⟨0, 0, edN rows (k + 1)⟩ := by
  rw [edN_yes h]; exact Gz.ext' rfl rfl (Nat.add_assoc _ _ _)
theorem hgrow_at {x : SW} {H : VHeap} {y p q : Nat} (hp : p = H.length + 1) (hq : q = H.length + 2) (g : Gz) (hy : y < H.length) (rows : List (BitVec 64)) (O : List Int) (row : Int) (h0 : 0 ≤ row) (h1 : row < rows.length) (hO : Gok rows O) (h62 : rows.length < 4611686018427387904) : F (psys x) 98 [.ptr (some (p, 0)), iI row, .ptr (some (q, 0))] (H.set y (gaB g) ++ [.dead, hmB y rows O, hsB 0#64]) fun v G => v = .bool (grw rows 65 row (O, 0#64)).1 ∧ G = H.set y (gaB (gw g (grw rows 65 row (O, 0#64)).2.2)) ++ [.dead, hmB y rows (grw rows 65 row (O, 0#64)).2.1, hsB (grw rows 65 row (O, 0#64)).2.2] := by
  subst hp hq
  have := hgrow_spec (x := x) (H.length + 1) (H.length + 2) y rows h62 65 (H.set y (gaB g) ++ [.dead, hmB y rows O, hsB 0#64]) row O 0#64 g ⟨by simp, by simp, by simp; omega, by omega, by omega, by omega⟩ (get_app (List.length_set) rfl) (get_app (List.length_set) rfl) (by rw [gw_0]; exact get_out (List.getElem?_set_self hy)) h0 h1 hO (by rw [come_0]; omega)
  unfold htH at this
  rw [set_app (List.length_set), set_app (List.length_set), set_out (by rw [List.length_set]; exact hy), List.set_set] at this
  exact this
theorem hmB_under {n y : Nat} {rows : List (BitVec 64)} {O : List Int} (h : y < n) : (hmB y rows O).under n = true := by
  show VVal.underL n (fzW rows :: (O.map iI ++ [.ptr (some (y, 0))])) = true
  have h1 : VVal.underL n (O.map iI ++ [.ptr (some (y, 0))]) = true := VVal.underL_app (VVal.underL_map fun _ => rfl) (by simp [VVal.underL, VVal.under, h])
  simp only [VVal.underL, h1, Bool.and_true]
  exact VVal.underL_map fun _ => rfl
theorem wApp_c {l : List (BitVec 64)} : cellsAt (l.map iW) 0 (l.length * 1) = some (l.map iW) := by
  unfold cellsAt; rw [if_pos (by rw [List.length_map]; omega), List.drop_zero, List.take_of_length_le (by rw [List.length_map]; omega)]
theorem spl_w {l : List (BitVec 64)} {k : Nat} {w : BitVec 64} (h : k < l.length) : splice (l.map iW) (0 + k * 1) [iW w] = (l.set k w).map iW := by
  rw [show 0 + k * 1 = k by omega]
  unfold splice
  rw [List.map_set, List.set_eq_take_append_cons_drop, if_pos (by rw [List.length_map]; exact h)]; simp
section
variable {T : TypeId → Option VTy} {ρ : Operand → VVal} {H : VHeap} {op : Op}
theorem v_eqNilC {t : TypeId} {x y : Operand} {ty : TypeId} {cs : List VVal} {len es : Nat} {ex : Bool} {i : VTy} {e : TypeId} (ho : op = .binOp .eql t x y ty) (hx : ρ x = .fsl cs len es ex) (hy : ρ y = .slice none 0 0 true 0) (hT : T t = some i) (hd : i.desc = .slice e) (hl : len ≠ 0) : vop T ρ H op = some (.bool false, H) := by
  rw [ho]; simp [vop, vbin, hx, hy, veq, hT, hd, hl]
end
theorem CloW_nil {x : SW} (H : VHeap) : F (psys x) 87 [.slice none 0 0 true 0] H fun v G => v = .fsl [] 0 1 false ∧ G = H := by
 refine F_body Tryd.func87 rfl u8 rfl ?_
 refine B_seq (B_region ?_)
 refine Lo u8 (v_const (VVal.slice none 0 0 true 0) (.inr rfl) rfl) ?_
 refine L_nil (K_seq (B_seq (B_seq (B_region ?_))))
 refine Lo u8 (v_move (.inl rfl) rfl) ?_
 refine Lo u8 (rfl) ?_
 refine L_nil (K_seq ?_)
 refine B_true rfl rfl ?_
 refine B_seq (B_region ?_)
 refine Lo u8 (v_const (VVal.slice none 0 0 true 0) (.inr rfl) rfl) ?_
 refine L_nil (K_seq (B_ret (K_seqR ?_)))
 refine E_gh (.inr rfl) (vres_tmp rfl rfl) (Gh.ansLV (BaseOk.refl _) (LV.nil H.length 1 []) rfl) ?_
 exact ⟨rfl, rfl⟩
theorem CloW_emp {x : SW} (H : VHeap) : F (psys x) 87 [.slice none 0 0 false 0] H fun v G => v = .fsl [] 0 1 false ∧ G = H := by
 refine F_body Tryd.func87 rfl u8 rfl ?_
 refine B_seq (B_region ?_)
 refine Lo u8 (v_const (VVal.slice none 0 0 true 0) (.inr rfl) rfl) ?_
 refine L_nil (K_seq (B_seq (B_seq (B_region ?_))))
 refine Lo u8 (v_move (.inl rfl) rfl) ?_
 refine Lo u8 (rfl) ?_
 refine L_nil (K_seq ?_)
 refine B_false rfl rfl ?_
 refine B_skip (K_seq (B_seq (B_region ?_)))
 refine Lo u8 (v_buildSlice rfl rfl (by decide) rfl) ?_
 refine Lo u8 (v_move (.inl rfl) rfl) ?_
 refine Lo u8 (v_appIn rfl rfl rfl rfl rfl rfl rfl (get_app rfl rfl) rfl rfl rfl rfl (by decide) (by decide) (by decide)) ?_
 refine L_heap (H' := H ++ [.cells [] true]) (by rw [set_app rfl]; rfl) ?_
 refine Lo u8 (v_move (.inr rfl) rfl) ?_
 refine L_nil (K_seq (B_ret ?_))
 refine E_gh (.inr rfl) (vres_tmp rfl rfl) (Gh.fsl (j := 0) (off := 0) (len := 0) (l := []) (BaseOk.refl _) rfl rfl (Nat.le_refl _) rfl) ?_
 exact ⟨rfl, rfl⟩
theorem CloW_c {x : SW} (H : VHeap) (l : List (BitVec 64)) (hne : l ≠ []) (hl : l.length ≤ 1000000) : F (psys x) 87 [fzW l] H fun v G => v = .slice (some (H.length, 0)) l.length l.length (decide (l.length = 0)) 1 ∧ G = H ++ [.cells (l.map iW) true] := by
 refine F_body Tryd.func87 rfl u8 rfl ?_
 refine B_seq (B_region ?_)
 refine Lo u8 (v_const (VVal.slice none 0 0 true 0) (.inr rfl) rfl) ?_
 refine L_nil (K_seq (B_seq (B_seq (B_region ?_))))
 refine Lo u8 (v_move (.inl rfl) rfl) ?_
 refine Lo u8 (v_eqNilC rfl rfl rfl rfl rfl (fun e => hne (List.eq_nil_of_length_eq_zero e))) ?_
 refine L_nil (K_seq ?_)
 refine B_false rfl rfl ?_
 refine B_skip (K_seq (B_seq (B_region ?_)))
 refine Lo u8 (v_buildSlice rfl rfl (by decide) rfl) ?_
 refine Lo u8 (v_move (.inl rfl) rfl) ?_
 refine L_opX rfl rfl (v_appE rfl rfl rfl rfl rfl rfl rfl rfl (by rw [List.length_map]; exact (Nat.mul_one _).symm) (mapW_one _) (by decide) (by show l.length * 8 ≤ _ ∧ l.length ≤ _; omega)) ?_
 rintro _ _ ⟨Z, i, rfl, rfl, hi⟩
 refine Le u8 ?_
 refine Lo u8 (v_move (.inr rfl) rfl) ?_
 refine L_nil (K_seq (B_ret ?_))
 refine E_gh (.inr rfl) (vres_tmp rfl rfl) (Gh.pack (BaseOk.refl _) hi (mapW_under _ _)) ?_
 exact ⟨rfl, rfl⟩
theorem CloW_0 {x : SW} (H : VHeap) : F (psys x) 87 [fzW []] H fun v G => v = .fsl [] 0 1 false ∧ G = H := F_split0 (CloW_nil H) (CloW_emp H)
theorem CloW_L {x : SW} (H L : VHeap) (l : List (BitVec 64)) (hne : l ≠ []) (hl : l.length ≤ 1000000) : F (psys x) 87 [fzW l] (H ++ L) fun v G => v = .slice (some (H.length + L.length, 0)) l.length l.length (decide (l.length = 0)) 1 ∧ G = H ++ (L ++ [.cells (l.map iW) true]) := by
  have := CloW_c (x := x) (H ++ L) l hne hl
  rw [List.length_append, List.append_assoc] at this
  exact this
abbrev huC (u : Int) (ws rs : VVal) (y : Nat) : List VVal := [iI u, ws, rs, .ptr (some (y, 0))]
abbrev huP (u : Int) (ws rs : VVal) (y : Nat) : VVal := .fptr (huC u ws rs y) 0
theorem hfull_0 {x : SW} {u : Int} {ws rs : VVal} (H : VHeap) (y : Nat) (g : Gz) (hs : H[y]? = some (gaB g)) (t : BitVec 64) : F (psys x) 79 [huP u ws rs y, fzW [], iW t] H fun v G => v = .bool (fullB [] t) ∧ G = H := by
 refine F_body Tryd.func79 rfl u51 rfl ?_
 refine B_seq (B_region ?_)
 refine Lo u51 (v_const (VVal.bool false) (.inr rfl) rfl) ?_
 refine L_nil (K_seq (B_seq ?_))
 refine B_draw [0, 2, 3, 4, 5, 1, 6, 7, 8] #[0, 1, 0, 4, 12, 28, 63, 127, 255] (by kernel_rfl) (by kernel_rfl) (by kernel_rfl) ?_
 refine Oo u51 .calm rfl (v_move (.inl rfl) rfl) ?_
 refine Oo u51 .calm rfl (v_move (.inl rfl) rfl) ?_
 refine Oo u51 .calm rfl (rfl) ?_
 refine Oo u51 .calm rfl (rfl) ?_
 refine O_opI (env' := u51) (x := .look _ _) rfl rfl rfl (W12 rfl rfl rfl rfl) rfl rfl rfl ?_
 refine O_call (env' := u51) rfl rfl rfl rfl rfl (by exact CloW_0 _) (by first | exact Nat.le_refl _ | simp) rfl rfl ?_
 refine Oo u51 .calm rfl (rfl) ?_
 refine Oo u51 .grow rfl (v_boxT rfl rfl rfl) ?_
 refine Oo u51 .calm rfl (v_move (.inr rfl) rfl) ?_
 refine O_nil [_] (by rfl) (And.intro (And.intro (W12 rfl rfl rfl rfl) (W12 rfl rfl rfl rfl)) trivial) ?_
 refine K_seq (B_seq (B_seq (B_region ?_)))
 refine Lo u51 (v_move (.inl rfl) rfl) ?_
 refine Lo u51 (rfl) ?_
 refine Lo u51 (rfl) ?_
 refine Lo u51 (W12 rfl rfl rfl rfl) ?_
 refine Lo u51 (rfl) ?_
 refine Lo u51 (v_const (VVal.int .i64 0) (.inl rfl) rfl) ?_
 refine L_nil (K_seq (B_block ?_))
 refine B_clear (mk 51 2251799788519291) (env' := u51) rfl ?_
 refine B_loopE (fun (k : Nat) => 0) (fun (k : Nat) => [(24, iI (k : Nat))]) (fun (k : Nat) G => (k = 0) ∧ G = H ++ [hmB y [] (szO [] 0).1]) 0 rfl ?_ ?_
 ·refine ⟨?_, rfl⟩
  trivial
 rintro k _ ⟨_, rfl⟩
 refine B_env (env' := u51) rfl ?_
 refine B_seq (B_region ?_)
 refine Lo u51 (rfl) ?_
 refine L_nil (K_seq (B_seq ?_))
 refine B_cond _ rfl (fun hc1 => ?_) (fun hc1 => ?_)
 ·try simp only [qB] at hc1
  exfalso; try simp only [List.length_nil] at *
  omega
 ·try simp only [qB] at hc1
  refine B_exit (K_seqX (K_loopX (K_blkX (K_seq (B_seq (B_seq (B_region ?_)))))))
  refine Lo u51 (v_move (.inl rfl) rfl) ?_
  refine Lo u51 (rfl) ?_
  refine Lo u51 (rfl) ?_
  refine Lo u51 (W12 rfl rfl rfl rfl) ?_
  refine Lo u51 (rfl) ?_
  refine Lo u51 (v_const (VVal.int .i64 0) (.inl rfl) rfl) ?_
  refine L_nil (K_seq (B_block ?_))
  refine B_clear (mk 51 2238605674151807) (env' := u51) rfl ?_
  refine B_loopE (fun (k : Nat) => 0) (fun (k : Nat) => [(43, iI (k : Nat))]) (fun (k : Nat) G => (k = 0) ∧ G = H ++ [hmB y [] (szO [] 0).1]) 0 rfl ?_ ?_
  ·refine ⟨?_, rfl⟩
   trivial
  rintro k _ ⟨_, rfl⟩
  refine B_env (env' := u51) rfl ?_
  refine B_seq (B_region ?_)
  refine Lo u51 (rfl) ?_
  refine L_nil (K_seq (B_seq ?_))
  refine B_cond _ rfl (fun hc2 => ?_) (fun hc2 => ?_)
  ·try simp only [qB] at hc2
   exfalso; try simp only [List.length_nil] at *
   omega
  ·try simp only [qB] at hc2
   refine B_exit (K_seqX (K_loopX (K_blkX (K_seq (B_seq (B_region ?_))))))
   refine Lo u51 (v_const (VVal.bool true) (.inr rfl) rfl) ?_
   refine L_nil (K_seq (B_ret ?_))
   refine W10 (.inr rfl) (vres_tmp rfl rfl) ?_
   exact ⟨rfl, rfl⟩
theorem hfull_c {x : SW} {u : Int} {ws rs : VVal} (H : VHeap) (y : Nat) (g : Gz) (hs : H[y]? = some (gaB g)) (l : List (BitVec 64)) (t : BitVec 64) (hne : l ≠ []) (hl : l.length ≤ 1000000) : F (psys x) 79 [huP u ws rs y, fzW l, iW t] H fun v G => v = .bool (fullB l t) ∧ G = H.set y (gaB (g + fuG l t)) := by
 have hy := lt_of_get hs
 refine F_body Tryd.func79 rfl u51 rfl ?_
 refine B_seq (B_region ?_)
 refine Lo u51 (v_const (VVal.bool false) (.inr rfl) rfl) ?_
 refine L_nil (K_seq (B_seq ?_))
 refine B_draw [0, 2, 3, 4, 5, 1, 6, 7, 8] #[0, 1, 0, 4, 12, 28, 63, 127, 255] (by kernel_rfl) (by kernel_rfl) (by kernel_rfl) ?_
 refine Oo u51 .calm rfl (v_move (.inl rfl) rfl) ?_
 refine Oo u51 .calm rfl (v_move (.inl rfl) rfl) ?_
 refine Oo u51 .calm rfl (rfl) ?_
 refine Oo u51 .calm rfl (rfl) ?_
 refine O_opI (env' := u51) (x := .look _ _) rfl rfl rfl (W1k rfl rfl rfl rfl) rfl rfl rfl ?_
 refine O_call (env' := u51) rfl rfl rfl rfl rfl (by exact CloW_L _ _ _ hne hl) (by first | exact Nat.le_refl _ | simp) rfl rfl ?_
 refine Oo u51 .calm rfl (rfl) ?_
 refine Oo u51 .grow rfl (v_boxT rfl rfl rfl) ?_
 refine Oo u51 .calm rfl (v_move (.inr rfl) rfl) ?_
 refine O_nil [_] (by rfl) (And.intro (And.intro (W1k rfl rfl rfl rfl) (W1k rfl rfl rfl rfl)) trivial) ?_
 refine K_seq (B_seq (B_seq (B_region ?_)))
 refine Lo u51 (v_move (.inl rfl) rfl) ?_
 refine Lo u51 (rfl) ?_
 refine Lo u51 (rfl) ?_
 refine Lo u51 (W1k rfl rfl rfl rfl) ?_
 refine Lo u51 (rfl) ?_
 refine Lo u51 (v_const (VVal.int .i64 0) (.inl rfl) rfl) ?_
 refine L_nil (K_seq (B_block ?_))
 refine B_clear (mk 51 2251799788519291) (env' := u51) rfl ?_
 refine B_loopE (fun (k : Nat) => l.length - k) (fun (k : Nat) => [(24, iI (k : Nat))]) (fun (k : Nat) G => (k ≤ l.length) ∧ G = H ++ [.cells ((mkT l t k).map iW) true, .cells (.slice (some (H.length + 0, 0)) l.length l.length (decide (l.length = 0)) 1 :: ((List.replicate 64 0).map iI ++ [.ptr (some (y, 0))])) true]) 0 rfl ?_ ?_
 ·refine ⟨?_, (by rw [mkT_0]; rfl)⟩
  exact Nat.zero_le _
 rintro k _ ⟨hk, rfl⟩
 refine B_env (env' := u51) rfl ?_
 refine B_seq (B_region ?_)
 refine Lo u51 (rfl) ?_
 refine L_nil (K_seq (B_seq ?_))
 refine B_cond _ rfl (fun hc1 => ?_) (fun hc1 => ?_)
 ·try simp only [qB] at hc1
  refine B_skip (K_seq (B_seq (B_block (B_seq (B_region ?_)))))
  refine Lo u51 (v_move (.inl rfl) rfl) ?_
  refine Lo u51 (v_move (.inr rfl) rfl) ?_
  refine L_nil (K_seq (B_region ?_))
  refine Lo u51 (v_move (.inl rfl) rfl) ?_
  refine Lo u51 (rfl) ?_
  refine Lo u51 (rfl) ?_
  refine Lo u51 (W1k rfl rfl rfl rfl) ?_
  refine Lo u51 (v_move (.inl rfl) rfl) ?_
  refine Lo u51 (W18 rfl rfl rfl rfl rfl rfl rfl) ?_
  refine Lo u51 (W1k rfl rfl rfl rfl) ?_
  refine Lo u51 (v_move (.inl rfl) rfl) ?_
  refine Lo u51 (v_andNotW rfl rfl rfl) ?_
  refine Lo u51 (W18 rfl rfl rfl rfl rfl rfl rfl) ?_
  refine Lo u51 (W1m rfl rfl rfl rfl rfl rfl rfl) ?_
  refine L_nil (K_blk (K_seq (B_region ?_)))
  refine Lo u51 (W14 rfl rfl rfl) ?_
  refine Lo u51 (v_move (.inl rfl) rfl) ?_
  refine L_nil ?_
  have hE : (mkT l t k).set (k : Int).toNat ((mkT l t k).getD (k : Int).toNat 0 &&& ~~~t) = mkT l t (k + 1) := by rw [Int.toNat_natCast, mkT_get (by omega), mkT_set (by omega)]
  refine K_loop (mk 51 2251799788519291) (env' := u51) rfl ⟨k + 1, ?_, rfl, ?_⟩
  ·first | omega | (simp only []; omega)
  ·exact ⟨by omega, by rw [← hE]⟩
 ·try simp only [qB] at hc1
  refine B_exit (K_seqX (K_loopX (K_blkX (K_seq (B_seq (B_seq ?_))))))
  obtain rfl : k = l.length := by omega
  rw [mkT_all]
  refine B_gh (Gh.cellL (l := (msk l t).map iW) 1 0 0 rfl rfl (by decide) rfl (by rw [show l.length * 1 = (msk l t).length * 1 by rw [msk_len]]; exact wApp_c) (Nat.le_refl _)) ?_
  refine B_region ?_
  refine Lo u51 (v_move (.inl rfl) rfl) ?_
  refine Lo u51 (rfl) ?_
  refine Lo u51 (rfl) ?_
  refine Lo u51 (W1k rfl rfl rfl rfl) ?_
  refine Lo u51 (rfl) ?_
  refine Lo u51 (v_const (VVal.int .i64 0) (.inl rfl) rfl) ?_
  refine L_nil (K_seq (B_block ?_))
  refine B_clear (mk 51 2238605674151807) (env' := u51) rfl ?_
  refine B_loopE (fun (k : Nat) => l.length - k) (fun (k : Nat) => [(43, iI (k : Nat))]) (fun (k : Nat) G => (k ≤ l.length ∧ (szO (msk l t) k).2 = k) ∧ G = H.set y (gaB (g + ⟨0, 0, edN (msk l t) k⟩)) ++ [.dead, hmB y (msk l t) (szO (msk l t) k).1]) 0 rfl ?_ ?_
  ·refine ⟨?_, (by rw [edN, show g + ⟨0, 0, 0⟩ = g from Gz.add_zero g, ← set_keep hs]; show H ++ [VBlk.dead, VBlk.cells (VVal.fsl ((msk l t).map iW) l.length 1 false :: _) true] = H ++ [VBlk.dead, VBlk.cells (VVal.fsl ((msk l t).map iW) (msk l t).length 1 false :: _) true]; rw [msk_len]; rfl)⟩
   exact ⟨Nat.zero_le _, rfl⟩
  rintro k _ ⟨⟨hk, hz⟩, rfl⟩
  refine B_env (env' := u51) rfl ?_
  refine B_seq (B_region ?_)
  refine Lo u51 (rfl) ?_
  refine L_nil (K_seq (B_seq ?_))
  refine B_cond _ rfl (fun hc2 => ?_) (fun hc2 => ?_)
  ·try simp only [qB] at hc2
   refine B_skip (K_seq (B_seq (B_block (B_seq (B_region ?_)))))
   refine Lo u51 (v_move (.inl rfl) rfl) ?_
   refine Lo u51 (v_move (.inr rfl) rfl) ?_
   refine L_nil (K_seq (B_seq (B_region ?_)))
   refine Lo u51 (v_alloc rfl rfl) ?_
   refine Lo u51 (v_storeC (VVal.int .u64 0) rfl rfl rfl rfl rfl rfl rfl (by first | exact get_app rfl rfl | exact get_out (by assumption) | exact getE0 rfl rfl | exact get_out (get_app rfl rfl) | exact get_app rfl (by assumption) | assumption | (simp only [List.append_assoc, List.singleton_append, List.cons_append, List.nil_append]; refine getE (i := 0) rfl ?_ rfl; simp; done) | (simp only [List.append_assoc, List.singleton_append, List.cons_append, List.nil_append]; refine getE (i := 1) rfl ?_ rfl; simp; done) | (simp only [List.append_assoc, List.singleton_append, List.cons_append, List.nil_append]; refine getE (i := 2) rfl ?_ rfl; simp; done) | (simp only [List.append_assoc, List.singleton_append, List.cons_append, List.nil_append]; refine getE (i := 3) rfl ?_ rfl; simp; done) | (simp [*]; done)) (by first | exact Nat.le_of_ble_eq_true rfl | (simp only [List.length_map, List.length_cons, List.length_nil]; omega) | omega | (simp; done) | (simp; omega)) (by first | exact setE0 rfl rfl | (simp only [List.append_assoc, List.singleton_append, List.cons_append, List.nil_append]; refine setE (i := 0) rfl ?_; simp; done) | (simp only [List.append_assoc, List.singleton_append, List.cons_append, List.nil_append]; refine setE (i := 1) rfl ?_; simp; done) | (simp only [List.append_assoc, List.singleton_append, List.cons_append, List.nil_append]; refine setE (i := 2) rfl ?_; simp; done) | (simp only [List.append_assoc, List.singleton_append, List.cons_append, List.nil_append]; refine setE (i := 3) rfl ?_; simp; done) | (refine setB rfl ?_; simp; done) | exact set_app rfl | exact set_out (lt_of_get (by assumption)) | rfl)) ?_
   refine L_nil (K_seq (B_seq (B_region ?_)))
   refine Lo u51 (v_move (.inl rfl) rfl) ?_
   refine Lo u51 (v_move (.inl rfl) rfl) ?_
   refine L_call rfl rfl rfl (by exact hgrow_at (p := H.length + 1) (q := (H.set y (gaB (g + ⟨0, 0, edN (msk l t) k⟩))).length + 2) rfl (by rw [List.length_set]) (g + ⟨0, 0, edN (msk l t) k⟩) hy (msk l t) (szO (msk l t) k).1 k (by omega) (by rw [msk_len]; omega) (szO_ok (by rw [msk_len]; omega)) (by rw [msk_len]; omega)) ?_
   rintro v _ ⟨rfl, rfl⟩; rw [gw_ed hz]
   refine Le u51 ?_
   refine Lo u51 (rfl) ?_
   refine L_nil (K_seq ?_)
   refine B_cond _ rfl (fun hc3 => ?_) (fun hc3 => ?_)
   ·try simp only [qB] at hc3
    refine B_seq (B_region ?_)
    refine Lo u51 (v_const (VVal.bool false) (.inr rfl) rfl) ?_
    refine L_nil (K_seq (B_ret (K_blkR (K_seqR (K_loopR (K_blkR (K_seqR ?_)))))))
    refine W1o (.inr rfl) (vres_tmp rfl rfl) ?_
    exact W1p
   ·try simp only [qB] at hc3
    refine B_skip (K_blk (K_seq (B_region ?_)))
    refine Lo u51 (W14 rfl rfl rfl) ?_
    refine Lo u51 (v_move (.inl rfl) rfl) ?_
    refine L_nil ?_
    refine K_loopG (mk 51 2238605674151807) (env' := u51) rfl (Gh.dropTo (L := [.dead, hmB y (msk l t) (szO (msk l t) (k + 1)).1]) (X := [hsB _]) 2 rfl (BaseOk.set (BaseOk.refl _) _ rfl) (by first | (simp [VVal.underL, VVal.under]; done) | (simp [VVal.underL, VVal.under]; omega)) (by show (true && ((hmB y _ _).under _ && true)) = true; rw [hmB_under (by first | omega | (rw [List.length_set]; omega))]; rfl)) ⟨k + 1, ?_, rfl, ?_⟩
    ·first | omega | (simp only []; omega)
    ·exact ⟨⟨by omega, szO_yes hz (by assumption)⟩, rfl⟩
  ·try simp only [qB] at hc2
   refine B_exit (K_seqX (K_loopX (K_blkX (K_seq (B_seq (B_region ?_))))))
   refine Lo u51 (v_const (VVal.bool true) (.inr rfl) rfl) ?_
   refine L_nil (K_seq (B_ret ?_))
   refine W1o (.inr rfl) (vres_tmp rfl rfl) ?_
   exact W1p
end Go.Proofs.YtnbihdflnjpinaaDoor.VT

set_option autoImplicit false
set_option linter.unusedVariables false
set_option linter.unusedSimpArgs false
set_option maxHeartbeats 4000000
set_option maxRecDepth 100000
namespace Go.Proofs.YtnbihdflnjpinaaDoor.VT
open Go Go.V Go.RowKit
abbrev u44 {a0 a1 a2 a3 a4 a5 a6 a7 a8 a9 a10 a11 a12 a13 a14 a15 a16 a17 a18 a19 a20 a21 a22 a23 a24 a25 a26 a27 a28 a29 a30 a31 a32 a33 a34 a35 a36 a37 a38 a39 a40 a41 a42 a43 : VVal} : VEnv := a0 :: a1 :: a2 :: a3 :: a4 :: a5 :: a6 :: a7 :: a8 :: a9 :: a10 :: a11 :: a12 :: a13 :: a14 :: a15 :: a16 :: a17 :: a18 :: a19 :: a20 :: a21 :: a22 :: a23 :: a24 :: a25 :: a26 :: a27 :: a28 :: a29 :: a30 :: a31 :: a32 :: a33 :: a34 :: a35 :: a36 :: a37 :: a38 :: a39 :: a40 :: a41 :: a42 :: a43 :: []
theorem W1r {T : TypeId → Option VTy} {H : VHeap} {op : Op} {ρ : Operand → VVal} {t : TypeId} {a : Operand} {y : VTy} {p v : VVal} (ho : op = .load t a) (ha : ρ a = p) (hy : T t = some y) (hd : isAggDesc y.desc = false) (h : LdOk H p v := by first | exact .inl ⟨_, _, rfl, by first | rfl | assumption | exact fgetN (α := Nat) 0 (by omega) | exact fgetN (α := BitVec 64) 0 (by omega)⟩ | exact .inr ⟨_, _, _, _, rfl, by first | exact get_app rfl rfl | exact get_out (by assumption) | exact getE0 rfl rfl | exact get_out (get_app rfl rfl) | exact get_app rfl (by assumption) | assumption | (simp only [List.append_assoc, List.singleton_append, List.cons_append, List.nil_append]; refine getE (i := 0) rfl ?_ rfl; simp; done) | (simp only [List.append_assoc, List.singleton_append, List.cons_append, List.nil_append]; refine getE (i := 1) rfl ?_ rfl; simp; done) | (simp only [List.append_assoc, List.singleton_append, List.cons_append, List.nil_append]; refine getE (i := 2) rfl ?_ rfl; simp; done) | (simp only [List.append_assoc, List.singleton_append, List.cons_append, List.nil_append]; refine getE (i := 3) rfl ?_ rfl; simp; done) | (simp [*]; done), by first | rfl | assumption | exact fgetN (α := Nat) 0 (by omega) | exact fgetN (α := BitVec 64) 0 (by omega)⟩) : vop T ρ H op = some (v, H) := v_ld ho ha hy hd h
theorem W1t {T : TypeId → Option VTy} {H : VHeap} {op : Op} {ρ : Operand → VVal} {t : TypeId} {a : Operand} {y : VTy} {p v : VVal} (ho : op = .load t a) (ha : ρ a = p) (hy : T t = some y) (hd : isAggDesc y.desc = false) (h : LdOk H p v := by first | exact .inl ⟨_, _, rfl, by exact fget0N (f := iW) (l := blkN ws a k) (k := a.getD k 0) 0 hlt⟩ | exact .inr ⟨_, _, _, _, rfl, by exact get_app rfl hbX, by exact fget0N (f := iW) (l := blkN ws a k) (k := a.getD k 0) 0 hlt⟩) : vop T ρ H op = some (v, H) := v_ld ho ha hy hd h
theorem W1u {T : TypeId → Option VTy} {H : VHeap} {op : Op} {ρ : VEnv} {H' : VHeap} {t : TypeId} {a : Operand} {i : Nat} {v : VVal} {y : VTy} {b off : Nat} {cs new : List VVal} (ho : op = .store t a (.tmp i)) (hv : ρ[i]? = some v) (ha : ρ.eval a = .ptr (some (b, off))) (hy : T t = some y) (hx : v.cells = some new) (hn : new.length = y.size) (h1 : new.all VVal.one = true) (hb : H[b]? = some (.cells cs true) := by first | exact get_app rfl rfl | exact get_out (by assumption) | exact getE0 rfl rfl | exact get_out (get_app rfl rfl) | exact get_app rfl (by assumption) | assumption | (simp only [List.append_assoc, List.singleton_append, List.cons_append, List.nil_append]; refine getE (i := 0) rfl ?_ rfl; simp; done) | (simp only [List.append_assoc, List.singleton_append, List.cons_append, List.nil_append]; refine getE (i := 1) rfl ?_ rfl; simp; done) | (simp only [List.append_assoc, List.singleton_append, List.cons_append, List.nil_append]; refine getE (i := 2) rfl ?_ rfl; simp; done) | (simp only [List.append_assoc, List.singleton_append, List.cons_append, List.nil_append]; refine getE (i := 3) rfl ?_ rfl; simp; done) | (simp [*]; done)) (hl : off + new.length ≤ cs.length := by show 0 + ((a.getD k 0 : Nat) : Int).toNat * 1 + 1 ≤ (List.map iW (blkN ws a k)).length; rw [List.length_map]; omega) (hH : H.set b (.cells (splice cs off new) true) = H' := by exact (set_app rfl).trans (by show H ++ X.set b (VBlk.cells (splice ((blkN ws a k).map iW) (0 + ((a.getD k 0 : Nat) : Int).toNat * 1) [_]) true) = _; rw [Int.toNat_natCast, spl_w hlt])) : vop T ρ.eval H op = some (.skip, H') := v_storeT ho hv ha hy hx hn h1 hb hl hH
theorem hfull_spec {x : SW} {u : Int} {ws rs : VVal} (H : VHeap) (y : Nat) (g : Gz) (hs : H[y]? = some (gaB g)) (l : List (BitVec 64)) (t : BitVec 64) (hl : l.length ≤ 1000000) : F (psys x) 79 [huP u ws rs y, fzW l, iW t] H fun v G => v = .bool (fullB l t) ∧ G = H.set y (gaB (g + fuG l t)) := by
  by_cases h : l = []
  · subst h
    refine (hfull_0 H y g hs t).mono ?_
    rintro v G ⟨rfl, rfl⟩
    exact ⟨rfl, by rw [show fuG [] t = 0 from rfl, Gz.add_zero, ← set_keep hs]⟩
  · exact hfull_c H y g hs l t h hl
theorem hBlocks_spec {x : SW} {u : Int} {rs : VVal} {y : Nat} (H : VHeap) (ws : List (BitVec 64)) (a : List Nat) (ha : Pat a) (hw : a.length ≤ ws.length) (hn : ws.length ≤ 1000000) : F (psys x) 77 [huP u (fzW ws) rs y, fzN a] H fun v G => v = fzW (blkN ws a a.length) ∧ G = H := by
 refine F_body Tryd.func77 rfl u44 rfl ?_
 refine B_seq (B_region ?_)
 refine Lo u44 (v_const (VVal.slice none 0 0 true 0) (.inr rfl) rfl) ?_
 refine L_nil (K_seq (B_seq (B_region ?_)))
 refine Lo u44 (v_const (VVal.slice none 0 0 true 0) (.inr rfl) rfl) ?_
 refine L_nil (K_seq (B_seq (B_seq (B_region ?_))))
 refine Lo u44 (v_move (.inl rfl) rfl) ?_
 refine Lo u44 (rfl) ?_
 refine Lo u44 (v_const (VVal.int .i64 0) (.inl rfl) rfl) ?_
 refine L_nil (K_seq (B_block ?_))
 refine B_clear (mk 44 17592186042590) (env' := u44) rfl ?_
 refine B_loopE (fun (⟨k, lv⟩ : Nat × VVal) => a.length - k) (fun (⟨k, lv⟩ : Nat × VVal) => [(5, lv), (10, iI (k : Nat))]) (fun (⟨k, lv⟩ : Nat × VVal) G => (k ≤ a.length) ∧ ∃ X, G = H ++ X ∧ LV H.length 1 X lv ((blkN ws a k).map iW) (blkN ws a k).length) ⟨0, _⟩ rfl ?_ ?_
 ·refine ⟨?_, ⟨_, rfl, LV.nil _ _ _⟩⟩
  exact Nat.zero_le _
 rintro ⟨k, lv⟩ _ ⟨hk, ⟨X, rfl, hl⟩⟩
 refine B_env (env' := u44) rfl ?_
 refine B_seq (B_region ?_)
 refine Lo u44 (rfl) ?_
 refine L_nil (K_seq (B_seq ?_))
 refine B_cond _ rfl (fun hc1 => ?_) (fun hc1 => ?_)
 ·try simp only [qB, qN] at hc1
  refine B_skip (K_seq (B_seq (B_block (B_seq (B_region ?_)))))
  refine Lo u44 (v_move (.inl rfl) rfl) ?_
  refine Lo u44 (W18 rfl rfl rfl rfl rfl rfl rfl) ?_
  refine Lo u44 (W1r rfl rfl rfl rfl) ?_
  refine Lo u44 (v_move (.inr rfl) rfl) ?_
  refine Lo u44 (v_move (.inr rfl) rfl) ?_
  refine L_nil (K_seq (B_seq (B_region ?_)))
  refine Lo u44 (v_move (.inl rfl) rfl) ?_
  refine Lo u44 (v_move (.inl rfl) rfl) ?_
  refine Lo u44 (v_len rfl rfl rfl rfl hl) ?_
  refine Lo u44 (rfl) ?_
  refine L_nil (K_seq ?_)
  refine B_cond _ rfl (fun hc2 => ?_) (fun hc2 => ?_)
  ·try simp only [qB, qN] at hc2
   refine B_region ?_
   refine Lo u44 (v_move (.inl rfl) rfl) ?_
   refine Lo u44 (v_move (.inl rfl) rfl) ?_
   refine Lo u44 (rfl) ?_
   refine Lo u44 (rfl) ?_
   refine Lo u44 (W1r rfl rfl rfl rfl) ?_
   refine Lo u44 (v_move (.inl rfl) rfl) ?_
   refine Lo u44 (W18 rfl rfl rfl rfl rfl rfl rfl) ?_
   refine Lo u44 (W1r rfl rfl rfl rfl) ?_
   refine Lo u44 (v_buildSlice rfl rfl (by decide) rfl) ?_
   refine L_opX rfl rfl (v_appX rfl rfl rfl rfl rfl rfl rfl hl rfl rfl (by decide) (by have := @blkN_len ws a k; have := @szP_le a k; show (_ + 1) * 8 ≤ _ ∧ _ + 1 ≤ _; omega) (by decide)) ?_
   rintro _ _ ⟨Y1, rfl, rfl, hY1, hY2, hY3⟩
   refine Le u44 ?_
   refine Lo u44 (v_move (.inr rfl) rfl) ?_
   refine L_nil (K_blk (K_seq (B_region ?_)))
   refine Lo u44 (W14 rfl rfl rfl) ?_
   refine Lo u44 (v_move (.inl rfl) rfl) ?_
   refine L_nil ?_
   refine K_loop (mk 44 17592186042590) (env' := u44) rfl ⟨⟨k + 1, _⟩, ?_, rfl, ?_⟩
   ·first | omega | (simp only []; omega)
   ·first | exact ⟨by omega, _, rfl, by rw [blkN_new (by assumption)]; exact LV.pushW hY3⟩ | exact ⟨by omega, _, rfl, by rw [blkN_old (by assumption), List.length_set]; exact LV.upW hl h0 (lt_of_get hbX) (by rw [List.length_set])⟩
  ·try simp only [qB, qN] at hc2
   have hak := ha k (by omega)
   have hbl := @blkN_len ws a k
   have hlt : a.getD k 0 < (blkN ws a k).length := by omega
   have h0 : 0 < (blkN ws a k).length := by omega
   obtain ⟨b, rfl, hbX⟩ := LV.pos hl h0
   refine B_draw [0, 1, 2, 3, 4, 5, 6, 7, 8, 9, 10, 11, 12, 13] #[0, 0, 3, 7, 0, 16, 48, 112, 0, 496, 1008, 2047, 4095, 8191] (by kernel_rfl) (by kernel_rfl) (by kernel_rfl) ?_
   refine Oo u44 .calm rfl (v_move (.inl rfl) rfl) ?_
   refine Oo u44 .calm rfl (v_move (.inl rfl) rfl) ?_
   refine Oo u44 .calm rfl (W18 rfl rfl rfl rfl rfl rfl rfl) ?_
   refine Oo u44 .look rfl (W1t rfl rfl rfl rfl) ?_
   refine Oo u44 .calm rfl (v_move (.inl rfl) rfl) ?_
   refine Oo u44 .calm rfl (rfl) ?_
   refine Oo u44 .calm rfl (rfl) ?_
   refine Oo u44 .look rfl (W1r rfl rfl rfl rfl) ?_
   refine Oo u44 .calm rfl (v_move (.inl rfl) rfl) ?_
   refine Oo u44 .calm rfl (W18 rfl rfl rfl rfl rfl rfl rfl) ?_
   refine Oo u44 .look rfl (W1r rfl rfl rfl rfl) ?_
   refine Oo u44 .calm rfl (v_andW rfl rfl rfl) ?_
   refine Oo u44 .calm rfl (W18 rfl rfl rfl rfl rfl rfl rfl) ?_
   refine Oo u44 .turn rfl (W1u rfl rfl rfl rfl rfl rfl rfl) ?_
   refine O_nil [] (by kernel_rfl) (trivial) ?_
   refine K_blk (K_seq (B_region ?_))
   refine Lo u44 (W14 rfl rfl rfl) ?_
   refine Lo u44 (v_move (.inl rfl) rfl) ?_
   refine L_nil ?_
   refine K_loop (mk 44 17592186042590) (env' := u44) rfl ⟨⟨k + 1, _⟩, ?_, rfl, ?_⟩
   ·first | omega | (simp only []; omega)
   ·first | exact ⟨by omega, _, rfl, by rw [blkN_new (by assumption)]; exact LV.pushW hY3⟩ | exact ⟨by omega, _, rfl, by rw [blkN_old (by assumption), List.length_set]; exact LV.upW hl h0 (lt_of_get hbX) (by rw [List.length_set])⟩
 ·try simp only [qB, qN] at hc1
  refine B_exit (K_seqX (K_loopX (K_blkX (K_seq (B_seq (B_region ?_))))))
  refine Lo u44 (v_move (.inl rfl) rfl) ?_
  refine Lo u44 (v_move (.inr rfl) rfl) ?_
  refine L_nil (K_seq (B_ret ?_))
  refine E_gh (.inr rfl) (vres_tmp rfl rfl) (Gh.ansLV (BaseOk.refl _) hl (mapW_under _ _)) ?_
  obtain rfl : k = a.length := by omega
  exact ⟨rfl, rfl⟩
end Go.Proofs.YtnbihdflnjpinaaDoor.VT

set_option autoImplicit false
set_option linter.unusedVariables false
set_option linter.unusedSimpArgs false
set_option maxHeartbeats 4000000
set_option maxRecDepth 100000
namespace Go.Proofs.YtnbihdflnjpinaaDoor.VT
open Go Go.V Go.RowKit
abbrev u9 {a0 a1 a2 a3 a4 a5 a6 a7 a8 : VVal} : VEnv := a0 :: a1 :: a2 :: a3 :: a4 :: a5 :: a6 :: a7 :: a8 :: []
abbrev u75 {a0 a1 a2 a3 a4 a5 a6 a7 a8 a9 a10 a11 a12 a13 a14 a15 a16 a17 a18 a19 a20 a21 a22 a23 a24 a25 a26 a27 a28 a29 a30 a31 a32 a33 a34 a35 a36 a37 a38 a39 a40 a41 a42 a43 a44 a45 a46 a47 a48 a49 a50 a51 a52 a53 a54 a55 a56 a57 a58 a59 a60 a61 a62 a63 a64 a65 a66 a67 a68 a69 a70 a71 a72 a73 a74 : VVal} : VEnv := a0 :: a1 :: a2 :: a3 :: a4 :: a5 :: a6 :: a7 :: a8 :: a9 :: a10 :: a11 :: a12 :: a13 :: a14 :: a15 :: a16 :: a17 :: a18 :: a19 :: a20 :: a21 :: a22 :: a23 :: a24 :: a25 :: a26 :: a27 :: a28 :: a29 :: a30 :: a31 :: a32 :: a33 :: a34 :: a35 :: a36 :: a37 :: a38 :: a39 :: a40 :: a41 :: a42 :: a43 :: a44 :: a45 :: a46 :: a47 :: a48 :: a49 :: a50 :: a51 :: a52 :: a53 :: a54 :: a55 :: a56 :: a57 :: a58 :: a59 :: a60 :: a61 :: a62 :: a63 :: a64 :: a65 :: a66 :: a67 :: a68 :: a69 :: a70 :: a71 :: a72 :: a73 :: a74 :: []
theorem W1w {P : Prop} (h : P := by first | (exfalso; omega) | exact ⟨by rw [rcE_1 (rck_fit (by first | assumption | omega))], rfl⟩ | exact ⟨by rw [rcE_1 (rck_rise (rise_bad (k := k) (by omega) (by first | exact .inl (by assumption) | exact .inr (by assumption) | omega)))], rfl⟩ | exact ⟨by rw [rcE_1 (rck_knd (by first | exact knd_d (by omega) | exact (knd_a (by omega)).trans (decide_eq_false (by omega)) | exact (knd_b (by omega)).trans (decide_eq_false (by omega)) | exact (knd_c (by omega)).trans (decide_eq_false (by omega))))], rfl⟩ | exact ⟨by rw [rcE_0 (rck_ok (by omega) hrs (by first | exact (knd_a (by omega)).trans (decide_eq_true (by omega)) | exact (knd_b (by omega)).trans (decide_eq_true (by omega)) | exact (knd_c (by omega)).trans (decide_eq_true (by omega))))], rfl⟩) : P := h
abbrev rlB (r : Rul) : List VVal := [iI r.kind, iI r.k, fzI r.steps]
abbrev r0 : Rul := (0, 0, [], ())
def fzR (l : List Rul) : VVal := .fsl (l.flatMap rlB) l.length 3 false
abbrev pbB (p : Pb) : List VVal := [iI p.users, fzW p.who, fzI p.fixed, fzR p.rules]
theorem rul_at {l : List Rul} {n : Int} (h : 0 ≤ n ∧ n < l.length) : cellsAt (l.flatMap rlB) (n.toNat * 3) 3 = some (rlB (l.getD n.toNat r0)) := fm_nat (f := rlB) (m := 3) (fun _ => rfl) l n.toNat r0 (by omega)
theorem rise_ok {n : Int} {l : List Int} {k : Nat} (hk : k < l.length) (h1 : rise n (l.take k) = true) (h2 : lst1 (-1) (l.take k) < l.getD k 0) (h3 : l.getD k 0 < n) : rise n (l.take (k + 1)) = true := by
  rw [take_at (d := 0) hk, rise, riseA_app, show riseA n (-1) (l.take k) = true from h1, Bool.true_and, decide_eq_true_eq]; omega
theorem rise_bad {n : Int} {l : List Int} {k : Nat} (hk : k < l.length) (h : l.getD k 0 ≤ lst1 (-1) (l.take k) ∨ n ≤ l.getD k 0) : rise n l = false := by
  have e : l = l.take (k + 1) ++ l.drop (k + 1) := (List.take_append_drop _ _).symm
  rw [e, rise, riseA_split, take_at hk, riseA_app]
  rw [show decide (lst1 (-1) (l.take k) < l.getD k 0 ∧ l.getD k 0 < n) = false from decide_eq_false (by omega), Bool.and_false, Bool.false_and]
theorem rise_last {l : List Int} {k : Nat} (hk : k < l.length) : lst1 (-1) (l.take (k + 1)) = l.getD k 0 := by rw [take_at (d := 0) hk, lst1_app]
abbrev rcE (n : Int) (r : Rul) : Int := if rck n r = true then 0 else 1
theorem rck_fit {n : Int} {r : Rul} (h : ¬ (0 ≤ n ∧ n ≤ 12)) : rck n r = false := by unfold rck; rw [decide_eq_false h, Bool.false_and]
theorem rck_rise {n : Int} {r : Rul} (h : rise n r.steps = false) : rck n r = false := by unfold rck; rw [h, Bool.false_and, Bool.and_false]
theorem rck_knd {n : Int} {r : Rul} (h : knd r = false) : rck n r = false := by unfold rck; rw [h, Bool.and_false, Bool.and_false]
theorem rck_ok {n : Int} {r : Rul} (h : 0 ≤ n ∧ n ≤ 12) (h2 : rise n r.steps = true) (h3 : knd r = true) : rck n r = true := by unfold rck; rw [decide_eq_true h, h2, h3]; rfl
theorem rcE_0 {n : Int} {r : Rul} (h : rck n r = true) : rcE n r = 0 := if_pos h
theorem rcE_1 {n : Int} {r : Rul} (h : rck n r = false) : rcE n r = 1 := if_neg (by rw [h]; decide)
theorem knd_a {r : Rul} (h : r.kind = 1 ∨ r.kind = 2) : knd r = decide (r.k = 0 ∧ 2 ≤ r.steps.length) := if_pos h
theorem knd_b {r : Rul} (h : r.kind = 3 ∨ r.kind = 4) : knd r = decide ((1 ≤ r.k ∧ r.k ≤ 999999999) ∧ 1 ≤ r.steps.length) := by unfold knd; rw [if_neg (by omega), if_pos h]
theorem knd_c {r : Rul} (h : r.kind = 5) : knd r = decide (1 ≤ r.k ∧ r.k ≤ r.steps.length) := by unfold knd; rw [if_neg (by omega), if_neg (by omega), if_pos h]
theorem knd_d {r : Rul} (h : ¬ (1 ≤ r.kind ∧ r.kind ≤ 5)) : knd r = false := by unfold knd; rw [if_neg (by omega), if_neg (by omega), if_neg (by omega)]
def ds (L : List Int) : List Int := L.foldl (fun d x => if x ∈ d then d else d ++ [x]) []
theorem ds_app {L : List Int} {x : Int} : ds (L ++ [x]) = if x ∈ ds L then ds L else ds L ++ [x] := by unfold ds; rw [List.foldl_append]; rfl
theorem mem_ds {x : Int} (L : List Int) : x ∈ ds L ↔ x ∈ L := by
  refine rev_ind (P := fun L => ∀ x, x ∈ ds L ↔ x ∈ L) (fun x => Iff.rfl) (fun L y ih x => ?_) L x
  rw [ds_app]
  split
  · rename_i h
    rw [ih, List.mem_append, List.mem_singleton]
    constructor
    · exact .inl
    · rintro (h' | rfl)
      · exact h'
      · exact (ih _).1 h
  · rw [List.mem_append, List.mem_append, ih]
theorem nd_ds (L : List Int) : (ds L).Nodup := by
  refine rev_ind (P := fun L => (ds L).Nodup) List.nodup_nil (fun L y ih => ?_) L
  rw [ds_app]
  split
  · exact ih
  · rename_i h
    rw [List.nodup_append]
    exact ⟨ih, by simp, fun a ha b hb e => h (by rw [List.mem_singleton] at hb; subst hb; subst e; exact ha)⟩
theorem len_ds (L : List Int) : (ds L).length = uq L := by
  refine rev_ind (P := fun L => (ds L).length = uq L) rfl (fun L y ih => ?_) L
  rw [ds_app, uq_app, ← ih]
  by_cases h : y ∈ L
  · rw [if_pos ((mem_ds L).2 h), if_pos h]; rfl
  · rw [if_neg (fun e => h ((mem_ds L).1 e)), if_neg h, List.length_append]; rfl
def cnM (L : List Int) : List (VVal × VVal) := (ds L).map fun y => (iI y, iI (L.count y : Nat))
theorem cnM_len (L : List Int) : (cnM L).length = uq L := by unfold cnM; rw [List.length_map, len_ds]
theorem mget_map {x : Int} {f : Int → VVal} : ∀ d : List Int, mget (iI x) (d.map fun y => (iI y, f y)) = some (if x ∈ d then some (f x) else none)
  | [] => rfl
  | y :: d => by
    rw [List.map_cons]
    simp only [mget, keyEq, if_true]
    by_cases e : x = y
    · subst e; simp
    · rw [show (x == y) = false from by simp [e], mget_map d]
      simp [e]
theorem mput_map {x : Int} {v : VVal} {f : Int → VVal} : ∀ d : List Int, d.Nodup → mput (iI x) v (d.map fun y => (iI y, f y)) = (if x ∈ d then d else d ++ [x]).map fun y => (iI y, if y = x then v else f y)
  | [], _ => by simp [mput]
  | y :: d, h => by
    rw [List.nodup_cons] at h
    rw [List.map_cons]
    simp only [mput, keyEq, if_true]
    by_cases e : x = y
    · subst e
      have : (d.map fun y => (iI y, f y)) = d.map fun y => (iI y, if y = x then v else f y) := List.map_congr_left fun y hy => by rw [if_neg (fun e => h.1 (by rw [← e]; exact hy))]
      simp [this]
    · rw [show (x == y) = false from by simp [e], mput_map d h.2]
      have e' : ¬ y = x := fun k => e k.symm
      by_cases hd : x ∈ d <;> simp [hd, e, e']
theorem cn_get {L : List Int} {x : Int} : mget (iI x) (cnM L) = some (if x ∈ L then some (iI (L.count x : Nat)) else none) := by
  unfold cnM; rw [mget_map]
  by_cases h : x ∈ L
  · rw [if_pos h, if_pos ((mem_ds L).2 h)]
  · rw [if_neg h, if_neg (fun e => h ((mem_ds L).1 e))]
theorem cn_get' {L : List Int} {x : Int} : ((if x ∈ L then some (iI (L.count x : Nat)) else none).getD (iI 0)) = iI (L.count x : Nat) := by
  by_cases h : x ∈ L
  · rw [if_pos h]; rfl
  · rw [if_neg h, List.count_eq_zero.2 h]; rfl
theorem cn_put {L : List Int} {x : Int} : mput (iI x) (iI ((L.count x : Nat) + 1)) (cnM L) = cnM (L ++ [x]) := by
  unfold cnM
  rw [mput_map _ (nd_ds L), ds_app]
  apply List.map_congr_left
  intro y hy
  rw [List.count_append, List.count_singleton]
  by_cases e : y = x
  · subst e; simp
  · rw [if_neg e]
    have e' : ¬ x = y := fun k => e k.symm
    simp [e']
theorem v_lookI {T : TypeId → Option VTy} {ρ : Operand → VVal} {H : VHeap} {op : Op} {t kt et : TypeId} {x k : Operand} {y z kz : VTy} {b : Nat} {n : Int} {es : List (VVal × VVal)} {o : Option VVal} {u : VVal} (ho : op = .lookup t x k false) (hx : ρ x = .map (some b)) (hk : ρ k = iI n) (hy : T t = some y) (hd : y.desc = .map kt et) (hz : T et = some z) (hk1 : T kt = some kz) (hk2 : kz.desc = .int .i64) (ha : isAggDesc z.desc = false) (hz0 : z.zero = [iI 0])
    (hb : H[b]? = some (.map es)) (hg : mget (iI n) es = some o) (hu : o.getD (iI 0) = u) : vop T ρ H op = some (u, H) := by
  rw [ho]
  simp only [vop, vlookup, hx, hk, hy, hd, hz, hb, keyOk, hk1, hk2, hz0, ha]
  rw [if_pos ⟨by rfl, .inr rfl⟩]
  rw [hg, ← hu]
  cases o <;> rfl
theorem v_mupdI {T : TypeId → Option VTy} {ρ : Operand → VVal} {H H' : VHeap} {op : Op} {t kt et : TypeId} {x k w : Operand} {y kz : VTy} {b : Nat} {n : Int} {es : List (VVal × VVal)} {o : Option VVal} {v : VVal} (ho : op = .mapUpdate t x k w) (hx : ρ x = .map (some b)) (hk : ρ k = iI n) (hw : ρ w = v) (hy : T t = some y) (hd : y.desc = .map kt et) (hk1 : T kt = some kz) (hk2 : kz.desc = .int .i64)
    (hb : H[b]? = some (.map es)) (hg : mget (iI n) es = some o) (hH : H.set b (.map (mput (iI n) v es)) = H') : vop T ρ H op = some (.skip, H') := by
  rw [ho]
  simp only [vop, vmapUpdate, hx, hk, hw, hy, hd, hb, keyOk, hk1, hk2]
  rw [if_pos (by rfl), hg]
  simp [hH]
theorem rfits_spec {x : SW} (H : VHeap) (n : Int) : F (psys x) 70 [iI n] H fun v G => v = .bool (decide (0 ≤ n ∧ n ≤ 12)) ∧ G = H := by
 refine F_body Tryd.func70 rfl u9 rfl ?_
 refine B_seq (B_region ?_)
 refine Lo u9 (v_const (VVal.bool false) (.inr rfl) rfl) ?_
 refine L_nil (K_seq (B_seq (B_region ?_)))
 refine Lo u9 (v_move (.inl rfl) rfl) ?_
 refine Lo u9 (rfl) ?_
 refine Lo u9 (v_move (.inl rfl) rfl) ?_
 refine L_split 5 (env1 := u9) (env2 := u9) rfl rfl rfl (fun hg1 => ?_) (fun hg1 => ?_)
 ·try simp only [qB] at hg1
  refine Lo u9 (v_move (.inl rfl) rfl) ?_
  refine Lo u9 (rfl) ?_
  refine Lo u9 (v_pickT rfl rfl rfl) ?_
  refine Lo u9 (v_move (.inr rfl) rfl) ?_
  refine L_nil (K_seq (B_ret ?_))
  refine W10 (.inr rfl) (vres_tmp rfl rfl) ?_
  exact ⟨by simp [*]; try omega, rfl⟩
 ·try simp only [qB] at hg1
  refine Lf u9 ?_
  refine Lf u9 ?_
  refine Lo u9 (v_pickFC (VVal.bool false) rfl rfl rfl) ?_
  refine Lo u9 (v_move (.inr rfl) rfl) ?_
  refine L_nil (K_seq (B_ret ?_))
  refine W10 (.inr rfl) (vres_tmp rfl rfl) ?_
  exact ⟨by simp [*]; try omega, rfl⟩
theorem rCheck_spec {x : SW} (H : VHeap) (n : Int) (r : Rul) (hl : r.steps.length ≤ 1000000) : F (psys x) 44 [iI n, .agg (rlB r)] H fun v G => v = iI (rcE n r) ∧ G = H := by
 refine F_body Tryd.func44 rfl u75 rfl ?_
 refine B_seq (B_region ?_)
 refine Lo u75 (v_boxT rfl rfl rfl) ?_
 refine Lo u75 (v_const (VVal.int .i64 0) (.inr rfl) rfl) ?_
 refine L_nil (K_seq (B_seq (B_seq (B_region ?_))))
 refine Lo u75 (v_move (.inl rfl) rfl) ?_
 refine L_call rfl rfl rfl (by exact rfits_spec _ _) ?_
 rintro _ _ ⟨rfl, rfl⟩
 refine Le u75 ?_
 refine Lo u75 (rfl) ?_
 refine L_nil (K_seq ?_)
 refine B_cond _ rfl (fun hc1 => ?_) (fun hc1 => ?_)
 ·try simp only [qB] at hc1
  refine B_seq (B_region ?_)
  refine Lo u75 (v_const (VVal.int .i64 1) (.inr rfl) rfl) ?_
  refine L_nil (K_seq (B_ret (K_seqR ?_)))
  refine W10 (.inr rfl) (vres_tmp rfl rfl) ?_
  exact W1w
 ·try simp only [qB] at hc1
  refine B_skip (K_seq (B_seq (B_region ?_)))
  refine Lo u75 (v_const (VVal.int .i64 (-1)) (.inr rfl) rfl) ?_
  refine L_nil (K_seq (B_seq (B_seq (B_region ?_))))
  refine Lo u75 (rfl) ?_
  refine Lo u75 (W12 rfl rfl rfl rfl) ?_
  refine Lo u75 (rfl) ?_
  refine Lo u75 (v_const (VVal.int .i64 0) (.inl rfl) rfl) ?_
  refine L_nil (K_seq (B_block ?_))
  refine B_clear (mk 75 37778931862957161652182) (env' := u75) rfl ?_
  refine B_loopE (fun (k : Nat) => r.steps.length - k) (fun (k : Nat) => [(5, iI (lst1 (-1) (r.steps.take k))), (15, iI (k : Nat))]) (fun (k : Nat) G => (k ≤ r.steps.length ∧ rise n (r.steps.take k) = true) ∧ G = H ++ [.cells (rlB r) true]) 0 rfl ?_ ?_
  ·refine ⟨?_, rfl⟩
   exact ⟨Nat.zero_le _, rfl⟩
  rintro k _ ⟨⟨hk, hr⟩, rfl⟩
  refine B_env (env' := u75) rfl ?_
  refine B_seq (B_region ?_)
  refine Lo u75 (rfl) ?_
  refine L_nil (K_seq (B_seq ?_))
  refine B_cond _ rfl (fun hc2 => ?_) (fun hc2 => ?_)
  ·try simp only [qB] at hc2
   refine B_skip (K_seq (B_seq (B_block (B_seq (B_region ?_)))))
   refine Lo u75 (W18 rfl rfl rfl rfl rfl rfl rfl) ?_
   refine Lo u75 (W12 rfl rfl rfl rfl) ?_
   refine Lo u75 (v_move (.inr rfl) rfl) ?_
   refine L_nil (K_seq (B_seq (B_seq (B_region ?_))))
   refine Lo u75 (v_move (.inl rfl) rfl) ?_
   refine Lo u75 (v_move (.inl rfl) rfl) ?_
   refine Lo u75 (rfl) ?_
   refine Lo u75 (v_move (.inl rfl) rfl) ?_
   refine L_split 22 (env1 := u75) (env2 := u75) rfl rfl rfl (fun hg3 => ?_) (fun hg3 => ?_)
   ·try simp only [qB] at hg3
    refine Lf u75 ?_
    refine Lf u75 ?_
    refine Lf u75 ?_
    refine Lo u75 (v_pickTC (VVal.bool true) rfl rfl rfl) ?_
    refine L_nil (K_seq ?_)
    refine B_true rfl rfl ?_
    refine B_seq (B_region ?_)
    refine Lo u75 (v_const (VVal.int .i64 1) (.inr rfl) rfl) ?_
    refine L_nil (K_seq (B_ret (K_seqR (K_blkR (K_seqR (K_loopR (K_blkR (K_seqR ?_))))))))
    refine W10 (.inr rfl) (vres_tmp rfl rfl) ?_
    exact W1w
   ·try simp only [qB] at hg3
    refine Lo u75 (v_move (.inl rfl) rfl) ?_
    refine Lo u75 (v_move (.inl rfl) rfl) ?_
    refine Lo u75 (rfl) ?_
    refine Lo u75 (v_pickF rfl rfl rfl) ?_
    refine L_nil (K_seq ?_)
    refine B_cond _ rfl (fun hc4 => ?_) (fun hc4 => ?_)
    ·try simp only [qB] at hc4
     refine B_seq (B_region ?_)
     refine Lo u75 (v_const (VVal.int .i64 1) (.inr rfl) rfl) ?_
     refine L_nil (K_seq (B_ret (K_seqR (K_blkR (K_seqR (K_loopR (K_blkR (K_seqR ?_))))))))
     refine W10 (.inr rfl) (vres_tmp rfl rfl) ?_
     exact W1w
    ·try simp only [qB] at hc4
     refine B_skip (K_seq (B_region ?_))
     refine Lo u75 (v_move (.inl rfl) rfl) ?_
     refine Lo u75 (v_move (.inr rfl) rfl) ?_
     refine L_nil (K_blk (K_seq (B_region ?_)))
     refine Lo u75 (W14 rfl rfl rfl) ?_
     refine Lo u75 (v_move (.inl rfl) rfl) ?_
     refine L_nil ?_
     refine K_loop (mk 75 37778931862957161652182) (env' := u75) rfl ⟨k + 1, ?_, (by rw [rise_last (by omega)]; rfl), ?_⟩
     ·first | omega | (simp only []; omega)
     ·exact ⟨⟨by omega, rise_ok (by omega) hr hg3 hc4⟩, rfl⟩
  ·try simp only [qB] at hc2
   refine B_exit (K_seqX (K_loopX (K_blkX (K_seq (B_seq ?_)))))
   have hrs : rise n r.steps = true := by rw [List.take_of_length_le (by omega)] at hr; exact hr
   refine B_region ?_
   refine Lo u75 (v_const (VVal.bool false) (.inr rfl) rfl) ?_
   refine L_nil (K_seq (B_seq (B_seq (B_region ?_))))
   refine Lo u75 (rfl) ?_
   refine Lo u75 (W12 rfl rfl rfl rfl) ?_
   refine L_nil (K_seq (B_block (B_seq (B_seq (B_region ?_)))))
   refine Lo u75 (rfl) ?_
   refine Lo u75 (v_move (.inr rfl) rfl) ?_
   refine L_nil (K_seq ?_)
   refine B_cond _ rfl (fun hc5 => ?_) (fun hc5 => ?_)
   ·try simp only [qB] at hc5
    refine B_skip (K_seq ?_)
    refine B_cond _ rfl (fun hc6 => ?_) (fun hc6 => ?_)
    ·try simp only [qB] at hc6
     refine B_region ?_
     refine Lo u75 (rfl) ?_
     refine Lo u75 (W12 rfl rfl rfl rfl) ?_
     refine Lo u75 (rfl) ?_
     refine Lo u75 (v_move (.inl rfl) rfl) ?_
     refine L_split 37 (env1 := u75) (env2 := u75) rfl rfl rfl (fun hg7 => ?_) (fun hg7 => ?_)
     ·try simp only [qB] at hg7
      refine Lo u75 (rfl) ?_
      refine Lo u75 (W12 rfl rfl rfl rfl) ?_
      refine Lo u75 (rfl) ?_
      refine Lo u75 (rfl) ?_
      refine Lo u75 (v_pickT rfl rfl rfl) ?_
      refine Lo u75 (v_move (.inr rfl) rfl) ?_
      refine L_nil (K_blk (K_seq (B_seq (B_seq (B_region ?_)))))
      refine Lo u75 (v_move (.inl rfl) rfl) ?_
      refine Lo u75 (rfl) ?_
      refine L_nil (K_seq ?_)
      refine B_cond _ rfl (fun hc8 => ?_) (fun hc8 => ?_)
      ·try simp only [qB] at hc8
       refine B_seq (B_region ?_)
       refine Lo u75 (v_const (VVal.int .i64 1) (.inr rfl) rfl) ?_
       refine L_nil (K_seq (B_ret (K_seqR ?_)))
       refine W10 (.inr rfl) (vres_tmp rfl rfl) ?_
       exact W1w
      ·try simp only [qB] at hc8
       refine B_skip (K_seq (B_seq (B_region ?_)))
       refine Lo u75 (v_const (VVal.int .i64 0) (.inr rfl) rfl) ?_
       refine L_nil (K_seq (B_ret ?_))
       refine W10 (.inr rfl) (vres_tmp rfl rfl) ?_
       exact W1w
     ·try simp only [qB] at hg7
      refine Lf u75 ?_
      refine Lf u75 ?_
      refine Lf u75 ?_
      refine Lf u75 ?_
      refine Lo u75 (v_pickFC (VVal.bool false) rfl rfl rfl) ?_
      refine Lo u75 (v_move (.inr rfl) rfl) ?_
      refine L_nil (K_blk (K_seq (B_seq (B_seq (B_region ?_)))))
      refine Lo u75 (v_move (.inl rfl) rfl) ?_
      refine Lo u75 (rfl) ?_
      refine L_nil (K_seq ?_)
      refine B_true rfl rfl ?_
      refine B_seq (B_region ?_)
      refine Lo u75 (v_const (VVal.int .i64 1) (.inr rfl) rfl) ?_
      refine L_nil (K_seq (B_ret (K_seqR ?_)))
      refine W10 (.inr rfl) (vres_tmp rfl rfl) ?_
      exact W1w
    ·try simp only [qB] at hc6
     refine B_seq (B_seq (B_region ?_))
     refine Lo u75 (rfl) ?_
     refine Lo u75 (v_move (.inr rfl) rfl) ?_
     refine L_nil (K_seq ?_)
     refine B_cond _ rfl (fun hc9 => ?_) (fun hc9 => ?_)
     ·try simp only [qB] at hc9
      refine B_skip (K_seq ?_)
      refine B_cond _ rfl (fun hc10 => ?_) (fun hc10 => ?_)
      ·try simp only [qB] at hc10
       refine B_region ?_
       refine Lo u75 (rfl) ?_
       refine Lo u75 (W12 rfl rfl rfl rfl) ?_
       refine Lo u75 (rfl) ?_
       refine Lo u75 (v_move (.inl rfl) rfl) ?_
       refine L_split 49 (env1 := u75) (env2 := u75) rfl rfl rfl (fun hg11 => ?_) (fun hg11 => ?_)
       ·try simp only [qB] at hg11
        refine Lo u75 (rfl) ?_
        refine Lo u75 (W12 rfl rfl rfl rfl) ?_
        refine Lo u75 (rfl) ?_
        refine Lo u75 (v_pickT rfl rfl rfl) ?_
        refine Lo u75 (v_move (.inl rfl) rfl) ?_
        refine L_split 54 (env1 := u75) (env2 := u75) rfl rfl rfl (fun hg12 => ?_) (fun hg12 => ?_)
        ·try simp only [qB] at hg12
         refine Lo u75 (rfl) ?_
         refine Lo u75 (W12 rfl rfl rfl rfl) ?_
         refine Lo u75 (rfl) ?_
         refine Lo u75 (rfl) ?_
         refine Lo u75 (v_pickT rfl rfl rfl) ?_
         refine Lo u75 (v_move (.inr rfl) rfl) ?_
         refine L_nil (K_blk (K_seq (B_seq (B_seq (B_region ?_)))))
         refine Lo u75 (v_move (.inl rfl) rfl) ?_
         refine Lo u75 (rfl) ?_
         refine L_nil (K_seq ?_)
         refine B_cond _ rfl (fun hc13 => ?_) (fun hc13 => ?_)
         ·try simp only [qB] at hc13
          refine B_seq (B_region ?_)
          refine Lo u75 (v_const (VVal.int .i64 1) (.inr rfl) rfl) ?_
          refine L_nil (K_seq (B_ret (K_seqR ?_)))
          refine W10 (.inr rfl) (vres_tmp rfl rfl) ?_
          exact W1w
         ·try simp only [qB] at hc13
          refine B_skip (K_seq (B_seq (B_region ?_)))
          refine Lo u75 (v_const (VVal.int .i64 0) (.inr rfl) rfl) ?_
          refine L_nil (K_seq (B_ret ?_))
          refine W10 (.inr rfl) (vres_tmp rfl rfl) ?_
          exact W1w
        ·try simp only [qB] at hg12
         refine Lf u75 ?_
         refine Lf u75 ?_
         refine Lf u75 ?_
         refine Lf u75 ?_
         refine Lo u75 (v_pickFC (VVal.bool false) rfl rfl rfl) ?_
         refine Lo u75 (v_move (.inr rfl) rfl) ?_
         refine L_nil (K_blk (K_seq (B_seq (B_seq (B_region ?_)))))
         refine Lo u75 (v_move (.inl rfl) rfl) ?_
         refine Lo u75 (rfl) ?_
         refine L_nil (K_seq ?_)
         refine B_true rfl rfl ?_
         refine B_seq (B_region ?_)
         refine Lo u75 (v_const (VVal.int .i64 1) (.inr rfl) rfl) ?_
         refine L_nil (K_seq (B_ret (K_seqR ?_)))
         refine W10 (.inr rfl) (vres_tmp rfl rfl) ?_
         exact W1w
       ·try simp only [qB] at hg11
        refine Lf u75 ?_
        refine Lf u75 ?_
        refine Lf u75 ?_
        refine Lo u75 (v_pickFC (VVal.bool false) rfl rfl rfl) ?_
        refine Lo u75 (v_move (.inl rfl) rfl) ?_
        refine Lf u75 ?_
        refine Lf u75 ?_
        refine Lf u75 ?_
        refine Lf u75 ?_
        refine Lo u75 (v_pickFC (VVal.bool false) rfl rfl rfl) ?_
        refine Lo u75 (v_move (.inr rfl) rfl) ?_
        refine L_nil (K_blk (K_seq (B_seq (B_seq (B_region ?_)))))
        refine Lo u75 (v_move (.inl rfl) rfl) ?_
        refine Lo u75 (rfl) ?_
        refine L_nil (K_seq ?_)
        refine B_true rfl rfl ?_
        refine B_seq (B_region ?_)
        refine Lo u75 (v_const (VVal.int .i64 1) (.inr rfl) rfl) ?_
        refine L_nil (K_seq (B_ret (K_seqR ?_)))
        refine W10 (.inr rfl) (vres_tmp rfl rfl) ?_
        exact W1w
      ·try simp only [qB] at hc10
       refine B_seq (B_region ?_)
       refine Lo u75 (rfl) ?_
       refine Lo u75 (v_move (.inr rfl) rfl) ?_
       refine L_nil (K_seq ?_)
       refine B_cond _ rfl (fun hc14 => ?_) (fun hc14 => ?_)
       ·try simp only [qB] at hc14
        refine B_region ?_
        refine Lo u75 (rfl) ?_
        refine Lo u75 (W12 rfl rfl rfl rfl) ?_
        refine Lo u75 (rfl) ?_
        refine Lo u75 (v_move (.inl rfl) rfl) ?_
        refine L_split 65 (env1 := u75) (env2 := u75) rfl rfl rfl (fun hg15 => ?_) (fun hg15 => ?_)
        ·try simp only [qB] at hg15
         refine Lo u75 (rfl) ?_
         refine Lo u75 (W12 rfl rfl rfl rfl) ?_
         refine Lo u75 (rfl) ?_
         refine Lo u75 (W12 rfl rfl rfl rfl) ?_
         refine Lo u75 (rfl) ?_
         refine Lo u75 (rfl) ?_
         refine Lo u75 (v_pickT rfl rfl rfl) ?_
         refine Lo u75 (v_move (.inr rfl) rfl) ?_
         refine L_nil (K_blk (K_seq (B_seq (B_seq (B_region ?_)))))
         refine Lo u75 (v_move (.inl rfl) rfl) ?_
         refine Lo u75 (rfl) ?_
         refine L_nil (K_seq ?_)
         refine B_cond _ rfl (fun hc16 => ?_) (fun hc16 => ?_)
         ·try simp only [qB] at hc16
          refine B_seq (B_region ?_)
          refine Lo u75 (v_const (VVal.int .i64 1) (.inr rfl) rfl) ?_
          refine L_nil (K_seq (B_ret (K_seqR ?_)))
          refine W10 (.inr rfl) (vres_tmp rfl rfl) ?_
          exact W1w
         ·try simp only [qB] at hc16
          refine B_skip (K_seq (B_seq (B_region ?_)))
          refine Lo u75 (v_const (VVal.int .i64 0) (.inr rfl) rfl) ?_
          refine L_nil (K_seq (B_ret ?_))
          refine W10 (.inr rfl) (vres_tmp rfl rfl) ?_
          exact W1w
        ·try simp only [qB] at hg15
         refine Lf u75 ?_
         refine Lf u75 ?_
         refine Lf u75 ?_
         refine Lf u75 ?_
         refine Lf u75 ?_
         refine Lf u75 ?_
         refine Lo u75 (v_pickFC (VVal.bool false) rfl rfl rfl) ?_
         refine Lo u75 (v_move (.inr rfl) rfl) ?_
         refine L_nil (K_blk (K_seq (B_seq (B_seq (B_region ?_)))))
         refine Lo u75 (v_move (.inl rfl) rfl) ?_
         refine Lo u75 (rfl) ?_
         refine L_nil (K_seq ?_)
         refine B_true rfl rfl ?_
         refine B_seq (B_region ?_)
         refine Lo u75 (v_const (VVal.int .i64 1) (.inr rfl) rfl) ?_
         refine L_nil (K_seq (B_ret (K_seqR ?_)))
         refine W10 (.inr rfl) (vres_tmp rfl rfl) ?_
         exact W1w
       ·try simp only [qB] at hc14
        refine B_skip (K_blk (K_seq (B_seq (B_seq (B_region ?_)))))
        refine Lo u75 (v_move (.inl rfl) rfl) ?_
        refine Lo u75 (rfl) ?_
        refine L_nil (K_seq ?_)
        refine B_true rfl rfl ?_
        refine B_seq (B_region ?_)
        refine Lo u75 (v_const (VVal.int .i64 1) (.inr rfl) rfl) ?_
        refine L_nil (K_seq (B_ret (K_seqR ?_)))
        refine W10 (.inr rfl) (vres_tmp rfl rfl) ?_
        exact W1w
     ·try simp only [qB] at hc9
      refine B_region ?_
      refine Lo u75 (rfl) ?_
      refine Lo u75 (v_move (.inr rfl) rfl) ?_
      refine L_nil (K_seq ?_)
      refine B_cond _ rfl (fun hc17 => ?_) (fun hc17 => ?_)
      ·try simp only [qB] at hc17
       refine B_region ?_
       refine Lo u75 (rfl) ?_
       refine Lo u75 (W12 rfl rfl rfl rfl) ?_
       refine Lo u75 (rfl) ?_
       refine Lo u75 (v_move (.inl rfl) rfl) ?_
       refine L_split 49 (env1 := u75) (env2 := u75) rfl rfl rfl (fun hg18 => ?_) (fun hg18 => ?_)
       ·try simp only [qB] at hg18
        refine Lo u75 (rfl) ?_
        refine Lo u75 (W12 rfl rfl rfl rfl) ?_
        refine Lo u75 (rfl) ?_
        refine Lo u75 (v_pickT rfl rfl rfl) ?_
        refine Lo u75 (v_move (.inl rfl) rfl) ?_
        refine L_split 54 (env1 := u75) (env2 := u75) rfl rfl rfl (fun hg19 => ?_) (fun hg19 => ?_)
        ·try simp only [qB] at hg19
         refine Lo u75 (rfl) ?_
         refine Lo u75 (W12 rfl rfl rfl rfl) ?_
         refine Lo u75 (rfl) ?_
         refine Lo u75 (rfl) ?_
         refine Lo u75 (v_pickT rfl rfl rfl) ?_
         refine Lo u75 (v_move (.inr rfl) rfl) ?_
         refine L_nil (K_blk (K_seq (B_seq (B_seq (B_region ?_)))))
         refine Lo u75 (v_move (.inl rfl) rfl) ?_
         refine Lo u75 (rfl) ?_
         refine L_nil (K_seq ?_)
         refine B_cond _ rfl (fun hc20 => ?_) (fun hc20 => ?_)
         ·try simp only [qB] at hc20
          refine B_seq (B_region ?_)
          refine Lo u75 (v_const (VVal.int .i64 1) (.inr rfl) rfl) ?_
          refine L_nil (K_seq (B_ret (K_seqR ?_)))
          refine W10 (.inr rfl) (vres_tmp rfl rfl) ?_
          exact W1w
         ·try simp only [qB] at hc20
          refine B_skip (K_seq (B_seq (B_region ?_)))
          refine Lo u75 (v_const (VVal.int .i64 0) (.inr rfl) rfl) ?_
          refine L_nil (K_seq (B_ret ?_))
          refine W10 (.inr rfl) (vres_tmp rfl rfl) ?_
          exact W1w
        ·try simp only [qB] at hg19
         refine Lf u75 ?_
         refine Lf u75 ?_
         refine Lf u75 ?_
         refine Lf u75 ?_
         refine Lo u75 (v_pickFC (VVal.bool false) rfl rfl rfl) ?_
         refine Lo u75 (v_move (.inr rfl) rfl) ?_
         refine L_nil (K_blk (K_seq (B_seq (B_seq (B_region ?_)))))
         refine Lo u75 (v_move (.inl rfl) rfl) ?_
         refine Lo u75 (rfl) ?_
         refine L_nil (K_seq ?_)
         refine B_true rfl rfl ?_
         refine B_seq (B_region ?_)
         refine Lo u75 (v_const (VVal.int .i64 1) (.inr rfl) rfl) ?_
         refine L_nil (K_seq (B_ret (K_seqR ?_)))
         refine W10 (.inr rfl) (vres_tmp rfl rfl) ?_
         exact W1w
       ·try simp only [qB] at hg18
        refine Lf u75 ?_
        refine Lf u75 ?_
        refine Lf u75 ?_
        refine Lo u75 (v_pickFC (VVal.bool false) rfl rfl rfl) ?_
        refine Lo u75 (v_move (.inl rfl) rfl) ?_
        refine Lf u75 ?_
        refine Lf u75 ?_
        refine Lf u75 ?_
        refine Lf u75 ?_
        refine Lo u75 (v_pickFC (VVal.bool false) rfl rfl rfl) ?_
        refine Lo u75 (v_move (.inr rfl) rfl) ?_
        refine L_nil (K_blk (K_seq (B_seq (B_seq (B_region ?_)))))
        refine Lo u75 (v_move (.inl rfl) rfl) ?_
        refine Lo u75 (rfl) ?_
        refine L_nil (K_seq ?_)
        refine B_true rfl rfl ?_
        refine B_seq (B_region ?_)
        refine Lo u75 (v_const (VVal.int .i64 1) (.inr rfl) rfl) ?_
        refine L_nil (K_seq (B_ret (K_seqR ?_)))
        refine W10 (.inr rfl) (vres_tmp rfl rfl) ?_
        exact W1w
      ·try simp only [qB] at hc17
       refine B_seq (B_region ?_)
       refine Lo u75 (rfl) ?_
       refine Lo u75 (v_move (.inr rfl) rfl) ?_
       refine L_nil (K_seq ?_)
       refine B_cond _ rfl (fun hc21 => ?_) (fun hc21 => ?_)
       ·try simp only [qB] at hc21
        refine B_region ?_
        refine Lo u75 (rfl) ?_
        refine Lo u75 (W12 rfl rfl rfl rfl) ?_
        refine Lo u75 (rfl) ?_
        refine Lo u75 (v_move (.inl rfl) rfl) ?_
        refine L_split 65 (env1 := u75) (env2 := u75) rfl rfl rfl (fun hg22 => ?_) (fun hg22 => ?_)
        ·try simp only [qB] at hg22
         refine Lo u75 (rfl) ?_
         refine Lo u75 (W12 rfl rfl rfl rfl) ?_
         refine Lo u75 (rfl) ?_
         refine Lo u75 (W12 rfl rfl rfl rfl) ?_
         refine Lo u75 (rfl) ?_
         refine Lo u75 (rfl) ?_
         refine Lo u75 (v_pickT rfl rfl rfl) ?_
         refine Lo u75 (v_move (.inr rfl) rfl) ?_
         refine L_nil (K_blk (K_seq (B_seq (B_seq (B_region ?_)))))
         refine Lo u75 (v_move (.inl rfl) rfl) ?_
         refine Lo u75 (rfl) ?_
         refine L_nil (K_seq ?_)
         refine B_cond _ rfl (fun hc23 => ?_) (fun hc23 => ?_)
         ·try simp only [qB] at hc23
          refine B_seq (B_region ?_)
          refine Lo u75 (v_const (VVal.int .i64 1) (.inr rfl) rfl) ?_
          refine L_nil (K_seq (B_ret (K_seqR ?_)))
          refine W10 (.inr rfl) (vres_tmp rfl rfl) ?_
          exact W1w
         ·try simp only [qB] at hc23
          refine B_skip (K_seq (B_seq (B_region ?_)))
          refine Lo u75 (v_const (VVal.int .i64 0) (.inr rfl) rfl) ?_
          refine L_nil (K_seq (B_ret ?_))
          refine W10 (.inr rfl) (vres_tmp rfl rfl) ?_
          exact W1w
        ·try simp only [qB] at hg22
         refine Lf u75 ?_
         refine Lf u75 ?_
         refine Lf u75 ?_
         refine Lf u75 ?_
         refine Lf u75 ?_
         refine Lf u75 ?_
         refine Lo u75 (v_pickFC (VVal.bool false) rfl rfl rfl) ?_
         refine Lo u75 (v_move (.inr rfl) rfl) ?_
         refine L_nil (K_blk (K_seq (B_seq (B_seq (B_region ?_)))))
         refine Lo u75 (v_move (.inl rfl) rfl) ?_
         refine Lo u75 (rfl) ?_
         refine L_nil (K_seq ?_)
         refine B_true rfl rfl ?_
         refine B_seq (B_region ?_)
         refine Lo u75 (v_const (VVal.int .i64 1) (.inr rfl) rfl) ?_
         refine L_nil (K_seq (B_ret (K_seqR ?_)))
         refine W10 (.inr rfl) (vres_tmp rfl rfl) ?_
         exact W1w
       ·try simp only [qB] at hc21
        refine B_skip (K_blk (K_seq (B_seq (B_seq (B_region ?_)))))
        refine Lo u75 (v_move (.inl rfl) rfl) ?_
        refine Lo u75 (rfl) ?_
        refine L_nil (K_seq ?_)
        refine B_true rfl rfl ?_
        refine B_seq (B_region ?_)
        refine Lo u75 (v_const (VVal.int .i64 1) (.inr rfl) rfl) ?_
        refine L_nil (K_seq (B_ret (K_seqR ?_)))
        refine W10 (.inr rfl) (vres_tmp rfl rfl) ?_
        exact W1w
   ·try simp only [qB] at hc5
    refine B_region ?_
    refine Lo u75 (rfl) ?_
    refine Lo u75 (v_move (.inr rfl) rfl) ?_
    refine L_nil (K_seq ?_)
    refine B_cond _ rfl (fun hc24 => ?_) (fun hc24 => ?_)
    ·try simp only [qB] at hc24
     refine B_region ?_
     refine Lo u75 (rfl) ?_
     refine Lo u75 (W12 rfl rfl rfl rfl) ?_
     refine Lo u75 (rfl) ?_
     refine Lo u75 (v_move (.inl rfl) rfl) ?_
     refine L_split 37 (env1 := u75) (env2 := u75) rfl rfl rfl (fun hg25 => ?_) (fun hg25 => ?_)
     ·try simp only [qB] at hg25
      refine Lo u75 (rfl) ?_
      refine Lo u75 (W12 rfl rfl rfl rfl) ?_
      refine Lo u75 (rfl) ?_
      refine Lo u75 (rfl) ?_
      refine Lo u75 (v_pickT rfl rfl rfl) ?_
      refine Lo u75 (v_move (.inr rfl) rfl) ?_
      refine L_nil (K_blk (K_seq (B_seq (B_seq (B_region ?_)))))
      refine Lo u75 (v_move (.inl rfl) rfl) ?_
      refine Lo u75 (rfl) ?_
      refine L_nil (K_seq ?_)
      refine B_cond _ rfl (fun hc26 => ?_) (fun hc26 => ?_)
      ·try simp only [qB] at hc26
       refine B_seq (B_region ?_)
       refine Lo u75 (v_const (VVal.int .i64 1) (.inr rfl) rfl) ?_
       refine L_nil (K_seq (B_ret (K_seqR ?_)))
       refine W10 (.inr rfl) (vres_tmp rfl rfl) ?_
       exact W1w
      ·try simp only [qB] at hc26
       refine B_skip (K_seq (B_seq (B_region ?_)))
       refine Lo u75 (v_const (VVal.int .i64 0) (.inr rfl) rfl) ?_
       refine L_nil (K_seq (B_ret ?_))
       refine W10 (.inr rfl) (vres_tmp rfl rfl) ?_
       exact W1w
     ·try simp only [qB] at hg25
      refine Lf u75 ?_
      refine Lf u75 ?_
      refine Lf u75 ?_
      refine Lf u75 ?_
      refine Lo u75 (v_pickFC (VVal.bool false) rfl rfl rfl) ?_
      refine Lo u75 (v_move (.inr rfl) rfl) ?_
      refine L_nil (K_blk (K_seq (B_seq (B_seq (B_region ?_)))))
      refine Lo u75 (v_move (.inl rfl) rfl) ?_
      refine Lo u75 (rfl) ?_
      refine L_nil (K_seq ?_)
      refine B_true rfl rfl ?_
      refine B_seq (B_region ?_)
      refine Lo u75 (v_const (VVal.int .i64 1) (.inr rfl) rfl) ?_
      refine L_nil (K_seq (B_ret (K_seqR ?_)))
      refine W10 (.inr rfl) (vres_tmp rfl rfl) ?_
      exact W1w
    ·try simp only [qB] at hc24
     refine B_seq (B_seq (B_region ?_))
     refine Lo u75 (rfl) ?_
     refine Lo u75 (v_move (.inr rfl) rfl) ?_
     refine L_nil (K_seq ?_)
     refine B_cond _ rfl (fun hc27 => ?_) (fun hc27 => ?_)
     ·try simp only [qB] at hc27
      refine B_skip (K_seq ?_)
      refine B_cond _ rfl (fun hc28 => ?_) (fun hc28 => ?_)
      ·try simp only [qB] at hc28
       refine B_region ?_
       refine Lo u75 (rfl) ?_
       refine Lo u75 (W12 rfl rfl rfl rfl) ?_
       refine Lo u75 (rfl) ?_
       refine Lo u75 (v_move (.inl rfl) rfl) ?_
       refine L_split 49 (env1 := u75) (env2 := u75) rfl rfl rfl (fun hg29 => ?_) (fun hg29 => ?_)
       ·try simp only [qB] at hg29
        refine Lo u75 (rfl) ?_
        refine Lo u75 (W12 rfl rfl rfl rfl) ?_
        refine Lo u75 (rfl) ?_
        refine Lo u75 (v_pickT rfl rfl rfl) ?_
        refine Lo u75 (v_move (.inl rfl) rfl) ?_
        refine L_split 54 (env1 := u75) (env2 := u75) rfl rfl rfl (fun hg30 => ?_) (fun hg30 => ?_)
        ·try simp only [qB] at hg30
         refine Lo u75 (rfl) ?_
         refine Lo u75 (W12 rfl rfl rfl rfl) ?_
         refine Lo u75 (rfl) ?_
         refine Lo u75 (rfl) ?_
         refine Lo u75 (v_pickT rfl rfl rfl) ?_
         refine Lo u75 (v_move (.inr rfl) rfl) ?_
         refine L_nil (K_blk (K_seq (B_seq (B_seq (B_region ?_)))))
         refine Lo u75 (v_move (.inl rfl) rfl) ?_
         refine Lo u75 (rfl) ?_
         refine L_nil (K_seq ?_)
         refine B_cond _ rfl (fun hc31 => ?_) (fun hc31 => ?_)
         ·try simp only [qB] at hc31
          refine B_seq (B_region ?_)
          refine Lo u75 (v_const (VVal.int .i64 1) (.inr rfl) rfl) ?_
          refine L_nil (K_seq (B_ret (K_seqR ?_)))
          refine W10 (.inr rfl) (vres_tmp rfl rfl) ?_
          exact W1w
         ·try simp only [qB] at hc31
          refine B_skip (K_seq (B_seq (B_region ?_)))
          refine Lo u75 (v_const (VVal.int .i64 0) (.inr rfl) rfl) ?_
          refine L_nil (K_seq (B_ret ?_))
          refine W10 (.inr rfl) (vres_tmp rfl rfl) ?_
          exact W1w
        ·try simp only [qB] at hg30
         refine Lf u75 ?_
         refine Lf u75 ?_
         refine Lf u75 ?_
         refine Lf u75 ?_
         refine Lo u75 (v_pickFC (VVal.bool false) rfl rfl rfl) ?_
         refine Lo u75 (v_move (.inr rfl) rfl) ?_
         refine L_nil (K_blk (K_seq (B_seq (B_seq (B_region ?_)))))
         refine Lo u75 (v_move (.inl rfl) rfl) ?_
         refine Lo u75 (rfl) ?_
         refine L_nil (K_seq ?_)
         refine B_true rfl rfl ?_
         refine B_seq (B_region ?_)
         refine Lo u75 (v_const (VVal.int .i64 1) (.inr rfl) rfl) ?_
         refine L_nil (K_seq (B_ret (K_seqR ?_)))
         refine W10 (.inr rfl) (vres_tmp rfl rfl) ?_
         exact W1w
       ·try simp only [qB] at hg29
        refine Lf u75 ?_
        refine Lf u75 ?_
        refine Lf u75 ?_
        refine Lo u75 (v_pickFC (VVal.bool false) rfl rfl rfl) ?_
        refine Lo u75 (v_move (.inl rfl) rfl) ?_
        refine Lf u75 ?_
        refine Lf u75 ?_
        refine Lf u75 ?_
        refine Lf u75 ?_
        refine Lo u75 (v_pickFC (VVal.bool false) rfl rfl rfl) ?_
        refine Lo u75 (v_move (.inr rfl) rfl) ?_
        refine L_nil (K_blk (K_seq (B_seq (B_seq (B_region ?_)))))
        refine Lo u75 (v_move (.inl rfl) rfl) ?_
        refine Lo u75 (rfl) ?_
        refine L_nil (K_seq ?_)
        refine B_true rfl rfl ?_
        refine B_seq (B_region ?_)
        refine Lo u75 (v_const (VVal.int .i64 1) (.inr rfl) rfl) ?_
        refine L_nil (K_seq (B_ret (K_seqR ?_)))
        refine W10 (.inr rfl) (vres_tmp rfl rfl) ?_
        exact W1w
      ·try simp only [qB] at hc28
       refine B_seq (B_region ?_)
       refine Lo u75 (rfl) ?_
       refine Lo u75 (v_move (.inr rfl) rfl) ?_
       refine L_nil (K_seq ?_)
       refine B_cond _ rfl (fun hc32 => ?_) (fun hc32 => ?_)
       ·try simp only [qB] at hc32
        refine B_region ?_
        refine Lo u75 (rfl) ?_
        refine Lo u75 (W12 rfl rfl rfl rfl) ?_
        refine Lo u75 (rfl) ?_
        refine Lo u75 (v_move (.inl rfl) rfl) ?_
        refine L_split 65 (env1 := u75) (env2 := u75) rfl rfl rfl (fun hg33 => ?_) (fun hg33 => ?_)
        ·try simp only [qB] at hg33
         refine Lo u75 (rfl) ?_
         refine Lo u75 (W12 rfl rfl rfl rfl) ?_
         refine Lo u75 (rfl) ?_
         refine Lo u75 (W12 rfl rfl rfl rfl) ?_
         refine Lo u75 (rfl) ?_
         refine Lo u75 (rfl) ?_
         refine Lo u75 (v_pickT rfl rfl rfl) ?_
         refine Lo u75 (v_move (.inr rfl) rfl) ?_
         refine L_nil (K_blk (K_seq (B_seq (B_seq (B_region ?_)))))
         refine Lo u75 (v_move (.inl rfl) rfl) ?_
         refine Lo u75 (rfl) ?_
         refine L_nil (K_seq ?_)
         refine B_cond _ rfl (fun hc34 => ?_) (fun hc34 => ?_)
         ·try simp only [qB] at hc34
          refine B_seq (B_region ?_)
          refine Lo u75 (v_const (VVal.int .i64 1) (.inr rfl) rfl) ?_
          refine L_nil (K_seq (B_ret (K_seqR ?_)))
          refine W10 (.inr rfl) (vres_tmp rfl rfl) ?_
          exact W1w
         ·try simp only [qB] at hc34
          refine B_skip (K_seq (B_seq (B_region ?_)))
          refine Lo u75 (v_const (VVal.int .i64 0) (.inr rfl) rfl) ?_
          refine L_nil (K_seq (B_ret ?_))
          refine W10 (.inr rfl) (vres_tmp rfl rfl) ?_
          exact W1w
        ·try simp only [qB] at hg33
         refine Lf u75 ?_
         refine Lf u75 ?_
         refine Lf u75 ?_
         refine Lf u75 ?_
         refine Lf u75 ?_
         refine Lf u75 ?_
         refine Lo u75 (v_pickFC (VVal.bool false) rfl rfl rfl) ?_
         refine Lo u75 (v_move (.inr rfl) rfl) ?_
         refine L_nil (K_blk (K_seq (B_seq (B_seq (B_region ?_)))))
         refine Lo u75 (v_move (.inl rfl) rfl) ?_
         refine Lo u75 (rfl) ?_
         refine L_nil (K_seq ?_)
         refine B_true rfl rfl ?_
         refine B_seq (B_region ?_)
         refine Lo u75 (v_const (VVal.int .i64 1) (.inr rfl) rfl) ?_
         refine L_nil (K_seq (B_ret (K_seqR ?_)))
         refine W10 (.inr rfl) (vres_tmp rfl rfl) ?_
         exact W1w
       ·try simp only [qB] at hc32
        refine B_skip (K_blk (K_seq (B_seq (B_seq (B_region ?_)))))
        refine Lo u75 (v_move (.inl rfl) rfl) ?_
        refine Lo u75 (rfl) ?_
        refine L_nil (K_seq ?_)
        refine B_true rfl rfl ?_
        refine B_seq (B_region ?_)
        refine Lo u75 (v_const (VVal.int .i64 1) (.inr rfl) rfl) ?_
        refine L_nil (K_seq (B_ret (K_seqR ?_)))
        refine W10 (.inr rfl) (vres_tmp rfl rfl) ?_
        exact W1w
     ·try simp only [qB] at hc27
      refine B_region ?_
      refine Lo u75 (rfl) ?_
      refine Lo u75 (v_move (.inr rfl) rfl) ?_
      refine L_nil (K_seq ?_)
      refine B_cond _ rfl (fun hc35 => ?_) (fun hc35 => ?_)
      ·try simp only [qB] at hc35
       refine B_region ?_
       refine Lo u75 (rfl) ?_
       refine Lo u75 (W12 rfl rfl rfl rfl) ?_
       refine Lo u75 (rfl) ?_
       refine Lo u75 (v_move (.inl rfl) rfl) ?_
       refine L_split 49 (env1 := u75) (env2 := u75) rfl rfl rfl (fun hg36 => ?_) (fun hg36 => ?_)
       ·try simp only [qB] at hg36
        refine Lo u75 (rfl) ?_
        refine Lo u75 (W12 rfl rfl rfl rfl) ?_
        refine Lo u75 (rfl) ?_
        refine Lo u75 (v_pickT rfl rfl rfl) ?_
        refine Lo u75 (v_move (.inl rfl) rfl) ?_
        refine L_split 54 (env1 := u75) (env2 := u75) rfl rfl rfl (fun hg37 => ?_) (fun hg37 => ?_)
        ·try simp only [qB] at hg37
         refine Lo u75 (rfl) ?_
         refine Lo u75 (W12 rfl rfl rfl rfl) ?_
         refine Lo u75 (rfl) ?_
         refine Lo u75 (rfl) ?_
         refine Lo u75 (v_pickT rfl rfl rfl) ?_
         refine Lo u75 (v_move (.inr rfl) rfl) ?_
         refine L_nil (K_blk (K_seq (B_seq (B_seq (B_region ?_)))))
         refine Lo u75 (v_move (.inl rfl) rfl) ?_
         refine Lo u75 (rfl) ?_
         refine L_nil (K_seq ?_)
         refine B_cond _ rfl (fun hc38 => ?_) (fun hc38 => ?_)
         ·try simp only [qB] at hc38
          refine B_seq (B_region ?_)
          refine Lo u75 (v_const (VVal.int .i64 1) (.inr rfl) rfl) ?_
          refine L_nil (K_seq (B_ret (K_seqR ?_)))
          refine W10 (.inr rfl) (vres_tmp rfl rfl) ?_
          exact W1w
         ·try simp only [qB] at hc38
          refine B_skip (K_seq (B_seq (B_region ?_)))
          refine Lo u75 (v_const (VVal.int .i64 0) (.inr rfl) rfl) ?_
          refine L_nil (K_seq (B_ret ?_))
          refine W10 (.inr rfl) (vres_tmp rfl rfl) ?_
          exact W1w
        ·try simp only [qB] at hg37
         refine Lf u75 ?_
         refine Lf u75 ?_
         refine Lf u75 ?_
         refine Lf u75 ?_
         refine Lo u75 (v_pickFC (VVal.bool false) rfl rfl rfl) ?_
         refine Lo u75 (v_move (.inr rfl) rfl) ?_
         refine L_nil (K_blk (K_seq (B_seq (B_seq (B_region ?_)))))
         refine Lo u75 (v_move (.inl rfl) rfl) ?_
         refine Lo u75 (rfl) ?_
         refine L_nil (K_seq ?_)
         refine B_true rfl rfl ?_
         refine B_seq (B_region ?_)
         refine Lo u75 (v_const (VVal.int .i64 1) (.inr rfl) rfl) ?_
         refine L_nil (K_seq (B_ret (K_seqR ?_)))
         refine W10 (.inr rfl) (vres_tmp rfl rfl) ?_
         exact W1w
       ·try simp only [qB] at hg36
        refine Lf u75 ?_
        refine Lf u75 ?_
        refine Lf u75 ?_
        refine Lo u75 (v_pickFC (VVal.bool false) rfl rfl rfl) ?_
        refine Lo u75 (v_move (.inl rfl) rfl) ?_
        refine Lf u75 ?_
        refine Lf u75 ?_
        refine Lf u75 ?_
        refine Lf u75 ?_
        refine Lo u75 (v_pickFC (VVal.bool false) rfl rfl rfl) ?_
        refine Lo u75 (v_move (.inr rfl) rfl) ?_
        refine L_nil (K_blk (K_seq (B_seq (B_seq (B_region ?_)))))
        refine Lo u75 (v_move (.inl rfl) rfl) ?_
        refine Lo u75 (rfl) ?_
        refine L_nil (K_seq ?_)
        refine B_true rfl rfl ?_
        refine B_seq (B_region ?_)
        refine Lo u75 (v_const (VVal.int .i64 1) (.inr rfl) rfl) ?_
        refine L_nil (K_seq (B_ret (K_seqR ?_)))
        refine W10 (.inr rfl) (vres_tmp rfl rfl) ?_
        exact W1w
      ·try simp only [qB] at hc35
       refine B_seq (B_region ?_)
       refine Lo u75 (rfl) ?_
       refine Lo u75 (v_move (.inr rfl) rfl) ?_
       refine L_nil (K_seq ?_)
       refine B_cond _ rfl (fun hc39 => ?_) (fun hc39 => ?_)
       ·try simp only [qB] at hc39
        refine B_region ?_
        refine Lo u75 (rfl) ?_
        refine Lo u75 (W12 rfl rfl rfl rfl) ?_
        refine Lo u75 (rfl) ?_
        refine Lo u75 (v_move (.inl rfl) rfl) ?_
        refine L_split 65 (env1 := u75) (env2 := u75) rfl rfl rfl (fun hg40 => ?_) (fun hg40 => ?_)
        ·try simp only [qB] at hg40
         refine Lo u75 (rfl) ?_
         refine Lo u75 (W12 rfl rfl rfl rfl) ?_
         refine Lo u75 (rfl) ?_
         refine Lo u75 (W12 rfl rfl rfl rfl) ?_
         refine Lo u75 (rfl) ?_
         refine Lo u75 (rfl) ?_
         refine Lo u75 (v_pickT rfl rfl rfl) ?_
         refine Lo u75 (v_move (.inr rfl) rfl) ?_
         refine L_nil (K_blk (K_seq (B_seq (B_seq (B_region ?_)))))
         refine Lo u75 (v_move (.inl rfl) rfl) ?_
         refine Lo u75 (rfl) ?_
         refine L_nil (K_seq ?_)
         refine B_cond _ rfl (fun hc41 => ?_) (fun hc41 => ?_)
         ·try simp only [qB] at hc41
          refine B_seq (B_region ?_)
          refine Lo u75 (v_const (VVal.int .i64 1) (.inr rfl) rfl) ?_
          refine L_nil (K_seq (B_ret (K_seqR ?_)))
          refine W10 (.inr rfl) (vres_tmp rfl rfl) ?_
          exact W1w
         ·try simp only [qB] at hc41
          refine B_skip (K_seq (B_seq (B_region ?_)))
          refine Lo u75 (v_const (VVal.int .i64 0) (.inr rfl) rfl) ?_
          refine L_nil (K_seq (B_ret ?_))
          refine W10 (.inr rfl) (vres_tmp rfl rfl) ?_
          exact W1w
        ·try simp only [qB] at hg40
         refine Lf u75 ?_
         refine Lf u75 ?_
         refine Lf u75 ?_
         refine Lf u75 ?_
         refine Lf u75 ?_
         refine Lf u75 ?_
         refine Lo u75 (v_pickFC (VVal.bool false) rfl rfl rfl) ?_
         refine Lo u75 (v_move (.inr rfl) rfl) ?_
         refine L_nil (K_blk (K_seq (B_seq (B_seq (B_region ?_)))))
         refine Lo u75 (v_move (.inl rfl) rfl) ?_
         refine Lo u75 (rfl) ?_
         refine L_nil (K_seq ?_)
         refine B_true rfl rfl ?_
         refine B_seq (B_region ?_)
         refine Lo u75 (v_const (VVal.int .i64 1) (.inr rfl) rfl) ?_
         refine L_nil (K_seq (B_ret (K_seqR ?_)))
         refine W10 (.inr rfl) (vres_tmp rfl rfl) ?_
         exact W1w
       ·try simp only [qB] at hc39
        refine B_skip (K_blk (K_seq (B_seq (B_seq (B_region ?_)))))
        refine Lo u75 (v_move (.inl rfl) rfl) ?_
        refine Lo u75 (rfl) ?_
        refine L_nil (K_seq ?_)
        refine B_true rfl rfl ?_
        refine B_seq (B_region ?_)
        refine Lo u75 (v_const (VVal.int .i64 1) (.inr rfl) rfl) ?_
        refine L_nil (K_seq (B_ret (K_seqR ?_)))
        refine W10 (.inr rfl) (vres_tmp rfl rfl) ?_
        exact W1w
end Go.Proofs.YtnbihdflnjpinaaDoor.VT

set_option autoImplicit false
set_option linter.unusedVariables false
set_option linter.unusedSimpArgs false
set_option maxHeartbeats 4000000
set_option maxRecDepth 100000
namespace Go.Proofs.YtnbihdflnjpinaaDoor.VT
open Go Go.V Go.RowKit
abbrev u12 {a0 a1 a2 a3 a4 a5 a6 a7 a8 a9 a10 a11 : VVal} : VEnv := a0 :: a1 :: a2 :: a3 :: a4 :: a5 :: a6 :: a7 :: a8 :: a9 :: a10 :: a11 :: []
abbrev u15 {a0 a1 a2 a3 a4 a5 a6 a7 a8 a9 a10 a11 a12 a13 a14 : VVal} : VEnv := a0 :: a1 :: a2 :: a3 :: a4 :: a5 :: a6 :: a7 :: a8 :: a9 :: a10 :: a11 :: a12 :: a13 :: a14 :: []
abbrev u17 {a0 a1 a2 a3 a4 a5 a6 a7 a8 a9 a10 a11 a12 a13 a14 a15 a16 : VVal} : VEnv := a0 :: a1 :: a2 :: a3 :: a4 :: a5 :: a6 :: a7 :: a8 :: a9 :: a10 :: a11 :: a12 :: a13 :: a14 :: a15 :: a16 :: []
abbrev u48 {a0 a1 a2 a3 a4 a5 a6 a7 a8 a9 a10 a11 a12 a13 a14 a15 a16 a17 a18 a19 a20 a21 a22 a23 a24 a25 a26 a27 a28 a29 a30 a31 a32 a33 a34 a35 a36 a37 a38 a39 a40 a41 a42 a43 a44 a45 a46 a47 : VVal} : VEnv := a0 :: a1 :: a2 :: a3 :: a4 :: a5 :: a6 :: a7 :: a8 :: a9 :: a10 :: a11 :: a12 :: a13 :: a14 :: a15 :: a16 :: a17 :: a18 :: a19 :: a20 :: a21 :: a22 :: a23 :: a24 :: a25 :: a26 :: a27 :: a28 :: a29 :: a30 :: a31 :: a32 :: a33 :: a34 :: a35 :: a36 :: a37 :: a38 :: a39 :: a40 :: a41 :: a42 :: a43 :: a44 :: a45 :: a46 :: a47 :: []
theorem W25 {T : TypeId → Option VTy} {H : VHeap} {op : Op} {ρ : Operand → VVal} {t : TypeId} {a : Operand} {y : VTy} {p v : VVal} (ho : op = .load t a) (ha : ρ a = p) (hy : T t = some y) (hd : isAggDesc y.desc = false) (h : LdOk H p v := by first | exact .inl ⟨_, _, rfl, by exact fgetN (α := Int) 0 (by omega)⟩ | exact .inr ⟨_, _, _, _, rfl, by first | exact get_app rfl rfl | exact get_out (by assumption) | exact getE0 rfl rfl | exact get_out (get_app rfl rfl) | exact get_app rfl (by assumption) | assumption | (simp only [List.append_assoc, List.singleton_append, List.cons_append, List.nil_append]; refine getE (i := 0) rfl ?_ rfl; simp; done) | (simp only [List.append_assoc, List.singleton_append, List.cons_append, List.nil_append]; refine getE (i := 1) rfl ?_ rfl; simp; done) | (simp only [List.append_assoc, List.singleton_append, List.cons_append, List.nil_append]; refine getE (i := 2) rfl ?_ rfl; simp; done) | (simp only [List.append_assoc, List.singleton_append, List.cons_append, List.nil_append]; refine getE (i := 3) rfl ?_ rfl; simp; done) | (simp [*]; done), by exact fgetN (α := Int) 0 (by omega)⟩) : vop T ρ H op = some (v, H) := v_ld ho ha hy hd h
theorem W26 {T : TypeId → Option VTy} {H : VHeap} {op : Op} {ρ : Operand → VVal} {t e : TypeId} {x i : Operand} {y z : VTy} {k : IntKind} {n : Int} {p v : VVal} {es : Nat} (ho : op = .indexAddr t x i) (hx : ρ x = p) (hi : ρ i = .int k n) (hy : T t = some y) (hd : y.desc = .slice e) (hz : T e = some z) (hs : z.size = es) (h : IxOk p es n v := by first | exact .inl ⟨_, _, _, rfl, by omega, rfl⟩ | exact .inr ⟨_, _, _, _, _, rfl, by omega, rfl⟩) : vop T ρ H op = some (v, H) := v_ix ho hx hi hy hd hz hs h
abbrev lbK (r : Rul) (l : List Int) (k : Nat) : List Int := lbls (r.steps.take k) l
abbrev lfK (r : Rul) (l : List Int) (k : Nat) : Nat := lft (r.steps.take k) l
theorem lbK_lt {r : Rul} {l : List Int} {k : Nat} (hk : k < r.steps.length) (h : r.steps.getD k 0 < l.length) : lbK r l (k + 1) = lbK r l k ++ [l.getD (r.steps.getD k 0).toNat 0] ∧ lfK r l (k + 1) = lfK r l k := by
  unfold lbK lfK; rw [take_at (d := 0) hk]; exact lbls_lt h
theorem lbK_ge {r : Rul} {l : List Int} {k : Nat} (hk : k < r.steps.length) (h : ¬ r.steps.getD k 0 < l.length) : lbK r l (k + 1) = lbK r l k ∧ lfK r l (k + 1) = lfK r l k + 1 := by
  unfold lbK lfK; rw [take_at (d := 0) hk]; exact lbls_ge h
theorem lbK_len {r : Rul} {l : List Int} {k : Nat} (hk : k ≤ r.steps.length) : (lbK r l k).length + lfK r l k = k := by
  unfold lbK lfK; rw [lbls_len, List.length_take]; omega
theorem lbK_all {r : Rul} {l : List Int} {k : Nat} (hk : r.steps.length ≤ k) : lbK r l k = lbls r.steps l ∧ lfK r l k = lft r.steps l := by
  unfold lbK lfK; rw [List.take_of_length_le hk]; exact ⟨rfl, rfl⟩
theorem max_oft {L : List Int} {v : Int} : (if (((L ++ [v]).count v : Nat) : Int) > ((oft L : Nat) : Int) then (((L ++ [v]).count v : Nat) : Int) else ((oft L : Nat) : Int)) = ((oft (L ++ [v]) : Nat) : Int) := by
  rw [oft_app, show (L ++ [v]).count v = L.count v + 1 by simp]
  split <;> omega
theorem rck_of {n : Int} {r : Rul} (h : rck n r = true) : (0 ≤ n ∧ n ≤ 12) ∧ rise n r.steps = true ∧ knd r = true := by
  unfold rck at h; rw [Bool.and_eq_true, Bool.and_eq_true, decide_eq_true_eq] at h; exact h
theorem rck_kind {n : Int} {r : Rul} (h : rck n r = true) : 1 ≤ r.kind ∧ r.kind ≤ 5 := by
  by_cases hk : 1 ≤ r.kind ∧ r.kind ≤ 5
  · exact hk
  · have := (rck_of h).2.2; rw [knd_d hk] at this; cases this
theorem rck_pos {n : Int} {r : Rul} (h : rck n r = true) : ∀ s, s ∈ r.steps → 0 ≤ s := fun s hs => by
  have := riseA_mem _ _ (rck_of h).2.1 s hs; omega
theorem rck_len {n : Int} {r : Rul} (h : rck n r = true) : r.steps.length ≤ 12 := by
  obtain ⟨h1, h2, _⟩ := rck_of h
  rcases riseA_len _ _ h2 with e | e
  · rw [e]; exact Nat.zero_le _
  · omega
theorem rcE_eq {n : Int} {r : Rul} : rcE n r = 0 ↔ rck n r = true := by
  constructor
  · intro h
    by_cases hb : rck n r = true
    · exact hb
    · unfold rcE at h; rw [if_neg hb] at h; omega
  · exact rcE_0
theorem kp_1 {k : Int} {st l : List Int} : kpL (1, k, st, ()) l = decide ((oft (lbls st l) : Int) ≤ 1) := by
  show kp (1, k, st, ()) (lbls st l) (lft st l) = _
  simp only [kp, Rul.kind, Rul.k]
  simp; omega
theorem kp_2 {k : Int} {st l : List Int} : kpL (2, k, st, ()) l = decide ((uq (lbls st l) : Int) ≤ 1) := by
  show kp (2, k, st, ()) (lbls st l) (lft st l) = _
  simp only [kp, Rul.kind, Rul.k]
  simp; omega
theorem kp_3 {k : Int} {st l : List Int} : kpL (3, k, st, ()) l = decide ((oft (lbls st l) : Int) ≤ k) := by
  show kp (3, k, st, ()) (lbls st l) (lft st l) = _
  simp only [kp, Rul.kind, Rul.k]
  simp
theorem kp_4 {k : Int} {st l : List Int} : kpL (4, k, st, ()) l = decide ((uq (lbls st l) : Int) ≤ k) := by
  show kp (4, k, st, ()) (lbls st l) (lft st l) = _
  simp only [kp, Rul.kind, Rul.k]
  simp
theorem kp_5 {k : Int} {st l : List Int} : kpL (5, k, st, ()) l = decide (k ≤ (uq (lbls st l) : Int) + (lft st l : Nat)) := by
  show kp (5, k, st, ()) (lbls st l) (lft st l) = _
  simp only [kp, Rul.kind, Rul.k]
  simp
theorem capart_spec {x : SW} (H : VHeap) (m u lf k : Int)  : F (psys x) 108 [.agg [iI m, iI u, iI lf], iI k] H fun v G => v = .bool (decide (m ≤ 1)) ∧ G = H := by
 refine F_body Tryd.func108 rfl u8 rfl ?_
 refine B_seq (B_region ?_)
 refine Lo u8 (v_boxT rfl rfl rfl) ?_
 refine Lo u8 (v_const (VVal.bool false) (.inr rfl) rfl) ?_
 refine L_nil (K_seq (B_seq (B_region ?_)))
 refine Lo u8 (rfl) ?_
 refine Lo u8 (W12 rfl rfl rfl rfl) ?_
 refine Lo u8 (rfl) ?_
 refine Lo u8 (v_move (.inr rfl) rfl) ?_
 refine L_nil (K_seq (B_ret ?_))
 refine W10 (.inr rfl) (vres_tmp rfl rfl) ?_
 exact ⟨rfl, rfl⟩
theorem csame_spec {x : SW} (H : VHeap) (m u lf k : Int)  : F (psys x) 109 [.agg [iI m, iI u, iI lf], iI k] H fun v G => v = .bool (decide (u ≤ 1)) ∧ G = H := by
 refine F_body Tryd.func109 rfl u8 rfl ?_
 refine B_seq (B_region ?_)
 refine Lo u8 (v_boxT rfl rfl rfl) ?_
 refine Lo u8 (v_const (VVal.bool false) (.inr rfl) rfl) ?_
 refine L_nil (K_seq (B_seq (B_region ?_)))
 refine Lo u8 (rfl) ?_
 refine Lo u8 (W12 rfl rfl rfl rfl) ?_
 refine Lo u8 (rfl) ?_
 refine Lo u8 (v_move (.inr rfl) rfl) ?_
 refine L_nil (K_seq (B_ret ?_))
 refine W10 (.inr rfl) (vres_tmp rfl rfl) ?_
 exact ⟨rfl, rfl⟩
theorem catMost_spec {x : SW} (H : VHeap) (m u lf k : Int)  : F (psys x) 110 [.agg [iI m, iI u, iI lf], iI k] H fun v G => v = .bool (decide (m ≤ k)) ∧ G = H := by
 refine F_body Tryd.func110 rfl u9 rfl ?_
 refine B_seq (B_region ?_)
 refine Lo u9 (v_boxT rfl rfl rfl) ?_
 refine Lo u9 (v_const (VVal.bool false) (.inr rfl) rfl) ?_
 refine L_nil (K_seq (B_seq (B_region ?_)))
 refine Lo u9 (rfl) ?_
 refine Lo u9 (W12 rfl rfl rfl rfl) ?_
 refine Lo u9 (v_move (.inl rfl) rfl) ?_
 refine Lo u9 (rfl) ?_
 refine Lo u9 (v_move (.inr rfl) rfl) ?_
 refine L_nil (K_seq (B_ret ?_))
 refine W10 (.inr rfl) (vres_tmp rfl rfl) ?_
 exact ⟨rfl, rfl⟩
theorem cfew_spec {x : SW} (H : VHeap) (m u lf k : Int)  : F (psys x) 111 [.agg [iI m, iI u, iI lf], iI k] H fun v G => v = .bool (decide (u ≤ k)) ∧ G = H := by
 refine F_body Tryd.func111 rfl u9 rfl ?_
 refine B_seq (B_region ?_)
 refine Lo u9 (v_boxT rfl rfl rfl) ?_
 refine Lo u9 (v_const (VVal.bool false) (.inr rfl) rfl) ?_
 refine L_nil (K_seq (B_seq (B_region ?_)))
 refine Lo u9 (rfl) ?_
 refine Lo u9 (W12 rfl rfl rfl rfl) ?_
 refine Lo u9 (v_move (.inl rfl) rfl) ?_
 refine Lo u9 (rfl) ?_
 refine Lo u9 (v_move (.inr rfl) rfl) ?_
 refine L_nil (K_seq (B_ret ?_))
 refine W10 (.inr rfl) (vres_tmp rfl rfl) ?_
 exact ⟨rfl, rfl⟩
theorem cmany_spec {x : SW} (H : VHeap) (m u lf k : Int) (hb : 0 ≤ u ∧ u ≤ 1000000 ∧ 0 ≤ lf ∧ lf ≤ 1000000) : F (psys x) 112 [.agg [iI m, iI u, iI lf], iI k] H fun v G => v = .bool (decide (k ≤ u + lf)) ∧ G = H := by
 refine F_body Tryd.func112 rfl u12 rfl ?_
 refine B_seq (B_region ?_)
 refine Lo u12 (v_boxT rfl rfl rfl) ?_
 refine Lo u12 (v_const (VVal.bool false) (.inr rfl) rfl) ?_
 refine L_nil (K_seq (B_seq (B_region ?_)))
 refine Lo u12 (rfl) ?_
 refine Lo u12 (W12 rfl rfl rfl rfl) ?_
 refine Lo u12 (rfl) ?_
 refine Lo u12 (W12 rfl rfl rfl rfl) ?_
 refine Lo u12 (W14 rfl rfl rfl) ?_
 refine Lo u12 (v_move (.inl rfl) rfl) ?_
 refine Lo u12 (rfl) ?_
 refine Lo u12 (v_move (.inr rfl) rfl) ?_
 refine L_nil (K_seq (B_ret ?_))
 refine W10 (.inr rfl) (vres_tmp rfl rfl) ?_
 exact ⟨rfl, rfl⟩
theorem counted_spec {x : SW} (H : VHeap) (r : Rul) (l : List Int) (hs : ∀ s, s ∈ r.steps → 0 ≤ s) (hl : r.steps.length ≤ 1000000) : F (psys x) 113 [.agg (rlB r), fzI l] H fun v G => v = .agg [iI (oft (lbls r.steps l) : Nat), iI (uq (lbls r.steps l) : Nat), iI (lft r.steps l : Nat)] ∧ G = H := by
 refine F_body Tryd.func113 rfl u48 rfl ?_
 refine B_seq (B_region ?_)
 refine Lo u48 (v_boxT rfl rfl rfl) ?_
 refine Lo u48 (v_alloc rfl rfl) ?_
 refine L_nil (K_seq (B_seq (B_region ?_)))
 refine Lo u48 (rfl) ?_
 refine Lo u48 (v_map rfl) ?_
 refine Lo u48 (v_alloc rfl rfl) ?_
 refine Lo u48 (W13 rfl rfl rfl rfl rfl rfl rfl) ?_
 refine Lo u48 (v_move (.inr rfl) rfl) ?_
 refine L_nil (K_seq (B_seq (B_seq (B_region ?_))))
 refine Lo u48 (rfl) ?_
 refine Lo u48 (W12 rfl rfl rfl rfl) ?_
 refine Lo u48 (rfl) ?_
 refine Lo u48 (v_const (VVal.int .i64 0) (.inl rfl) rfl) ?_
 refine L_nil (K_seq (B_block ?_))
 refine B_clear (mk 48 281474976681869) (env' := u48) rfl ?_
 refine B_loopE (fun (k : Nat) => r.steps.length - k) (fun (k : Nat) => [(14, iI (k : Nat))]) (fun (k : Nat) G => (k ≤ r.steps.length) ∧ G = H ++ [.cells (rlB r) true, .cells [iI 0, iI 0, iI 0] true, .map (cnM (lbK r l k)), .cells [iI (oft (lbK r l k) : Nat), iI 0, iI (lfK r l k : Nat)] true]) 0 rfl ?_ ?_
 ·refine ⟨?_, rfl⟩
  exact Nat.zero_le _
 rintro k _ ⟨hk, rfl⟩
 refine B_env (env' := u48) rfl ?_
 refine B_seq (B_region ?_)
 refine Lo u48 (rfl) ?_
 refine L_nil (K_seq (B_seq ?_))
 refine B_cond _ rfl (fun hc1 => ?_) (fun hc1 => ?_)
 ·try simp only [qB, qN] at hc1
  refine B_skip (K_seq (B_seq (B_block (B_seq (B_region ?_)))))
  refine Lo u48 (W18 rfl rfl rfl rfl rfl rfl rfl) ?_
  refine Lo u48 (W25 rfl rfl rfl rfl) ?_
  refine Lo u48 (v_move (.inr rfl) rfl) ?_
  refine L_nil (K_seq (B_seq (B_seq (B_region ?_))))
  refine Lo u48 (v_move (.inl rfl) rfl) ?_
  refine Lo u48 (v_move (.inl rfl) rfl) ?_
  refine Lo u48 (rfl) ?_
  refine Lo u48 (rfl) ?_
  refine L_nil (K_seq ?_)
  refine B_cond _ rfl (fun hc2 => ?_) (fun hc2 => ?_)
  ·try simp only [qB, qN] at hc2
   refine B_seq ?_
   have hlk := lbK_len (l := l) hk
   have hE := lbK_ge (r := r) (l := l) (k := k) (by omega) (by omega)
   refine B_region ?_
   refine Lo u48 (rfl) ?_
   refine Lo u48 (W12 rfl rfl rfl rfl) ?_
   refine Lo u48 (W14 rfl rfl rfl) ?_
   refine Lo u48 (rfl) ?_
   refine Lo u48 (W13 rfl rfl rfl rfl rfl rfl rfl) ?_
   refine L_nil (K_seq (B_exit (K_seqX (K_blkX (K_seq (B_region ?_))))))
   refine Lo u48 (W14 rfl rfl rfl) ?_
   refine Lo u48 (v_move (.inl rfl) rfl) ?_
   refine L_nil ?_
   refine K_loop (mk 48 281474976681869) (env' := u48) rfl ⟨k + 1, ?_, rfl, ?_⟩
   ·first | omega | (simp only []; omega)
   ·exact ⟨by omega, by rw [hE.1, hE.2]; rfl⟩
  ·try simp only [qB, qN] at hc2
   refine B_skip (K_seq (B_seq ?_))
   have hlk := lbK_len (l := l) hk
   have hpos : 0 ≤ r.steps.getD k 0 := hs _ (mem_getI (by omega))
   have hlt : r.steps.getD k 0 < l.length := by omega
   have hE := lbK_lt (r := r) (l := l) (k := k) (by omega) hlt
   have hcn : (lbK r l k).count (l.getD (r.steps.getD k 0).toNat 0) ≤ (lbK r l k).length := List.count_le_length
   refine B_region ?_
   refine Lo u48 (v_move (.inl rfl) rfl) ?_
   refine Lo u48 (v_move (.inl rfl) rfl) ?_
   refine Lo u48 (v_move (.inl rfl) rfl) ?_
   refine Lo u48 (W26 rfl rfl rfl rfl rfl rfl rfl) ?_
   refine Lo u48 (W12 rfl rfl rfl rfl) ?_
   refine Lo u48 (v_lookI rfl rfl rfl rfl rfl rfl rfl rfl rfl rfl (get_app rfl rfl) cn_get cn_get') ?_
   refine Lo u48 (W14 rfl rfl rfl) ?_
   refine Lo u48 (v_mupdI rfl rfl rfl rfl rfl rfl rfl rfl (get_app rfl rfl) cn_get ((congrArg (fun m => List.set _ _ (VBlk.map m)) cn_put).trans (set_app rfl))) ?_
   refine L_nil (K_seq ?_)
   refine B_draw [0, 1, 2, 3, 4, 5, 6, 7, 8, 9, 10] #[0, 1, 0, 0, 0, 24, 56, 124, 255, 511, 1023] (by kernel_rfl) (by kernel_rfl) (by kernel_rfl) ?_
   refine Oo u48 .calm rfl (rfl) ?_
   refine Oo u48 .look rfl (W12 rfl rfl rfl rfl) ?_
   refine Oo u48 .calm rfl (v_move (.inl rfl) rfl) ?_
   refine Oo u48 .calm rfl (v_move (.inl rfl) rfl) ?_
   refine Oo u48 .calm rfl (v_move (.inl rfl) rfl) ?_
   refine Oo u48 .calm rfl (W26 rfl rfl rfl rfl rfl rfl rfl) ?_
   refine Oo u48 .look rfl (W12 rfl rfl rfl rfl) ?_
   refine Oo u48 .look rfl (v_lookI rfl rfl rfl rfl rfl rfl rfl rfl rfl rfl (get_app rfl rfl) cn_get cn_get') ?_
   refine Oo u48 .calm rfl (v_val (u := iI (oft (lbK r l (k + 1)) : Nat)) rfl (by rw [hE.1]; exact congrArg iI max_oft)) ?_
   refine Oo u48 .calm rfl (rfl) ?_
   refine Oo u48 .turn rfl (W13 rfl rfl rfl rfl rfl rfl rfl) ?_
   refine O_nil [] (by kernel_rfl) (trivial) ?_
   refine K_blk (K_seq (B_region ?_))
   refine Lo u48 (W14 rfl rfl rfl) ?_
   refine Lo u48 (v_move (.inl rfl) rfl) ?_
   refine L_nil ?_
   refine K_loop (mk 48 281474976681869) (env' := u48) rfl ⟨k + 1, ?_, rfl, ?_⟩
   ·first | omega | (simp only []; omega)
   ·exact ⟨by omega, by rw [hE.1, hE.2]; rfl⟩
 ·try simp only [qB, qN] at hc1
  refine B_exit (K_seqX (K_loopX (K_blkX (K_seq (B_seq (B_region ?_))))))
  refine Lo u48 (v_move (.inl rfl) rfl) ?_
  refine Lo u48 (v_lenM rfl rfl rfl rfl (get_app rfl rfl)) ?_
  refine Lo u48 (rfl) ?_
  refine Lo u48 (W13 rfl rfl rfl rfl rfl rfl rfl) ?_
  refine L_nil (K_seq (B_seq (B_region ?_)))
  refine Lo u48 (W11 rfl rfl rfl rfl rfl) ?_
  refine Lo u48 (W13 rfl rfl rfl rfl rfl rfl rfl) ?_
  refine L_nil (K_seq (B_ret ?_))
  refine W10 (.inr rfl) (vres_cellA rfl rfl rfl rfl (by first | exact get_app rfl rfl | exact get_out (by assumption) | exact getE0 rfl rfl | exact get_out (get_app rfl rfl) | exact get_app rfl (by assumption) | assumption | (simp only [List.append_assoc, List.singleton_append, List.cons_append, List.nil_append]; refine getE (i := 0) rfl ?_ rfl; simp; done) | (simp only [List.append_assoc, List.singleton_append, List.cons_append, List.nil_append]; refine getE (i := 1) rfl ?_ rfl; simp; done) | (simp only [List.append_assoc, List.singleton_append, List.cons_append, List.nil_append]; refine getE (i := 2) rfl ?_ rfl; simp; done) | (simp only [List.append_assoc, List.singleton_append, List.cons_append, List.nil_append]; refine getE (i := 3) rfl ?_ rfl; simp; done) | (simp [*]; done)) (by first | rfl | assumption | exact fget (α := BitVec 64) 0 (by omega) | exact fget (α := Int) 0 (by omega) | exact fget0 (α := BitVec 64) 0 (by omega) | exact fget0 (α := Int) 0 (by omega) | exact fget (α := Bool) false (by omega) | exact fget0 (α := Bool) false (by omega) | (simp [*]; done))) ?_
  have hA := lbK_all (r := r) (l := l) (k := k) (by omega)
  rw [hA.1, hA.2, cnM_len]
  exact ⟨rfl, rfl⟩
theorem cal_n {st l : List Int} (h : st.length ≤ 1000000) : (0 ≤ ((uq (lbls st l) : Nat) : Int) ∧ ((uq (lbls st l) : Nat) : Int) ≤ 1000000 ∧ 0 ≤ ((lft st l : Nat) : Int) ∧ ((lft st l : Nat) : Int) ≤ 1000000) := by
  have h1 := lbls_len st l; have h2 := uq_le (lbls st l); omega
theorem keeps1 {x : SW} (H : VHeap) (k : Int) (st l : List Int) (hs : ∀ s, s ∈ st → 0 ≤ s) (hl : st.length ≤ 1000000) : F (psys x) 96 [.agg [iI 1, iI k, fzI st], fzI l] H fun v G => v = .bool (kpL (1, k, st, ()) l) ∧ G = H := by
 refine F_body Tryd.func96 rfl u17 rfl ?_
 refine B_seq (B_region ?_)
 refine Lo u17 (v_boxT rfl rfl rfl) ?_
 refine Lo u17 (v_const (VVal.bool false) (.inr rfl) rfl) ?_
 refine L_nil (K_seq (B_seq (B_region ?_)))
 refine Lo u17 (v_val (u := .agg [.nilFunc, .func 108 [] [], .func 109 [] [], .func 110 [] [], .func 111 [] [], .func 112 [] []]) rfl rfl) ?_
 refine Lo u17 (v_alloc rfl rfl) ?_
 refine Lo u17 (W13 rfl rfl rfl rfl rfl rfl rfl) ?_
 refine L_nil (K_seq (B_seq ?_))
 refine B_draw [0, 1, 2, 3, 4, 5, 7, 8, 6, 9, 10] #[0, 1, 3, 7, 0, 0, 48, 0, 128, 511, 1023] (by kernel_rfl) (by kernel_rfl) (by kernel_rfl) ?_
 refine Oo u17 .calm rfl (rfl) ?_
 refine O_opI (env' := u17) (x := .look _ _) rfl rfl rfl (W12 rfl rfl rfl rfl) rfl rfl rfl ?_
 refine Oo u17 .calm rfl (by first | exact v_idxFA rfl rfl rfl rfl rfl rfl (by first | assumption | omega | (simp [*]; done) | (simp at *; omega)) | exact v_idxA rfl rfl rfl rfl rfl rfl (by first | assumption | omega | (simp [*]; done) | (simp at *; omega))) ?_
 refine O_opI (env' := u17) (x := .look _ _) rfl rfl rfl (W12 rfl rfl rfl rfl) rfl rfl rfl ?_
 refine Oo u17 .look rfl (W11 rfl rfl rfl rfl rfl) ?_
 refine Oo u17 .calm rfl (v_move (.inl rfl) rfl) ?_
 refine Oo u17 .calm rfl (rfl) ?_
 refine O_opI (env' := u17) (x := .look _ _) rfl rfl rfl (W12 rfl rfl rfl rfl) rfl rfl rfl ?_
 refine O_call (env' := u17) rfl rfl rfl rfl rfl (by exact counted_spec _ (1, k, st, ()) _ hs hl) (by first | exact Nat.le_refl _ | simp) rfl rfl ?_
 refine O_call (env' := u17) rfl rfl rfl rfl rfl (by exact capart_spec _ _ _ _ _) (by first | exact Nat.le_refl _ | simp) rfl rfl ?_
 refine Oo u17 .calm rfl (v_move (.inr rfl) rfl) ?_
 refine O_nil [_, _, _] (by rfl) (And.intro (And.intro (W12 rfl rfl rfl rfl) (W12 rfl rfl rfl rfl)) (And.intro (And.intro (W12 rfl rfl rfl rfl) (W12 rfl rfl rfl rfl)) (And.intro (And.intro (W12 rfl rfl rfl rfl) (W12 rfl rfl rfl rfl)) trivial))) ?_
 refine K_seq (B_ret ?_)
 refine W10 (.inr rfl) (vres_tmp rfl rfl) ?_
 exact ⟨by rw [kp_1], rfl⟩
theorem keeps2 {x : SW} (H : VHeap) (k : Int) (st l : List Int) (hs : ∀ s, s ∈ st → 0 ≤ s) (hl : st.length ≤ 1000000) : F (psys x) 96 [.agg [iI 2, iI k, fzI st], fzI l] H fun v G => v = .bool (kpL (2, k, st, ()) l) ∧ G = H := by
 refine F_body Tryd.func96 rfl u17 rfl ?_
 refine B_seq (B_region ?_)
 refine Lo u17 (v_boxT rfl rfl rfl) ?_
 refine Lo u17 (v_const (VVal.bool false) (.inr rfl) rfl) ?_
 refine L_nil (K_seq (B_seq (B_region ?_)))
 refine Lo u17 (v_val (u := .agg [.nilFunc, .func 108 [] [], .func 109 [] [], .func 110 [] [], .func 111 [] [], .func 112 [] []]) rfl rfl) ?_
 refine Lo u17 (v_alloc rfl rfl) ?_
 refine Lo u17 (W13 rfl rfl rfl rfl rfl rfl rfl) ?_
 refine L_nil (K_seq (B_seq ?_))
 refine B_draw [0, 1, 2, 3, 4, 5, 7, 8, 6, 9, 10] #[0, 1, 3, 7, 0, 0, 48, 0, 128, 511, 1023] (by kernel_rfl) (by kernel_rfl) (by kernel_rfl) ?_
 refine Oo u17 .calm rfl (rfl) ?_
 refine O_opI (env' := u17) (x := .look _ _) rfl rfl rfl (W12 rfl rfl rfl rfl) rfl rfl rfl ?_
 refine Oo u17 .calm rfl (by first | exact v_idxFA rfl rfl rfl rfl rfl rfl (by first | assumption | omega | (simp [*]; done) | (simp at *; omega)) | exact v_idxA rfl rfl rfl rfl rfl rfl (by first | assumption | omega | (simp [*]; done) | (simp at *; omega))) ?_
 refine O_opI (env' := u17) (x := .look _ _) rfl rfl rfl (W12 rfl rfl rfl rfl) rfl rfl rfl ?_
 refine Oo u17 .look rfl (W11 rfl rfl rfl rfl rfl) ?_
 refine Oo u17 .calm rfl (v_move (.inl rfl) rfl) ?_
 refine Oo u17 .calm rfl (rfl) ?_
 refine O_opI (env' := u17) (x := .look _ _) rfl rfl rfl (W12 rfl rfl rfl rfl) rfl rfl rfl ?_
 refine O_call (env' := u17) rfl rfl rfl rfl rfl (by exact counted_spec _ (2, k, st, ()) _ hs hl) (by first | exact Nat.le_refl _ | simp) rfl rfl ?_
 refine O_call (env' := u17) rfl rfl rfl rfl rfl (by exact csame_spec _ _ _ _ _) (by first | exact Nat.le_refl _ | simp) rfl rfl ?_
 refine Oo u17 .calm rfl (v_move (.inr rfl) rfl) ?_
 refine O_nil [_, _, _] (by rfl) (And.intro (And.intro (W12 rfl rfl rfl rfl) (W12 rfl rfl rfl rfl)) (And.intro (And.intro (W12 rfl rfl rfl rfl) (W12 rfl rfl rfl rfl)) (And.intro (And.intro (W12 rfl rfl rfl rfl) (W12 rfl rfl rfl rfl)) trivial))) ?_
 refine K_seq (B_ret ?_)
 refine W10 (.inr rfl) (vres_tmp rfl rfl) ?_
 exact ⟨by rw [kp_2], rfl⟩
theorem keeps3 {x : SW} (H : VHeap) (k : Int) (st l : List Int) (hs : ∀ s, s ∈ st → 0 ≤ s) (hl : st.length ≤ 1000000) : F (psys x) 96 [.agg [iI 3, iI k, fzI st], fzI l] H fun v G => v = .bool (kpL (3, k, st, ()) l) ∧ G = H := by
 refine F_body Tryd.func96 rfl u17 rfl ?_
 refine B_seq (B_region ?_)
 refine Lo u17 (v_boxT rfl rfl rfl) ?_
 refine Lo u17 (v_const (VVal.bool false) (.inr rfl) rfl) ?_
 refine L_nil (K_seq (B_seq (B_region ?_)))
 refine Lo u17 (v_val (u := .agg [.nilFunc, .func 108 [] [], .func 109 [] [], .func 110 [] [], .func 111 [] [], .func 112 [] []]) rfl rfl) ?_
 refine Lo u17 (v_alloc rfl rfl) ?_
 refine Lo u17 (W13 rfl rfl rfl rfl rfl rfl rfl) ?_
 refine L_nil (K_seq (B_seq ?_))
 refine B_draw [0, 1, 2, 3, 4, 5, 7, 8, 6, 9, 10] #[0, 1, 3, 7, 0, 0, 48, 0, 128, 511, 1023] (by kernel_rfl) (by kernel_rfl) (by kernel_rfl) ?_
 refine Oo u17 .calm rfl (rfl) ?_
 refine O_opI (env' := u17) (x := .look _ _) rfl rfl rfl (W12 rfl rfl rfl rfl) rfl rfl rfl ?_
 refine Oo u17 .calm rfl (by first | exact v_idxFA rfl rfl rfl rfl rfl rfl (by first | assumption | omega | (simp [*]; done) | (simp at *; omega)) | exact v_idxA rfl rfl rfl rfl rfl rfl (by first | assumption | omega | (simp [*]; done) | (simp at *; omega))) ?_
 refine O_opI (env' := u17) (x := .look _ _) rfl rfl rfl (W12 rfl rfl rfl rfl) rfl rfl rfl ?_
 refine Oo u17 .look rfl (W11 rfl rfl rfl rfl rfl) ?_
 refine Oo u17 .calm rfl (v_move (.inl rfl) rfl) ?_
 refine Oo u17 .calm rfl (rfl) ?_
 refine O_opI (env' := u17) (x := .look _ _) rfl rfl rfl (W12 rfl rfl rfl rfl) rfl rfl rfl ?_
 refine O_call (env' := u17) rfl rfl rfl rfl rfl (by exact counted_spec _ (3, k, st, ()) _ hs hl) (by first | exact Nat.le_refl _ | simp) rfl rfl ?_
 refine O_call (env' := u17) rfl rfl rfl rfl rfl (by exact catMost_spec _ _ _ _ _) (by first | exact Nat.le_refl _ | simp) rfl rfl ?_
 refine Oo u17 .calm rfl (v_move (.inr rfl) rfl) ?_
 refine O_nil [_, _, _] (by rfl) (And.intro (And.intro (W12 rfl rfl rfl rfl) (W12 rfl rfl rfl rfl)) (And.intro (And.intro (W12 rfl rfl rfl rfl) (W12 rfl rfl rfl rfl)) (And.intro (And.intro (W12 rfl rfl rfl rfl) (W12 rfl rfl rfl rfl)) trivial))) ?_
 refine K_seq (B_ret ?_)
 refine W10 (.inr rfl) (vres_tmp rfl rfl) ?_
 exact ⟨by rw [kp_3], rfl⟩
theorem keeps4 {x : SW} (H : VHeap) (k : Int) (st l : List Int) (hs : ∀ s, s ∈ st → 0 ≤ s) (hl : st.length ≤ 1000000) : F (psys x) 96 [.agg [iI 4, iI k, fzI st], fzI l] H fun v G => v = .bool (kpL (4, k, st, ()) l) ∧ G = H := by
 refine F_body Tryd.func96 rfl u17 rfl ?_
 refine B_seq (B_region ?_)
 refine Lo u17 (v_boxT rfl rfl rfl) ?_
 refine Lo u17 (v_const (VVal.bool false) (.inr rfl) rfl) ?_
 refine L_nil (K_seq (B_seq (B_region ?_)))
 refine Lo u17 (v_val (u := .agg [.nilFunc, .func 108 [] [], .func 109 [] [], .func 110 [] [], .func 111 [] [], .func 112 [] []]) rfl rfl) ?_
 refine Lo u17 (v_alloc rfl rfl) ?_
 refine Lo u17 (W13 rfl rfl rfl rfl rfl rfl rfl) ?_
 refine L_nil (K_seq (B_seq ?_))
 refine B_draw [0, 1, 2, 3, 4, 5, 7, 8, 6, 9, 10] #[0, 1, 3, 7, 0, 0, 48, 0, 128, 511, 1023] (by kernel_rfl) (by kernel_rfl) (by kernel_rfl) ?_
 refine Oo u17 .calm rfl (rfl) ?_
 refine O_opI (env' := u17) (x := .look _ _) rfl rfl rfl (W12 rfl rfl rfl rfl) rfl rfl rfl ?_
 refine Oo u17 .calm rfl (by first | exact v_idxFA rfl rfl rfl rfl rfl rfl (by first | assumption | omega | (simp [*]; done) | (simp at *; omega)) | exact v_idxA rfl rfl rfl rfl rfl rfl (by first | assumption | omega | (simp [*]; done) | (simp at *; omega))) ?_
 refine O_opI (env' := u17) (x := .look _ _) rfl rfl rfl (W12 rfl rfl rfl rfl) rfl rfl rfl ?_
 refine Oo u17 .look rfl (W11 rfl rfl rfl rfl rfl) ?_
 refine Oo u17 .calm rfl (v_move (.inl rfl) rfl) ?_
 refine Oo u17 .calm rfl (rfl) ?_
 refine O_opI (env' := u17) (x := .look _ _) rfl rfl rfl (W12 rfl rfl rfl rfl) rfl rfl rfl ?_
 refine O_call (env' := u17) rfl rfl rfl rfl rfl (by exact counted_spec _ (4, k, st, ()) _ hs hl) (by first | exact Nat.le_refl _ | simp) rfl rfl ?_
 refine O_call (env' := u17) rfl rfl rfl rfl rfl (by exact cfew_spec _ _ _ _ _) (by first | exact Nat.le_refl _ | simp) rfl rfl ?_
 refine Oo u17 .calm rfl (v_move (.inr rfl) rfl) ?_
 refine O_nil [_, _, _] (by rfl) (And.intro (And.intro (W12 rfl rfl rfl rfl) (W12 rfl rfl rfl rfl)) (And.intro (And.intro (W12 rfl rfl rfl rfl) (W12 rfl rfl rfl rfl)) (And.intro (And.intro (W12 rfl rfl rfl rfl) (W12 rfl rfl rfl rfl)) trivial))) ?_
 refine K_seq (B_ret ?_)
 refine W10 (.inr rfl) (vres_tmp rfl rfl) ?_
 exact ⟨by rw [kp_4], rfl⟩
theorem keeps5 {x : SW} (H : VHeap) (k : Int) (st l : List Int) (hs : ∀ s, s ∈ st → 0 ≤ s) (hl : st.length ≤ 1000000) : F (psys x) 96 [.agg [iI 5, iI k, fzI st], fzI l] H fun v G => v = .bool (kpL (5, k, st, ()) l) ∧ G = H := by
 refine F_body Tryd.func96 rfl u17 rfl ?_
 refine B_seq (B_region ?_)
 refine Lo u17 (v_boxT rfl rfl rfl) ?_
 refine Lo u17 (v_const (VVal.bool false) (.inr rfl) rfl) ?_
 refine L_nil (K_seq (B_seq (B_region ?_)))
 refine Lo u17 (v_val (u := .agg [.nilFunc, .func 108 [] [], .func 109 [] [], .func 110 [] [], .func 111 [] [], .func 112 [] []]) rfl rfl) ?_
 refine Lo u17 (v_alloc rfl rfl) ?_
 refine Lo u17 (W13 rfl rfl rfl rfl rfl rfl rfl) ?_
 refine L_nil (K_seq (B_seq ?_))
 refine B_draw [0, 1, 2, 3, 4, 5, 7, 8, 6, 9, 10] #[0, 1, 3, 7, 0, 0, 48, 0, 128, 511, 1023] (by kernel_rfl) (by kernel_rfl) (by kernel_rfl) ?_
 refine Oo u17 .calm rfl (rfl) ?_
 refine O_opI (env' := u17) (x := .look _ _) rfl rfl rfl (W12 rfl rfl rfl rfl) rfl rfl rfl ?_
 refine Oo u17 .calm rfl (by first | exact v_idxFA rfl rfl rfl rfl rfl rfl (by first | assumption | omega | (simp [*]; done) | (simp at *; omega)) | exact v_idxA rfl rfl rfl rfl rfl rfl (by first | assumption | omega | (simp [*]; done) | (simp at *; omega))) ?_
 refine O_opI (env' := u17) (x := .look _ _) rfl rfl rfl (W12 rfl rfl rfl rfl) rfl rfl rfl ?_
 refine Oo u17 .look rfl (W11 rfl rfl rfl rfl rfl) ?_
 refine Oo u17 .calm rfl (v_move (.inl rfl) rfl) ?_
 refine Oo u17 .calm rfl (rfl) ?_
 refine O_opI (env' := u17) (x := .look _ _) rfl rfl rfl (W12 rfl rfl rfl rfl) rfl rfl rfl ?_
 refine O_call (env' := u17) rfl rfl rfl rfl rfl (by exact counted_spec _ (5, k, st, ()) _ hs hl) (by first | exact Nat.le_refl _ | simp) rfl rfl ?_
 refine O_call (env' := u17) rfl rfl rfl rfl rfl (by exact cmany_spec _ _ _ _ _ (cal_n hl)) (by first | exact Nat.le_refl _ | simp) rfl rfl ?_
 refine Oo u17 .calm rfl (v_move (.inr rfl) rfl) ?_
 refine O_nil [_, _, _] (by rfl) (And.intro (And.intro (W12 rfl rfl rfl rfl) (W12 rfl rfl rfl rfl)) (And.intro (And.intro (W12 rfl rfl rfl rfl) (W12 rfl rfl rfl rfl)) (And.intro (And.intro (W12 rfl rfl rfl rfl) (W12 rfl rfl rfl rfl)) trivial))) ?_
 refine K_seq (B_ret ?_)
 refine W10 (.inr rfl) (vres_tmp rfl rfl) ?_
 exact ⟨by rw [kp_5], rfl⟩
theorem keeps_spec {x : SW} (H : VHeap) (r : Rul) (l : List Int) (hk : 1 ≤ r.kind ∧ r.kind ≤ 5) (hs : ∀ s, s ∈ r.steps → 0 ≤ s) (hl : r.steps.length ≤ 1000000) : F (psys x) 96 [.agg (rlB r), fzI l] H fun v G => v = .bool (kpL r l) ∧ G = H := by
  obtain ⟨kd, k, st, ⟨⟩⟩ := r
  simp only [Rul.kind] at hk
  have h5 : kd = 1 ∨ kd = 2 ∨ kd = 3 ∨ kd = 4 ∨ kd = 5 := by omega
  rcases h5 with rfl | rfl | rfl | rfl | rfl
  · exact keeps1 H k st l hs hl
  · exact keeps2 H k st l hs hl
  · exact keeps3 H k st l hs hl
  · exact keeps4 H k st l hs hl
  · exact keeps5 H k st l hs hl
theorem rHolds_spec {x : SW} (H : VHeap) (r : Rul) (l : List Int) (hl : r.steps.length ≤ 1000000) : F (psys x) 73 [.agg (rlB r), fzI l] H fun v G => v = .bool (hld r l) ∧ G = H := by
 refine F_body Tryd.func73 rfl u15 rfl ?_
 refine B_seq (B_region ?_)
 refine Lo u15 (v_boxT rfl rfl rfl) ?_
 refine Lo u15 (v_const (VVal.bool false) (.inr rfl) rfl) ?_
 refine L_nil (K_seq (B_seq (B_region ?_)))
 refine Lo u15 (v_move (.inl rfl) rfl) ?_
 refine Lo u15 (rfl) ?_
 refine Lo u15 (W11 rfl rfl rfl rfl rfl) ?_
 refine L_call rfl rfl rfl (by exact rCheck_spec _ _ _ (by omega)) ?_
 rintro _ _ ⟨rfl, rfl⟩
 refine Le u15 ?_
 refine Lo u15 (rfl) ?_
 refine Lo u15 (v_move (.inl rfl) rfl) ?_
 refine L_split 10 (env1 := u15) (env2 := u15) rfl rfl rfl (fun hg1 => ?_) (fun hg1 => ?_)
 ·try simp only [qB] at hg1
  have hck : rck l.length r = true := rcE_eq.1 hg1
  refine Lo u15 (W11 rfl rfl rfl rfl rfl) ?_
  refine Lo u15 (v_move (.inl rfl) rfl) ?_
  refine L_call rfl rfl rfl (by exact keeps_spec _ _ _ (rck_kind hck) (rck_pos hck) (Nat.le_trans (rck_len hck) (by decide))) ?_
  rintro _ _ ⟨rfl, rfl⟩
  refine Le u15 ?_
  refine Lo u15 (v_pickT rfl rfl rfl) ?_
  refine Lo u15 (v_move (.inr rfl) rfl) ?_
  refine L_nil (K_seq (B_ret ?_))
  refine W10 (.inr rfl) (vres_tmp rfl rfl) ?_
  exact ⟨by unfold hld; rw [hck]; rfl, rfl⟩
 ·try simp only [qB] at hg1
  have hck : rck l.length r = false := bool_f fun e => hg1 (rcE_eq.2 e)
  refine Lf u15 ?_
  refine Lf u15 ?_
  refine Lf u15 ?_
  refine Lo u15 (v_pickFC (VVal.bool false) rfl rfl rfl) ?_
  refine Lo u15 (v_move (.inr rfl) rfl) ?_
  refine L_nil (K_seq (B_ret ?_))
  refine W10 (.inr rfl) (vres_tmp rfl rfl) ?_
  exact ⟨by unfold hld; rw [hck]; rfl, rfl⟩
theorem brk_yes {rs : List Rul} {l : List Int} {k : Nat} (hk : k < rs.length) (h : hld (rs.getD k r0) l = true) : brk (rs.take (k + 1)) l = brk (rs.take k) l := by
  rw [List.take_add_one, List.getElem?_eq_getElem hk]
  rw [List.getD_eq_getElem?_getD, List.getElem?_eq_getElem hk] at h
  simp only [Option.getD_some] at h
  show brk (rs.take k ++ [rs[k]]) l = _
  rw [brk_app, if_pos h, List.append_nil]
theorem brk_no {rs : List Rul} {l : List Int} {k : Nat} (hk : k < rs.length) (h : ¬ hld (rs.getD k r0) l = true) : brk (rs.take (k + 1)) l = brk (rs.take k) l ++ [(k : Int)] := by
  rw [List.take_add_one, List.getElem?_eq_getElem hk]
  rw [List.getD_eq_getElem?_getD, List.getElem?_eq_getElem hk] at h
  simp only [Option.getD_some] at h
  show brk (rs.take k ++ [rs[k]]) l = _
  rw [brk_app, if_neg h, List.length_take, Nat.min_eq_left (by omega)]
theorem brk_lenK {rs : List Rul} {l : List Int} {k : Nat} : (brk (rs.take k) l).length ≤ k := Nat.le_trans (brk_len _ _) (by rw [List.length_take]; omega)
theorem rul_mem {l : List Rul} {k : Nat} (h : k < l.length) : l.getD k r0 ∈ l := by
  rw [List.getD_eq_getElem?_getD, List.getElem?_eq_getElem h]; simp
end Go.Proofs.YtnbihdflnjpinaaDoor.VT

set_option autoImplicit false
set_option linter.unusedVariables false
set_option linter.unusedSimpArgs false
set_option maxHeartbeats 4000000
set_option maxRecDepth 100000
namespace Go.Proofs.YtnbihdflnjpinaaDoor.VT
open Go Go.V Go.RowKit
abbrev u22 {a0 a1 a2 a3 a4 a5 a6 a7 a8 a9 a10 a11 a12 a13 a14 a15 a16 a17 a18 a19 a20 a21 : VVal} : VEnv := a0 :: a1 :: a2 :: a3 :: a4 :: a5 :: a6 :: a7 :: a8 :: a9 :: a10 :: a11 :: a12 :: a13 :: a14 :: a15 :: a16 :: a17 :: a18 :: a19 :: a20 :: a21 :: []
abbrev u73 {a0 a1 a2 a3 a4 a5 a6 a7 a8 a9 a10 a11 a12 a13 a14 a15 a16 a17 a18 a19 a20 a21 a22 a23 a24 a25 a26 a27 a28 a29 a30 a31 a32 a33 a34 a35 a36 a37 a38 a39 a40 a41 a42 a43 a44 a45 a46 a47 a48 a49 a50 a51 a52 a53 a54 a55 a56 a57 a58 a59 a60 a61 a62 a63 a64 a65 a66 a67 a68 a69 a70 a71 a72 : VVal} : VEnv := a0 :: a1 :: a2 :: a3 :: a4 :: a5 :: a6 :: a7 :: a8 :: a9 :: a10 :: a11 :: a12 :: a13 :: a14 :: a15 :: a16 :: a17 :: a18 :: a19 :: a20 :: a21 :: a22 :: a23 :: a24 :: a25 :: a26 :: a27 :: a28 :: a29 :: a30 :: a31 :: a32 :: a33 :: a34 :: a35 :: a36 :: a37 :: a38 :: a39 :: a40 :: a41 :: a42 :: a43 :: a44 :: a45 :: a46 :: a47 :: a48 :: a49 :: a50 :: a51 :: a52 :: a53 :: a54 :: a55 :: a56 :: a57 :: a58 :: a59 :: a60 :: a61 :: a62 :: a63 :: a64 :: a65 :: a66 :: a67 :: a68 :: a69 :: a70 :: a71 :: a72 :: []
theorem W2a {P : Prop} (h : P := by first | exact ⟨by unfold erl; rw [hck, decide_eq_true hg2]; rfl, rfl⟩ | exact ⟨by unfold erl; rw [hck, decide_eq_false (by omega)]; rfl, rfl⟩ | exact ⟨by unfold erl; rw [hck]; rfl, rfl⟩) : P := h
theorem W2b {T : TypeId → Option VTy} {H : VHeap} {op : Op} {ρ : Operand → VVal} {t : TypeId} {a : Operand} {y : VTy} {p v : VVal} (ho : op = .load t a) (ha : ρ a = p) (hy : T t = some y) (hd : isAggDesc y.desc = false) (h : LdOk H p v := by first | exact .inl ⟨_, _, rfl, by first | rfl | assumption | exact fgetN (α := Nat) 0 (by omega) | exact fgetN (α := BitVec 64) 0 (by omega) | exact rul_at (by omega)⟩ | exact .inr ⟨_, _, _, _, rfl, by first | exact get_app rfl rfl | exact get_out (by assumption) | exact getE0 rfl rfl | exact get_out (get_app rfl rfl) | exact get_app rfl (by assumption) | assumption | (simp only [List.append_assoc, List.singleton_append, List.cons_append, List.nil_append]; refine getE (i := 0) rfl ?_ rfl; simp; done) | (simp only [List.append_assoc, List.singleton_append, List.cons_append, List.nil_append]; refine getE (i := 1) rfl ?_ rfl; simp; done) | (simp only [List.append_assoc, List.singleton_append, List.cons_append, List.nil_append]; refine getE (i := 2) rfl ?_ rfl; simp; done) | (simp only [List.append_assoc, List.singleton_append, List.cons_append, List.nil_append]; refine getE (i := 3) rfl ?_ rfl; simp; done) | (simp [*]; done), by first | rfl | assumption | exact fgetN (α := Nat) 0 (by omega) | exact fgetN (α := BitVec 64) 0 (by omega) | exact rul_at (by omega)⟩) : vop T ρ H op = some (v, H) := v_ld ho ha hy hd h
theorem W2c {T : TypeId → Option VTy} {H : VHeap} {op : Op} {ρ : VEnv} {H' : VHeap} {t : TypeId} {a : Operand} {i : Nat} {v : VVal} {y : VTy} {b off : Nat} {cs new : List VVal} (ho : op = .store t a (.tmp i)) (hv : ρ[i]? = some v) (ha : ρ.eval a = .ptr (some (b, off))) (hy : T t = some y) (hx : v.cells = some new) (hn : new.length = y.size) (h1 : new.all VVal.one = true) (hb : H[b]? = some (.cells cs true) := by first | exact get_app rfl rfl | exact get_out (by assumption) | exact getE0 rfl rfl | exact get_out (get_app rfl rfl) | exact get_app rfl (by assumption) | assumption | (simp only [List.append_assoc, List.singleton_append, List.cons_append, List.nil_append]; refine getE (i := 0) rfl ?_ rfl; simp; done) | (simp only [List.append_assoc, List.singleton_append, List.cons_append, List.nil_append]; refine getE (i := 1) rfl ?_ rfl; simp; done) | (simp only [List.append_assoc, List.singleton_append, List.cons_append, List.nil_append]; refine getE (i := 2) rfl ?_ rfl; simp; done) | (simp only [List.append_assoc, List.singleton_append, List.cons_append, List.nil_append]; refine getE (i := 3) rfl ?_ rfl; simp; done) | (simp [*]; done)) (hl : off + new.length ≤ cs.length := by first | exact Nat.le_of_ble_eq_true rfl | (simp only [List.length_map, List.length_cons, List.length_nil]; omega) | omega | (simp; done) | (simp; omega)) (hH : H.set b (.cells (splice cs off new) true) = H' := by exact ga_n0 hs) : vop T ρ.eval H op = some (.skip, H') := v_storeT ho hv ha hy hx hn h1 hb hl hH
theorem W2d {T : TypeId → Option VTy} {H : VHeap} {op : Op} {ρ : Operand → VVal} {t : TypeId} {a : Operand} {y : VTy} {p v : VVal} (ho : op = .load t a) (ha : ρ a = p) (hy : T t = some y) (hd : isAggDesc y.desc = false) (h : LdOk H p v := by first | exact .inl ⟨_, _, rfl, by first | rfl | assumption | exact fgetN (α := Nat) 0 (by omega) | exact fgetN (α := BitVec 64) 0 (by omega) | exact rul_at (by omega)⟩ | exact .inr ⟨_, _, _, _, rfl, by exact get_out (List.getElem?_set_self hy), by first | rfl | assumption | exact fgetN (α := Nat) 0 (by omega) | exact fgetN (α := BitVec 64) 0 (by omega) | exact rul_at (by omega)⟩) : vop T ρ H op = some (v, H) := v_ld ho ha hy hd h
theorem W2e {T : TypeId → Option VTy} {H : VHeap} {op : Op} {ρ : VEnv} {H' : VHeap} {t : TypeId} {a : Operand} {i : Nat} {v : VVal} {y : VTy} {b off : Nat} {cs new : List VVal} (ho : op = .store t a (.tmp i)) (hv : ρ[i]? = some v) (ha : ρ.eval a = .ptr (some (b, off))) (hy : T t = some y) (hx : v.cells = some new) (hn : new.length = y.size) (h1 : new.all VVal.one = true) (hb : H[b]? = some (.cells cs true) := by exact get_out (List.getElem?_set_self hy)) (hl : off + new.length ≤ cs.length := by first | exact Nat.le_of_ble_eq_true rfl | (simp only [List.length_map, List.length_cons, List.length_nil]; omega) | omega | (simp; done) | (simp; omega)) (hH : H.set b (.cells (splice cs off new) true) = H' := by exact ga_p hy) : vop T ρ.eval H op = some (.skip, H') := v_storeT ho hv ha hy hx hn h1 hb hl hH
theorem W2i {P : Prop} (h : P := by first | exact ⟨by rw [(kpK_0 (u := u) (by assumption)).1], by rw [(kpK_0 (by assumption)).2]; rfl⟩ | exact ⟨by rw [(kpK_1 (u := u) (by assumption) (all_bad (k := k) (d := r0) (by omega) (by first | assumption | exact Bool.eq_false_iff.2 ‹_›))).1], by rw [(kpK_1 (by assumption) (all_bad (k := k) (d := r0) (by omega) (by first | assumption | exact Bool.eq_false_iff.2 ‹_›))).2]; rfl⟩ | exact ⟨by rw [(kpK_2 (u := u) (by assumption) (all_full (by omega) hall)).1], by rw [(kpK_2 (by assumption) (all_full (by omega) hall)).2, ← Gz.assoc]; rfl⟩) : P := h
theorem W2j {T : TypeId → Option VTy} {H : VHeap} {op : Op} {ρ : Operand → VVal} {t : TypeId} {a : Operand} {y : VTy} {p v : VVal} (ho : op = .load t a) (ha : ρ a = p) (hy : T t = some y) (hd : isAggDesc y.desc = false) (h : LdOk H p v := by first | exact .inl ⟨_, _, rfl, by exact fgetN (f := fzR) (l := rss) (k := a.length - 1) [] (by omega)⟩ | exact .inr ⟨_, _, _, _, rfl, by first | exact get_app rfl rfl | exact get_out (by assumption) | exact getE0 rfl rfl | exact get_out (get_app rfl rfl) | exact get_app rfl (by assumption) | assumption | (simp only [List.append_assoc, List.singleton_append, List.cons_append, List.nil_append]; refine getE (i := 0) rfl ?_ rfl; simp; done) | (simp only [List.append_assoc, List.singleton_append, List.cons_append, List.nil_append]; refine getE (i := 1) rfl ?_ rfl; simp; done) | (simp only [List.append_assoc, List.singleton_append, List.cons_append, List.nil_append]; refine getE (i := 2) rfl ?_ rfl; simp; done) | (simp only [List.append_assoc, List.singleton_append, List.cons_append, List.nil_append]; refine getE (i := 3) rfl ?_ rfl; simp; done) | (simp [*]; done), by exact fgetN (f := fzR) (l := rss) (k := a.length - 1) [] (by omega)⟩) : vop T ρ H op = some (v, H) := v_ld ho ha hy hd h
theorem W2k {T : TypeId → Option VTy} {H : VHeap} {op : Op} {ρ : Operand → VVal} {t : TypeId} {a : Operand} {y : VTy} {p : VVal} {n : Nat} {vs : List VVal} (ho : op = .load t a) (ha : ρ a = p) (hy : T t = some y) (hd : isAggDesc y.desc = true) (hn : y.size = n) (h : LdOkA H p n vs := by first | exact .inl ⟨_, _, rfl, by first | rfl | assumption | exact fgetN (α := Nat) 0 (by omega) | exact fgetN (α := BitVec 64) 0 (by omega) | exact rul_at (by omega)⟩ | exact .inr ⟨_, _, _, _, rfl, by first | exact get_app rfl rfl | exact get_out (by assumption) | exact getE0 rfl rfl | exact get_out (get_app rfl rfl) | exact get_app rfl (by assumption) | assumption | (simp only [List.append_assoc, List.singleton_append, List.cons_append, List.nil_append]; refine getE (i := 0) rfl ?_ rfl; simp; done) | (simp only [List.append_assoc, List.singleton_append, List.cons_append, List.nil_append]; refine getE (i := 1) rfl ?_ rfl; simp; done) | (simp only [List.append_assoc, List.singleton_append, List.cons_append, List.nil_append]; refine getE (i := 2) rfl ?_ rfl; simp; done) | (simp only [List.append_assoc, List.singleton_append, List.cons_append, List.nil_append]; refine getE (i := 3) rfl ?_ rfl; simp; done) | (simp [*]; done), by first | rfl | assumption | exact fgetN (α := Nat) 0 (by omega) | exact fgetN (α := BitVec 64) 0 (by omega) | exact rul_at (by omega)⟩) : vop T ρ H op = some (.agg vs, H) := v_ldA ho ha hy hd hn h
abbrev fzRR (rss : List (List Rul)) : VVal := .fsl (rss.map fzR) rss.length 1 false
theorem fzR_und (n : Nat) (l : List Rul) : (fzR l).under n = true := VVal.underL_all (n := n) (vs := l.flatMap rlB) fun v hv => by
  obtain ⟨r, _, h⟩ := List.mem_flatMap.1 hv
  simp only [List.mem_cons, List.not_mem_nil, or_false] at h
  rcases h with rfl | rfl | rfl
  · rfl
  · rfl
  · exact VVal.underL_map fun _ => rfl
theorem mapN_under (n : Nat) (l : List Nat) : VVal.underL n (l.map fun (m : Nat) => iI (m : Nat)) = true := VVal.underL_map fun _ => rfl
theorem rss_under (n : Nat) (rss : List (List Rul)) : VVal.underL n (rss.map fzR) = true := VVal.underL_map fun l => fzR_und n l
theorem huUnder {H : VHeap} {y : Nat} (hy : y < H.length) (u : Int) (ws : List (BitVec 64)) (rss : List (List Rul)) : (huP u (fzW ws) (fzRR rss) y).under H.length = true := by
  show VVal.underL _ [iI u, fzW ws, fzRR rss, .ptr (some (y, 0))] = true
  simp only [VVal.underL, VVal.under, fzW_under, mapW_under, rss_under, hy, decide_true, Bool.and_true]
theorem rEarly_spec {x : SW} (H : VHeap) (r : Rul) (n : Int) (l : List Int) (hl : r.steps.length ≤ 1000000) : F (psys x) 78 [.agg (rlB r), iI n, fzI l] H fun v G => v = .bool (erl r n l) ∧ G = H := by
 refine F_body Tryd.func78 rfl u22 rfl ?_
 refine B_seq (B_region ?_)
 refine Lo u22 (v_boxT rfl rfl rfl) ?_
 refine Lo u22 (v_const (VVal.bool false) (.inr rfl) rfl) ?_
 refine L_nil (K_seq (B_seq (B_region ?_)))
 refine Lo u22 (v_move (.inl rfl) rfl) ?_
 refine Lo u22 (W11 rfl rfl rfl rfl rfl) ?_
 refine L_call rfl rfl rfl (by exact rCheck_spec _ _ _ (by omega)) ?_
 rintro _ _ ⟨rfl, rfl⟩
 refine Le u22 ?_
 refine Lo u22 (rfl) ?_
 refine Lo u22 (v_move (.inl rfl) rfl) ?_
 refine L_split 11 (env1 := u22) (env2 := u22) rfl rfl rfl (fun hg1 => ?_) (fun hg1 => ?_)
 ·try simp only [qB] at hg1
  have hck : rck n r = true := rcE_eq.1 hg1
  refine Lo u22 (v_move (.inl rfl) rfl) ?_
  refine Lo u22 (rfl) ?_
  refine Lo u22 (v_move (.inl rfl) rfl) ?_
  refine Lo u22 (rfl) ?_
  refine Lo u22 (v_pickT rfl rfl rfl) ?_
  refine Lo u22 (v_move (.inl rfl) rfl) ?_
  refine L_split 17 (env1 := u22) (env2 := u22) rfl rfl rfl (fun hg2 => ?_) (fun hg2 => ?_)
  ·try simp only [qB] at hg2
   refine Lo u22 (W11 rfl rfl rfl rfl rfl) ?_
   refine Lo u22 (v_move (.inl rfl) rfl) ?_
   refine L_call rfl rfl rfl (by exact keeps_spec _ _ _ (rck_kind hck) (rck_pos hck) (Nat.le_trans (rck_len hck) (by decide))) ?_
   rintro _ _ ⟨rfl, rfl⟩
   refine Le u22 ?_
   refine Lo u22 (v_pickT rfl rfl rfl) ?_
   refine Lo u22 (v_move (.inr rfl) rfl) ?_
   refine L_nil (K_seq (B_ret ?_))
   refine W10 (.inr rfl) (vres_tmp rfl rfl) ?_
   exact W2a
  ·try simp only [qB] at hg2
   refine Lf u22 ?_
   refine Lf u22 ?_
   refine Lf u22 ?_
   refine Lo u22 (v_pickFC (VVal.bool false) rfl rfl rfl) ?_
   refine Lo u22 (v_move (.inr rfl) rfl) ?_
   refine L_nil (K_seq (B_ret ?_))
   refine W10 (.inr rfl) (vres_tmp rfl rfl) ?_
   exact W2a
 ·try simp only [qB] at hg1
  have hck : rck n r = false := bool_f fun e => hg1 (rcE_eq.2 e)
  refine Lf u22 ?_
  refine Lf u22 ?_
  refine Lf u22 ?_
  refine Lf u22 ?_
  refine Lo u22 (v_pickFC (VVal.bool false) rfl rfl rfl) ?_
  refine Lo u22 (v_move (.inl rfl) rfl) ?_
  refine Lf u22 ?_
  refine Lf u22 ?_
  refine Lf u22 ?_
  refine Lo u22 (v_pickFC (VVal.bool false) rfl rfl rfl) ?_
  refine Lo u22 (v_move (.inr rfl) rfl) ?_
  refine L_nil (K_seq (B_ret ?_))
  refine W10 (.inr rfl) (vres_tmp rfl rfl) ?_
  exact W2a
theorem rEarlyN {x : SW} (H : VHeap) (r : Rul) (n : Int) (a : List Nat) (hl : r.steps.length ≤ 1000000) : F (psys x) 78 [.agg (rlB r), iI n, fzN a] H fun v G => v = .bool (erl r n (zI a)) ∧ G = H := by
  rw [fzN_is]; exact rEarly_spec H r n (zI a) hl
theorem hKeep_spec {x : SW} {u : Nat} (H : VHeap) (y : Nat) (g : Gz) (hs : H[y]? = some (gaB g)) (ws : List (BitVec 64)) (rss : List (List Rul)) (a : List Nat) (ha : Pat a) (h0 : 0 < a.length) (hw : a.length ≤ ws.length) (hn : ws.length ≤ 1000000) (hr : rss.length = ws.length) (hR : ∀ i, (rss.getD i []).length ≤ 1000000 ∧ ∀ r, r ∈ rss.getD i [] → r.steps.length ≤ 1000000) : F (psys x) 53 [huP (u : Nat) (fzW ws) (fzRR rss) y, fzN a] H fun v G => v = .bool (kpB ws rss a) ∧ G = H.set y (gaB (g + kpG u ws rss a)) := by
 have hy := lt_of_get hs
 have hbl := @blkN_len ws a a.length
 have hla := ha (a.length - 1) (by omega)
 have hsl : a.getD (a.length - 1) 0 < szP a a.length := by
    obtain ⟨m, hm⟩ : ∃ m, a.length = m + 1 := ⟨a.length - 1, by omega⟩
    rw [hm] at hla ⊢; rw [szP]; rw [Nat.add_sub_cancel] at hla ⊢; split <;> omega
 have hR1 := hR (a.length - 1)
 refine F_body Tryd.func53 rfl u73 rfl ?_
 refine B_seq (B_region ?_)
 refine Lo u73 (v_const (VVal.bool false) (.inr rfl) rfl) ?_
 refine L_nil (K_seq (B_seq (B_region ?_)))
 refine Lo u73 (v_move (.inl rfl) rfl) ?_
 refine Lo u73 (rfl) ?_
 refine Lo u73 (rfl) ?_
 refine Lo u73 (W2b rfl rfl rfl rfl) ?_
 refine Lo u73 (rfl) ?_
 refine Lo u73 (rfl) ?_
 refine Lo u73 (W2b rfl rfl rfl rfl) ?_
 refine Lo u73 (v_addW (b := 1#64) rfl rfl rfl) ?_
 refine Lo u73 (rfl) ?_
 refine Lo u73 (rfl) ?_
 refine Lo u73 (W2c rfl rfl rfl rfl rfl rfl rfl) ?_
 refine L_nil (K_seq (B_seq ?_))
 refine B_draw [0, 1, 2, 3, 4, 5, 6, 7, 8, 9, 10, 11, 12, 13, 14, 15] #[0, 1, 3, 7, 15, 31, 63, 0, 128, 384, 896, 1920, 4095, 8191, 16383, 32767] (by kernel_rfl) (by kernel_rfl) (by kernel_rfl) ?_
 refine Oo u73 .calm rfl (v_move (.inl rfl) rfl) ?_
 refine Oo u73 .calm rfl (rfl) ?_
 refine Oo u73 .calm rfl (rfl) ?_
 refine Oo u73 .look rfl (W2b rfl rfl rfl rfl) ?_
 refine Oo u73 .calm rfl (rfl) ?_
 refine Oo u73 .calm rfl (rfl) ?_
 refine Oo u73 .look rfl (W2d rfl rfl rfl rfl) ?_
 refine Oo u73 .calm rfl (v_move (.inl rfl) rfl) ?_
 refine Oo u73 .calm rfl (rfl) ?_
 refine Oo u73 .calm rfl (rfl) ?_
 refine Oo u73 .look rfl (W2b rfl rfl rfl rfl) ?_
 refine Oo u73 .calm rfl (v_cvW rfl rfl rfl rfl rfl) ?_
 refine Oo u73 .calm rfl (v_addW rfl rfl rfl) ?_
 refine Oo u73 .calm rfl (rfl) ?_
 refine Oo u73 .calm rfl (rfl) ?_
 refine Oo u73 .turn rfl (W2e rfl rfl rfl rfl rfl rfl rfl) ?_
 refine O_nil [] (by kernel_rfl) (trivial) ?_
 refine K_seq (B_seq (B_region ?_))
 refine Lo u73 (v_move (.inl rfl) rfl) ?_
 refine Lo u73 (v_move (.inl rfl) rfl) ?_
 refine L_call rfl rfl rfl (by exact hBlocks_spec _ _ _ ha hw hn) ?_
 rintro _ _ ⟨rfl, rfl⟩
 refine Le u73 ?_
 refine Lo u73 (v_move (.inl rfl) rfl) ?_
 refine Lo u73 (rfl) ?_
 refine Lo u73 (W1g rfl rfl rfl) ?_
 refine Lo u73 (v_move (.inr rfl) rfl) ?_
 refine Lo u73 (v_move (.inr rfl) rfl) ?_
 refine L_nil (K_seq (B_seq (B_seq ?_)))
 rw [show ((a.length : Nat) : Int) - 1 = ((a.length - 1 : Nat) : Int) by omega]
 refine B_region ?_
 refine Lo u73 (v_move (.inl rfl) rfl) ?_
 refine Lo u73 (v_move (.inl rfl) rfl) ?_
 refine Lo u73 (v_move (.inl rfl) rfl) ?_
 refine Lo u73 (W18 rfl rfl rfl rfl rfl rfl rfl) ?_
 refine Lo u73 (W2b rfl rfl rfl rfl) ?_
 refine Lo u73 (W18 rfl rfl rfl rfl rfl rfl rfl) ?_
 refine Lo u73 (W2b rfl rfl rfl rfl) ?_
 refine Lo u73 (rfl) ?_
 refine L_nil (K_seq ?_)
 refine B_cond _ rfl (fun hc1 => ?_) (fun hc1 => ?_)
 ·try simp only [qB, qN] at hc1
  refine B_seq (B_region ?_)
  refine Lo u73 (v_const (VVal.bool false) (.inr rfl) rfl) ?_
  refine L_nil (K_seq (B_ret (K_seqR ?_)))
  refine W1o (.inr rfl) (vres_tmp rfl rfl) ?_
  exact W2i
 ·try simp only [qB, qN] at hc1
  refine B_skip (K_seq (B_seq (B_seq (B_region ?_))))
  refine Lo u73 (v_move (.inl rfl) rfl) ?_
  refine Lo u73 (rfl) ?_
  refine Lo u73 (rfl) ?_
  refine Lo u73 (W2b rfl rfl rfl rfl) ?_
  refine Lo u73 (v_move (.inl rfl) rfl) ?_
  refine Lo u73 (W18 rfl rfl rfl rfl rfl rfl rfl) ?_
  refine Lo u73 (W2j rfl rfl rfl rfl) ?_
  refine Lo u73 (rfl) ?_
  refine Lo u73 (v_const (VVal.int .i64 0) (.inl rfl) rfl) ?_
  refine L_nil (K_seq (B_block ?_))
  refine B_clear (mk 73 9444606864949724053468) (env' := u73) rfl ?_
  refine B_loopE (fun (k : Nat) => (rss.getD (a.length - 1) []).length - k) (fun (k : Nat) => [(56, iI (k : Nat))]) (fun (k : Nat) G => (k ≤ (rss.getD (a.length - 1) []).length ∧ ((rss.getD (a.length - 1) []).take k).all (fun r => erl r ws.length (zI a)) = true) ∧ G = H.set y (gaB (⟨g.n + 1, g.p + u, g.e⟩ : Gz)) ++ []) 0 rfl ?_ ?_
  ·refine ⟨?_, rfl⟩
   exact ⟨Nat.zero_le _, rfl⟩
  rintro k _ ⟨⟨hk, hall⟩, rfl⟩
  refine B_env (env' := u73) rfl ?_
  refine B_seq (B_region ?_)
  refine Lo u73 (rfl) ?_
  refine L_nil (K_seq (B_seq ?_))
  refine B_cond _ rfl (fun hc2 => ?_) (fun hc2 => ?_)
  ·try simp only [qB, qN] at hc2
   refine B_skip (K_seq (B_seq (B_block (B_seq (B_region ?_)))))
   refine Lo u73 (W18 rfl rfl rfl rfl rfl rfl rfl) ?_
   refine Lo u73 (W2k rfl rfl rfl rfl rfl) ?_
   refine Lo u73 (v_alloc rfl rfl) ?_
   refine Lo u73 (W13 rfl rfl rfl rfl rfl rfl rfl) ?_
   refine L_nil (K_seq (B_seq ?_))
   refine B_draw [0, 1, 2, 3, 4, 5, 6, 7, 8] #[0, 0, 2, 6, 14, 30, 0, 127, 255] (by kernel_rfl) (by kernel_rfl) (by kernel_rfl) ?_
   refine Oo u73 .look rfl (W2k rfl rfl rfl rfl rfl) ?_
   refine Oo u73 .calm rfl (v_move (.inl rfl) rfl) ?_
   refine Oo u73 .calm rfl (rfl) ?_
   refine Oo u73 .calm rfl (rfl) ?_
   refine Oo u73 .look rfl (W2b rfl rfl rfl rfl) ?_
   refine Oo u73 .look rfl (rfl) ?_
   refine Oo u73 .calm rfl (v_move (.inl rfl) rfl) ?_
   refine O_call (env' := u73) rfl rfl rfl rfl rfl (by exact rEarlyN _ _ _ _ (hR1.2 _ (rul_mem (by omega)))) (by first | exact Nat.le_refl _ | simp) rfl rfl ?_
   refine Oo u73 .calm rfl (rfl) ?_
   refine O_nil [] (by kernel_rfl) (trivial) ?_
   refine K_seq ?_
   refine B_cond _ rfl (fun hc3 => ?_) (fun hc3 => ?_)
   ·try simp only [qB, qN] at hc3
    refine B_seq (B_region ?_)
    refine Lo u73 (v_const (VVal.bool false) (.inr rfl) rfl) ?_
    refine L_nil (K_seq (B_ret (K_blkR (K_seqR (K_loopR (K_blkR (K_seqR ?_)))))))
    refine W1o (.inr rfl) (vres_tmp rfl rfl) ?_
    exact W2i
   ·try simp only [qB, qN] at hc3
    refine B_skip (K_blk (K_seq (B_region ?_)))
    refine Lo u73 (W14 rfl rfl rfl) ?_
    refine Lo u73 (v_move (.inl rfl) rfl) ?_
    refine L_nil ?_
    refine K_loopG (mk 73 9444606864949724053468) (env' := u73) rfl (Gh.dropTo (L := []) (X := [_]) 0 rfl (BaseOk.set (BaseOk.refl _) _ rfl) (by first | (simp [VVal.underL, VVal.under, fzW_under]; done) | (simp [VVal.underL, VVal.under, fzW_under, rss_under, mapW_under, mapN_under, fzR_und, List.length_set, hy]; done) | (simp [VVal.underL, VVal.under, fzW_under]; omega)) rfl) ⟨k + 1, ?_, rfl, ?_⟩
    ·first | omega | (simp only []; omega)
    ·exact ⟨⟨by omega, all_step (by omega) hall (by assumption)⟩, rfl⟩
  ·try simp only [qB, qN] at hc2
   refine B_exit (K_seqX (K_loopX (K_blkX (K_seq (B_seq (B_region ?_))))))
   refine Lo u73 (v_move (.inl rfl) rfl) ?_
   refine Lo u73 (v_move (.inl rfl) rfl) ?_
   refine L_call rfl rfl rfl (by exact hfull_spec (H.set y (gaB (⟨g.n + 1, g.p + u, g.e⟩ : Gz)) ++ []) y (⟨g.n + 1, g.p + u, g.e⟩ : Gz) (get_append (List.getElem?_set_self hy)) (blkN ws a a.length) 0#64 (by have := @szP_le a a.length; omega)) ?_
   rintro v _ ⟨rfl, rfl⟩; rw [set_out (by rw [List.length_set]; exact hy), List.set_set]
   refine Le u73 ?_
   refine Lo u73 (v_move (.inr rfl) rfl) ?_
   refine L_nil (K_seq (B_ret ?_))
   refine W1o (.inr rfl) (vres_tmp rfl rfl) ?_
   exact W2i
end Go.Proofs.YtnbihdflnjpinaaDoor.VT

set_option autoImplicit false
set_option linter.unusedVariables false
set_option linter.unusedSimpArgs false
set_option maxHeartbeats 4000000
set_option maxRecDepth 100000
namespace Go.Proofs.YtnbihdflnjpinaaDoor.VT
open Go Go.V Go.RowKit
theorem W2n {T : TypeId → Option VTy} {H : VHeap} {op : Op} {ρ : Operand → VVal} {t : TypeId} {a : Operand} {y : VTy} {p v : VVal} (ho : op = .load t a) (ha : ρ a = p) (hy : T t = some y) (hd : isAggDesc y.desc = false) (h : LdOk H p v := by first | exact .inl ⟨_, _, rfl, by first | rfl | assumption | exact fget (α := BitVec 64) 0 (by omega) | exact fget (α := Int) 0 (by omega) | exact fget0 (α := BitVec 64) 0 (by omega) | exact fget0 (α := Int) 0 (by omega) | exact fget (α := Bool) false (by omega) | exact fget0 (α := Bool) false (by omega) | (simp [*]; done)⟩ | exact .inr ⟨_, _, _, _, rfl, by exact get_out hq, by first | rfl | assumption | exact fget (α := BitVec 64) 0 (by omega) | exact fget (α := Int) 0 (by omega) | exact fget0 (α := BitVec 64) 0 (by omega) | exact fget0 (α := Int) 0 (by omega) | exact fget (α := Bool) false (by omega) | exact fget0 (α := Bool) false (by omega) | (simp [*]; done)⟩) : vop T ρ H op = some (v, H) := v_ld ho ha hy hd h
theorem W2o {T : TypeId → Option VTy} {H : VHeap} {op : Op} {ρ : VEnv} {H' : VHeap} {t : TypeId} {a : Operand} {i : Nat} {v : VVal} {y : VTy} {b off : Nat} {cs new : List VVal} (ho : op = .store t a (.tmp i)) (hv : ρ[i]? = some v) (ha : ρ.eval a = .ptr (some (b, off))) (hy : T t = some y) (hx : v.cells = some new) (hn : new.length = y.size) (h1 : new.all VVal.one = true) (hb : H[b]? = some (.cells cs true) := by exact get_out hq) (hl : off + new.length ≤ cs.length := by first | exact Nat.le_of_ble_eq_true rfl | (simp only [List.length_map, List.length_cons, List.length_nil]; omega) | omega | (simp; done) | (simp; omega)) (hH : H.set b (.cells (splice cs off new) true) = H' := by exact set_out hql) : vop T ρ.eval H op = some (.skip, H') := v_storeT ho hv ha hy hx hn h1 hb hl hH
theorem W2p {T : TypeId → Option VTy} {H : VHeap} {op : Op} {ρ : Operand → VVal} {t : TypeId} {a : Operand} {y : VTy} {p v : VVal} (ho : op = .load t a) (ha : ρ a = p) (hy : T t = some y) (hd : isAggDesc y.desc = false) (h : LdOk H p v := by first | exact .inl ⟨_, _, rfl, by rfl⟩ | exact .inr ⟨_, _, _, _, rfl, by exact get_out (List.getElem?_set_self hql), by rfl⟩) : vop T ρ H op = some (v, H) := v_ld ho ha hy hd h
theorem W2q {T : TypeId → Option VTy} {H : VHeap} {op : Op} {ρ : Operand → VVal} {t : TypeId} {a : Operand} {y : VTy} {p v : VVal} (ho : op = .load t a) (ha : ρ a = p) (hy : T t = some y) (hd : isAggDesc y.desc = false) (h : LdOk H p v := by first | exact .inl ⟨_, _, rfl, by first | rfl | assumption | exact fget (α := BitVec 64) 0 (by omega) | exact fget (α := Int) 0 (by omega) | exact fget0 (α := BitVec 64) 0 (by omega) | exact fget0 (α := Int) 0 (by omega) | exact fget (α := Bool) false (by omega) | exact fget0 (α := Bool) false (by omega) | (simp [*]; done)⟩ | exact .inr ⟨_, _, _, _, rfl, by exact get_out ((List.getElem?_set_ne (Ne.symm hqm)).trans hm), by first | rfl | assumption | exact fget (α := BitVec 64) 0 (by omega) | exact fget (α := Int) 0 (by omega) | exact fget0 (α := BitVec 64) 0 (by omega) | exact fget0 (α := Int) 0 (by omega) | exact fget (α := Bool) false (by omega) | exact fget0 (α := Bool) false (by omega) | (simp [*]; done)⟩) : vop T ρ H op = some (v, H) := v_ld ho ha hy hd h
theorem Found_spec {x : SW} (H : VHeap) (q m : Nat) (hq : H[q]? = some (.cells [.slice none 0 0 true 0] true)) (hm : H[m]? = some (.cells [iI 1] true)) (a : List Nat) : F (psys x) 75 [fzN a, .ptr (some (q, 0)), .ptr (some (m, 0))] H fun v G => v = .bool false ∧ ∃ X w, G = H.set q (.cells [w] true) ++ X ∧ LV H.length 1 X w [fzN a] 1 := by
 have hql := lt_of_get hq
 have hqm : m ≠ q := fun e => by subst e; rw [hm] at hq; cases hq
 refine F_body Tryd.func75 rfl u13 rfl ?_
 refine B_seq (B_region ?_)
 refine Lo u13 (v_const (VVal.bool false) (.inr rfl) rfl) ?_
 refine L_nil (K_seq (B_seq (B_region ?_)))
 refine Lo u13 (W2n rfl rfl rfl rfl) ?_
 refine Lo u13 (v_move (.inl rfl) rfl) ?_
 refine Lo u13 (v_buildSlice rfl rfl (by decide) rfl) ?_
 refine L_opX rfl rfl (v_appX rfl rfl rfl rfl rfl rfl rfl (LV.nil _ _ _) rfl rfl (by decide) (by decide) (by decide)) ?_
 rintro _ _ ⟨Y1, rfl, rfl, hY1, hY2, hY3⟩
 refine Le u13 ?_
 refine Lo u13 (W2o rfl rfl rfl rfl rfl rfl rfl) ?_
 refine L_nil (K_seq (B_seq (B_region ?_)))
 refine Lo u13 (W2p rfl rfl rfl rfl) ?_
 refine Lo u13 (v_len rfl rfl rfl rfl hY3) ?_
 refine Lo u13 (W2q rfl rfl rfl rfl) ?_
 refine Lo u13 (rfl) ?_
 refine Lo u13 (v_move (.inr rfl) rfl) ?_
 refine L_nil (K_seq (B_ret ?_))
 refine E_keep (.inr rfl) (vres_tmp rfl rfl) ?_
 exact ⟨rfl, _, _, rfl, hY3⟩
end Go.Proofs.YtnbihdflnjpinaaDoor.VT

set_option autoImplicit false
set_option linter.unusedVariables false
set_option linter.unusedSimpArgs false
set_option maxHeartbeats 4000000
set_option maxRecDepth 100000
namespace Go.Proofs.YtnbihdflnjpinaaDoor.VT
open Go Go.V Go.RowKit
theorem CloI_nil {x : SW} (H : VHeap) : F (psys x) 88 [.slice none 0 0 true 0] H fun v G => v = .fsl [] 0 1 false ∧ G = H := by
 refine F_body Tryd.func88 rfl u8 rfl ?_
 refine B_seq (B_region ?_)
 refine Lo u8 (v_const (VVal.slice none 0 0 true 0) (.inr rfl) rfl) ?_
 refine L_nil (K_seq (B_seq (B_seq (B_region ?_))))
 refine Lo u8 (v_move (.inl rfl) rfl) ?_
 refine Lo u8 (rfl) ?_
 refine L_nil (K_seq ?_)
 refine B_true rfl rfl ?_
 refine B_seq (B_region ?_)
 refine Lo u8 (v_const (VVal.slice none 0 0 true 0) (.inr rfl) rfl) ?_
 refine L_nil (K_seq (B_ret (K_seqR ?_)))
 refine E_gh (.inr rfl) (vres_tmp rfl rfl) (Gh.ansLV (BaseOk.refl _) (LV.nil H.length 1 []) rfl) ?_
 exact ⟨rfl, rfl⟩
theorem CloI_b {x : SW} (H : VHeap) (b cap : Nat) (cs l : List VVal) (hb : H[b]? = some (.cells cs true)) (hc : cs.take l.length = l) (hl : l.length ≤ cs.length) (h0 : 0 < l.length) (hm : l.length ≤ 1000000) (h1 : l.all VVal.one = true) (hu : VVal.underL H.length l = true) : F (psys x) 88 [.slice (some (b, 0)) l.length cap false 1] H fun v G => v = .fsl l l.length 1 false ∧ G = H := by
 refine F_body Tryd.func88 rfl u8 rfl ?_
 refine B_seq (B_region ?_)
 refine Lo u8 (v_const (VVal.slice none 0 0 true 0) (.inr rfl) rfl) ?_
 refine L_nil (K_seq (B_seq (B_seq (B_region ?_))))
 refine Lo u8 (v_move (.inl rfl) rfl) ?_
 refine Lo u8 (rfl) ?_
 refine L_nil (K_seq ?_)
 refine B_false rfl rfl ?_
 refine B_skip (K_seq (B_seq (B_region ?_)))
 refine Lo u8 (v_buildSlice rfl rfl (by decide) rfl) ?_
 refine Lo u8 (v_move (.inl rfl) rfl) ?_
 refine L_opX rfl rfl (v_appEs rfl rfl rfl rfl rfl rfl rfl rfl (srcLive hb hc hl) (by exact (Nat.mul_one _).symm) h1 (by decide) (by show l.length * 8 ≤ _ ∧ l.length ≤ _; omega)) ?_
 rintro _ _ ⟨Z, i, rfl, rfl, hi⟩
 refine Le u8 ?_
 refine Lo u8 (v_move (.inr rfl) rfl) ?_
 refine L_nil (K_seq (B_ret ?_))
 refine E_gh (.inr rfl) (vres_tmp rfl rfl) (Gh.fsl (BaseOk.refl _) hi (by show cellsAt l 0 (l.length * 1) = some l; unfold cellsAt; rw [if_pos (by omega), List.drop_zero, Nat.mul_one, List.take_length]) (Nat.le_refl _) hu) ?_
 exact ⟨rfl, rfl⟩
theorem rc_under (n : Nat) (row : List Nat) : VVal.underL n (rcN row) = true := VVal.underL_map fun _ => rfl
theorem rc_one (row : List Nat) : (rcN row).all VVal.one = true := List.all_eq_true.2 fun v hv => by
  obtain ⟨n, _, rfl⟩ := List.mem_map.1 hv; rfl
theorem CloR {x : SW} (B X : VHeap) (rv : VVal) (row : List Nat) (r : RV B.length X rv (rcN row)) (h : row = [] → rv = .slice none 0 0 true 0) (hm : row.length ≤ 1000000) : F (psys x) 88 [rv] (B ++ X) fun v G => v = fzN row ∧ G = B ++ X := by
  rcases r with ⟨h1, rfl⟩ | ⟨b, cap, cs, rfl, h2, h3, h4, h5⟩
  · obtain rfl : row = [] := by simpa using h1
    exact CloI_nil _
  · by_cases h0 : row = []
    · exact absurd (h h0) (by simp)
    · have hlen : (rcN row).length = row.length := by simp
      have hpos : 0 < row.length := List.length_pos_iff.2 h0
      have := CloI_b (x := x) (B ++ X) (B.length + b) cap cs (rcN row) (get_app rfl h2) h5 (by omega) (by omega) (by omega) (rc_one _) (rc_under _ _)
      rw [hlen] at this ⊢
      exact this
end Go.Proofs.YtnbihdflnjpinaaDoor.VT

set_option autoImplicit false
set_option linter.unusedVariables false
set_option linter.unusedSimpArgs false
set_option maxHeartbeats 4000000
set_option maxRecDepth 100000
namespace Go.Proofs.YtnbihdflnjpinaaDoor.VT
open Go Go.V Go.RowKit
abbrev kpV (u : Nat) (ws : List (BitVec 64)) (rss : List (List Rul)) (y : Nat) : VVal := .func 53 [huP (u : Nat) (fzW ws) (fzRR rss) y] []
abbrev fdV (H : VHeap) : VVal := .func 75 [] [.ptr (some (H.length + 1, 0)), .ptr (some (H.length, 0))]
abbrev niS : VVal := .slice none 0 0 true 0
def wkH (H : VHeap) (y : Nat) (kv rv fnd : VVal) (g : Gz) : VHeap := H.set y (gaB g) ++ [.cells [iI 1] true, .cells [fnd] true, .cells [rv, kv, fdV H] true]
section
variable {H X : VHeap} {y : Nat} {kv rv fnd : VVal} {g : Gz}
theorem wk_len : (wkH H y kv rv fnd g).length = H.length + 3 := by unfold wkH; rw [List.length_append, List.length_set]; rfl
theorem wk_at {n : Nat} {k : VBlk} (h : n < 3) (hk : [VBlk.cells [iI 1] true, .cells [fnd] true, .cells [rv, kv, fdV H] true][n]? = some k) : (wkH H y kv rv fnd g ++ X)[H.length + n]? = some k := by
  unfold wkH; rw [List.append_assoc]; exact get_app (List.length_set) (by rw [List.getElem?_append_left h]; exact hk)
theorem wk_ga (hy : y < H.length) : (wkH H y kv rv fnd g ++ X)[y]? = some (gaB g) := by
  unfold wkH; rw [List.append_assoc]; exact get_out (List.getElem?_set_self hy)
theorem wk_setg {g' : Gz} (hy : y < H.length) : (wkH H y kv rv fnd g ++ X).set y (gaB g') = wkH H y kv rv fnd g' ++ X := by
  unfold wkH; rw [List.append_assoc, set_out (by rw [List.length_set]; exact hy), List.set_set, List.append_assoc]
theorem wk_setf {w : VVal} : (wkH H y kv rv fnd g ++ X).set (H.length + 1) (.cells [w] true) = wkH H y kv rv w g ++ X := by
  unfold wkH; rw [List.append_assoc, set_app (List.length_set), List.append_assoc]; rfl
theorem wk_setr {w : VVal} : (wkH H y kv rv fnd g ++ X).set (H.length + 2) (.cells (splice [rv, kv, fdV H] (0 + 0) [w]) true) = wkH H y kv w fnd g ++ X := by
  unfold wkH; rw [List.append_assoc, set_app (List.length_set), List.append_assoc]; rfl
end
def frPost (H : VHeap) (y : Nat) (kv : VVal) (g : Gz) (row : List Nat) (r : Gz × Option (List Nat)) (v : VVal) (G : VHeap) : Prop :=
  ∃ rv X, RV (H.length + 3) X rv (rcN row) ∧ ((r.2 = none ∧ v = .bool true ∧ G = wkH H y kv rv niS (g + r.1) ++ X) ∨ ∃ s w, r.2 = some s ∧ v = .bool false ∧ G = wkH H y kv rv w (g + r.1) ++ X ∧ LV (H.length + 3) 1 X w [fzN s] 1)
theorem hKeep_in {x : SW} {H X : VHeap} {u y : Nat} {ws : List (BitVec 64)} {rss : List (List Rul)} {rv fnd : VVal} {g : Gz} (hy : y < H.length) (a : List Nat) (ha : Pat a) (h0 : 0 < a.length) (hw : a.length ≤ ws.length) (hn : ws.length ≤ 1000000) (hr : rss.length = ws.length) (hR : ∀ i, (rss.getD i []).length ≤ 1000000 ∧ ∀ r, r ∈ rss.getD i [] → r.steps.length ≤ 1000000) :
    F (psys x) 53 [huP (u : Nat) (fzW ws) (fzRR rss) y, fzN a] (wkH H y (kpV u ws rss y) rv fnd g ++ X) fun v G => (v = .bool true ∧ kpB ws rss a = true ∧ G = wkH H y (kpV u ws rss y) rv fnd (g + kpG u ws rss a) ++ X) ∨ (v = .bool false ∧ kpB ws rss a = false ∧ G = wkH H y (kpV u ws rss y) rv fnd (g + kpG u ws rss a) ++ X) := by
  refine (hKeep_spec _ y g (wk_ga hy) ws rss a ha h0 hw hn hr hR).mono ?_
  rintro v G ⟨rfl, rfl⟩
  rw [wk_setg hy]
  cases h : kpB ws rss a
  · exact .inr ⟨rfl, rfl, rfl⟩
  · exact .inl ⟨rfl, rfl, rfl⟩
end Go.Proofs.YtnbihdflnjpinaaDoor.VT

set_option autoImplicit false
set_option linter.unusedVariables false
set_option linter.unusedSimpArgs false
set_option maxHeartbeats 4000000
set_option maxRecDepth 100000
namespace Go.Proofs.YtnbihdflnjpinaaDoor.VT
open Go Go.V Go.RowKit
abbrev u84 {a0 a1 a2 a3 a4 a5 a6 a7 a8 a9 a10 a11 a12 a13 a14 a15 a16 a17 a18 a19 a20 a21 a22 a23 a24 a25 a26 a27 a28 a29 a30 a31 a32 a33 a34 a35 a36 a37 a38 a39 a40 a41 a42 a43 a44 a45 a46 a47 a48 a49 a50 a51 a52 a53 a54 a55 a56 a57 a58 a59 a60 a61 a62 a63 a64 a65 a66 a67 a68 a69 a70 a71 a72 a73 a74 a75 a76 a77 a78 a79 a80 a81 a82 a83 : VVal} : VEnv := a0 :: a1 :: a2 :: a3 :: a4 :: a5 :: a6 :: a7 :: a8 :: a9 :: a10 :: a11 :: a12 :: a13 :: a14 :: a15 :: a16 :: a17 :: a18 :: a19 :: a20 :: a21 :: a22 :: a23 :: a24 :: a25 :: a26 :: a27 :: a28 :: a29 :: a30 :: a31 :: a32 :: a33 :: a34 :: a35 :: a36 :: a37 :: a38 :: a39 :: a40 :: a41 :: a42 :: a43 :: a44 :: a45 :: a46 :: a47 :: a48 :: a49 :: a50 :: a51 :: a52 :: a53 :: a54 :: a55 :: a56 :: a57 :: a58 :: a59 :: a60 :: a61 :: a62 :: a63 :: a64 :: a65 :: a66 :: a67 :: a68 :: a69 :: a70 :: a71 :: a72 :: a73 :: a74 :: a75 :: a76 :: a77 :: a78 :: a79 :: a80 :: a81 :: a82 :: a83 :: []
theorem W2r {T : TypeId → Option VTy} {H : VHeap} {op : Op} {ρ : Operand → VVal} {t : TypeId} {a : Operand} {y : VTy} {p v : VVal} (ho : op = .load t a) (ha : ρ a = p) (hy : T t = some y) (hd : isAggDesc y.desc = false) (h : LdOk H p v := by first | exact .inl ⟨_, _, rfl, by first | rfl | assumption⟩ | exact .inr ⟨_, _, _, _, rfl, by exact wk_at (n := 2) (by decide) rfl, by first | rfl | assumption⟩) : vop T ρ H op = some (v, H) := v_ld ho ha hy hd h
theorem W2t {T : TypeId → Option VTy} {H : VHeap} {op : Op} {ρ : Operand → VVal} {t ty : TypeId} {x y : Operand} {n m : Int} (ho : op = .binOp .sub t x y ty) (hx : ρ x = .int .i64 n) (hy : ρ y = .int .i64 m) (h : -9223372036854775808 ≤ n - m ∧ n - m < 9223372036854775808 := by simp; omega) : vop T ρ H op = some (.int .i64 (n - m), H) := v_subI ho hx hy h
theorem W2u {P : Prop} (h : P := by first | exact ⟨_, _, hr4, .inr ⟨s, w, by rw [frm_R, hx, frR_hit (by omega) hk1 ho], rfl, by rw [frm_R, hx, frR_hit (by omega) hk1 ho]; simp only [Gz.assoc], hw⟩⟩ | exact ⟨_, _, hr1, .inl ⟨by rw [frm_R, hx, frR_end (by omega)], rfl, by rw [frm_R, hx, frR_end (by omega)]; show _ = wkH _ _ _ _ _ (g + (d + 0)) ++ _; rw [Gz.add_zero]⟩⟩) : P := h
theorem from_0 {x : SW} (H : VHeap) {u y : Nat} {ws : List (BitVec 64)} {rss : List (List Rul)} (hy : y < H.length) (hn : ws.length ≤ 1000000) (hr : rss.length = ws.length) (hR : ∀ i, (rss.getD i []).length ≤ 1000000 ∧ ∀ r, r ∈ rss.getD i [] → r.steps.length ≤ 1000000) (row : List Nat) (rv : VVal) (X : VHeap) (g : Gz) (hp : Pat row) (hrv : RV (H.length + 3) X rv (rcN row)) (h0 : row = [] → rv = niS) (hl : row.length = ws.length) : F (psys x) 76 [.ptr (some (H.length + 2, 0)), iI (ws.length : Nat), iI (szP row row.length : Nat)] (wkH H y (kpV u ws rss y) rv niS g ++ X) (frPost H y (kpV u ws rss y) g row (frm (kpB ws rss) (kpG u ws rss) 0 row (szP row row.length))) := by
 refine F_body Tryd.func76 rfl u84 rfl ?_
 refine B_seq (B_region ?_)
 refine Lo u84 (v_const (VVal.bool false) (.inr rfl) rfl) ?_
 refine L_nil (K_seq (B_seq (B_seq ?_)))
 rw [List.append_nil]
 refine B_region ?_
 refine Lo u84 (v_move (.inl rfl) rfl) ?_
 refine Lo u84 (rfl) ?_
 refine Lo u84 (rfl) ?_
 refine Lo u84 (W2r rfl rfl rfl rfl) ?_
 refine Lo u84 (v_lenN rfl rfl rfl rfl hrv) ?_
 refine Lo u84 (v_move (.inl rfl) rfl) ?_
 refine Lo u84 (v_is true rfl (by rw [hl]; simp)) ?_
 refine L_nil (K_seq ?_)
 refine B_true rfl rfl ?_
 refine B_seq ?_
 refine B_drawP #[0, 1, 3, 7, 0, 16, 48, 112, 240, 511, 1023] (by kernel_rfl) ?_
 refine P_seg [0, 1, 2, 3, 4, 5, 6, 7, 8] (bef := #[0, 1, 3, 7, 0, 16, 48, 112, 240, 511, 1023]) (by kernel_rfl) (by kernel_rfl) (by kernel_rfl) ?_
 refine Oo u84 .calm rfl (v_move (.inl rfl) rfl) ?_
 refine Oo u84 .calm rfl (rfl) ?_
 refine Oo u84 .calm rfl (rfl) ?_
 refine O_opI (env' := u84) (x := .look _ _) rfl rfl rfl (W2r rfl rfl rfl rfl) rfl rfl rfl ?_
 refine Oo u84 .calm rfl (v_move (.inl rfl) rfl) ?_
 refine Oo u84 .calm rfl (rfl) ?_
 refine Oo u84 .calm rfl (rfl) ?_
 refine Oo u84 .look rfl (W2r rfl rfl rfl rfl) ?_
 refine O_call (env' := u84) rfl rfl rfl rfl rfl (by exact CloR _ _ _ _ (by rw [wk_len]; exact hrv) h0 (by omega)) (by first | exact Nat.le_refl _ | simp) rfl rfl ?_
 refine O_nil [_] (by rfl) (And.intro (And.intro (W2r rfl rfl rfl rfl) (W2r rfl rfl rfl rfl)) trivial) ?_
 refine P_call 9 (bef := #[0, 1, 3, 7, 0, 16, 48, 112, 240, 511, 1023]) (by kernel_rfl) (by kernel_rfl) rfl rfl rfl rfl (by exact Found_spec _ (H.length + 1) H.length (wk_at (n := 1) (by decide) rfl) (wk_at (n := 0) (by decide) rfl) row) ?_
 rintro _ _ ⟨rfl, X2, w, rfl, hw⟩; rw [wk_setf, List.append_assoc]
 refine P_env (env' := u84) rfl ?_
 refine P_seg [10] (bef := #[0, 1, 3, 7, 0, 16, 48, 112, 240, 511, 1023]) (by kernel_rfl) (by kernel_rfl) (by kernel_rfl) ?_
 refine Oo u84 .calm rfl (v_move (.inr rfl) rfl) ?_
 refine O_nil [] (by kernel_rfl) (trivial) ?_
 refine P_end (by kernel_rfl) ?_
 refine K_seq (B_ret (K_seqR ?_))
 refine E_keep (.inr rfl) (vres_tmp rfl rfl) ?_
 exact ⟨rv, X ++ X2, hrv.app _, .inr ⟨row, w, rfl, rfl, by rw [show (frm (kpB ws rss) (kpG u ws rss) 0 row (szP row row.length)).1 = 0 from rfl, Gz.add_zero, List.append_assoc], LV.behind (by rw [List.length_append, wk_len]) hw⟩⟩
theorem from_s {x : SW} (H : VHeap) {u y : Nat} {ws : List (BitVec 64)} {rss : List (List Rul)} (hy : y < H.length) (hn : ws.length ≤ 1000000) (hr : rss.length = ws.length) (hR : ∀ i, (rss.getD i []).length ≤ 1000000 ∧ ∀ r, r ∈ rss.getD i [] → r.steps.length ≤ 1000000) (n : Nat) (ih : ∀ (row : List Nat) (rv : VVal) (X : VHeap) (g : Gz) (hp : Pat row) (hrv : RV (H.length + 3) X rv (rcN row)) (h0 : row = [] → rv = niS), row.length + n = ws.length → F (psys x) 76 [.ptr (some (H.length + 2, 0)), iI (ws.length : Nat), iI (szP row row.length : Nat)] (wkH H y (kpV u ws rss y) rv niS g ++ X) (frPost H y (kpV u ws rss y) g row (frm (kpB ws rss) (kpG u ws rss) n row (szP row row.length)))) (row : List Nat) (rv : VVal) (X : VHeap) (g : Gz) (hp : Pat row) (hrv : RV (H.length + 3) X rv (rcN row)) (h0 : row = [] → rv = niS) (hl : row.length + (n + 1) = ws.length) : F (psys x) 76 [.ptr (some (H.length + 2, 0)), iI (ws.length : Nat), iI (szP row row.length : Nat)] (wkH H y (kpV u ws rss y) rv niS g ++ X) (frPost H y (kpV u ws rss y) g row (frm (kpB ws rss) (kpG u ws rss) (n + 1) row (szP row row.length))) := by
 refine F_body Tryd.func76 rfl u84 rfl ?_
 refine B_seq (B_region ?_)
 refine Lo u84 (v_const (VVal.bool false) (.inr rfl) rfl) ?_
 refine L_nil (K_seq (B_seq (B_seq ?_)))
 rw [List.append_nil]
 refine B_region ?_
 refine Lo u84 (v_move (.inl rfl) rfl) ?_
 refine Lo u84 (rfl) ?_
 refine Lo u84 (rfl) ?_
 refine Lo u84 (W2r rfl rfl rfl rfl) ?_
 refine Lo u84 (v_lenN rfl rfl rfl rfl hrv) ?_
 refine Lo u84 (v_move (.inl rfl) rfl) ?_
 refine Lo u84 (v_is false rfl (by simp; omega)) ?_
 refine L_nil (K_seq ?_)
 refine B_false rfl rfl ?_
 refine B_skip (K_seq (B_seq (B_seq (B_region ?_))))
 refine Lo u84 (v_const (VVal.int .i64 0) (.inr rfl) rfl) ?_
 refine L_nil (K_seq (B_block ?_))
 refine B_clear (mk 84 19342813113834066795298680) (env' := u84) rfl ?_
 refine B_loopE (fun (k : Nat) => szP row row.length + 1 - k) (fun (k : Nat) => [(7, iI (k : Nat))]) (fun (k : Nat) G => (k ≤ szP row row.length + 1) ∧ ∃ X1 rv1 d, G = wkH H y (kpV u ws rss y) rv1 niS (g + d) ++ X1 ∧ RV (H.length + 3) X1 rv1 (rcN row) ∧ frR (kpB ws rss) (kpG u ws rss) (frm (kpB ws rss) (kpG u ws rss) n) row (szP row row.length) 0 = (d + (frR (kpB ws rss) (kpG u ws rss) (frm (kpB ws rss) (kpG u ws rss) n) row (szP row row.length) k).1, (frR (kpB ws rss) (kpG u ws rss) (frm (kpB ws rss) (kpG u ws rss) n) row (szP row row.length) k).2)) 0 rfl ?_ ?_
 ·refine ⟨?_, ⟨X, rv, 0, by rw [Gz.add_zero], hrv, by rw [Gz.zero_add]⟩⟩
  exact Nat.zero_le _
 rintro k _ ⟨hk, ⟨X1, rv1, d, rfl, hr1, hx⟩⟩
 refine B_env (env' := u84) rfl ?_
 have hsz := @szP_le row row.length
 refine B_seq (B_seq (B_region ?_))
 refine Lo u84 (v_move (.inl rfl) rfl) ?_
 refine Lo u84 (v_move (.inl rfl) rfl) ?_
 refine Lo u84 (rfl) ?_
 refine L_nil (K_seq ?_)
 refine B_cond _ rfl (fun hc1 => ?_) (fun hc1 => ?_)
 ·try simp only [qB, qN] at hc1
  refine B_skip (K_seq (B_seq (B_block (B_seq (B_region ?_)))))
  refine Lo u84 (v_move (.inl rfl) rfl) ?_
  refine Lo u84 (v_move (.inl rfl) rfl) ?_
  refine Lo u84 (rfl) ?_
  refine Lo u84 (rfl) ?_
  refine Lo u84 (W2r rfl rfl rfl rfl) ?_
  refine Lo u84 (v_move (.inl rfl) rfl) ?_
  refine Lo u84 (v_buildSlice rfl rfl (by decide) rfl) ?_
  refine L_opX rfl rfl (v_rvApp rfl rfl rfl rfl rfl rfl rfl rfl (by rw [wk_len]; exact hr1) rfl (by rw [List.length_map]; show (row.length + 1) * 8 ≤ _ ∧ _; omega)) ?_
  rintro v2 _ ⟨Y1, rfl, hY⟩; have hY : RV (H.length + 3) Y1 v2 (rcN (row ++ [k])) := by rw [rcN_snoc]; rw [wk_len] at hY; exact hY
  refine Le u84 ?_
  refine Lo u84 (rfl) ?_
  refine Lo u84 (rfl) ?_
  refine Lo u84 (v_storeT rfl rfl rfl rfl hY.cells rfl (by simp [hY.one]) (wk_at (n := 2) (by decide) rfl) (Nat.le_of_ble_eq_true rfl) wk_setr) ?_
  refine L_nil (K_seq (B_seq ?_))
  refine B_drawP #[0, 1, 3, 7, 15, 31, 63, 127, 255, 511, 63, 1087, 3135, 7231, 15423, 32767, 65535, 131071, 262143, 524287, 524287, 524287, 524287, 4718591, 15204351, 33554431, 67108863, 134217727] (by kernel_rfl) ?_
  refine P_seg [0, 1, 2, 3, 4, 5, 6, 7, 8, 9, 10, 11, 12, 13, 14] (bef := #[0, 1, 3, 7, 15, 31, 63, 127, 255, 511, 63, 1087, 3135, 7231, 15423, 32767, 65535, 131071, 262143, 524287, 524287, 524287, 524287, 4718591, 15204351, 33554431, 67108863, 134217727]) (by kernel_rfl) (by kernel_rfl) (by kernel_rfl) ?_
  refine Oo u84 .calm rfl (v_move (.inl rfl) rfl) ?_
  refine Oo u84 .calm rfl (rfl) ?_
  refine Oo u84 .calm rfl (rfl) ?_
  refine Oo u84 .look rfl (W2r rfl rfl rfl rfl) ?_
  refine Oo u84 .calm rfl (rfl) ?_
  refine Oo u84 .calm rfl (v_move (.inl rfl) rfl) ?_
  refine Oo u84 .calm rfl (v_move (.inl rfl) rfl) ?_
  refine Oo u84 .calm rfl (rfl) ?_
  refine Oo u84 .calm rfl (rfl) ?_
  refine O_opI (env' := u84) (x := .look _ _) rfl rfl rfl (W2r rfl rfl rfl rfl) rfl rfl rfl ?_
  refine Oo u84 .calm rfl (v_move (.inl rfl) rfl) ?_
  refine Oo u84 .calm rfl (rfl) ?_
  refine Oo u84 .calm rfl (rfl) ?_
  refine Oo u84 .look rfl (W2r rfl rfl rfl rfl) ?_
  refine O_call (env' := u84) rfl rfl rfl rfl rfl (by exact CloR _ _ _ (row ++ [k]) (by rw [wk_len]; exact hY) (by simp) (by simp; omega)) (by first | exact Nat.le_refl _ | simp) rfl rfl ?_
  refine O_nil [_] (by rfl) (And.intro (And.intro (W2r rfl rfl rfl rfl) (W2r rfl rfl rfl rfl)) trivial) ?_
  refine P_call 15 (bef := #[0, 1, 3, 7, 15, 31, 63, 127, 255, 511, 63, 1087, 3135, 7231, 15423, 32767, 65535, 131071, 262143, 524287, 524287, 524287, 524287, 4718591, 15204351, 33554431, 67108863, 134217727]) (by kernel_rfl) (by kernel_rfl) rfl rfl rfl rfl (by exact hKeep_in hy (row ++ [k]) (Pat_snoc hp (by omega)) (by simp) (by simp; omega) hn hr hR) ?_
  rintro _ _ (⟨rfl, hk1, rfl⟩ | ⟨rfl, hk1, rfl⟩)
  ·skip
   refine P_env (env' := u84) rfl ?_
   refine P_seg [16, 17, 18, 19, 20, 21, 22, 23, 24] (bef := #[0, 1, 3, 7, 15, 31, 63, 127, 255, 511, 63, 1087, 3135, 7231, 15423, 32767, 65535, 131071, 262143, 524287, 524287, 524287, 524287, 4718591, 15204351, 33554431, 67108863, 134217727]) (by kernel_rfl) (by kernel_rfl) (by kernel_rfl) ?_
   refine Oo u84 .calm rfl (rfl) ?_
   refine Oo u84 .calm rfl (v_pickT rfl rfl rfl) ?_
   refine Oo u84 .calm rfl (v_move (.inl rfl) rfl) ?_
   refine Oo u84 .calm rfl (v_move (.inl rfl) rfl) ?_
   refine Oo u84 .calm rfl (v_move (.inl rfl) rfl) ?_
   refine Oo u84 .calm rfl (v_move (.inl rfl) rfl) ?_
   refine Oo u84 .calm rfl (v_move (.inl rfl) rfl) ?_
   refine Oo u84 .calm rfl (W14 rfl rfl rfl) ?_
   refine Oo u84 .calm rfl (v_val rfl (by show iI _ = iI ((max (szP row row.length) (k + 1) : Nat)); congr 1; omega)) ?_
   refine O_nil [] (by kernel_rfl) (trivial) ?_
   refine P_call 25 (bef := #[0, 1, 3, 7, 15, 31, 63, 127, 255, 511, 63, 1087, 3135, 7231, 15423, 32767, 65535, 131071, 262143, 524287, 524287, 524287, 524287, 4718591, 15204351, 33554431, 67108863, 134217727]) (by kernel_rfl) (by kernel_rfl) rfl rfl rfl rfl (by have := ih (row ++ [k]) _ _ (g + d + kpG u ws rss (row ++ [k])) (Pat_snoc hp (by omega)) hY (by simp) (by simp; omega); rw [szP_next (by omega)] at this; exact this) ?_
   rintro _ _ ⟨rv3, X3, hr3, (⟨ho, rfl, rfl⟩ | ⟨s, w, ho, rfl, rfl, hw⟩)⟩
   ·skip
    refine P_env (env' := u84) rfl ?_
    refine P_seg [26, 27] (bef := #[0, 1, 3, 7, 15, 31, 63, 127, 255, 511, 63, 1087, 3135, 7231, 15423, 32767, 65535, 131071, 262143, 524287, 524287, 524287, 524287, 4718591, 15204351, 33554431, 67108863, 134217727]) (by kernel_rfl) (by kernel_rfl) (by kernel_rfl) ?_
    refine Oo u84 .calm rfl (v_pickF rfl rfl rfl) ?_
    refine Oo u84 .calm rfl (v_move (.inr rfl) rfl) ?_
    refine O_nil [] (by kernel_rfl) (trivial) ?_
    refine P_end (by kernel_rfl) ?_
    refine K_seq (B_seq ?_)
    refine B_draw [0, 1, 2, 3, 4, 5, 6, 7, 8, 9, 10, 11, 12, 13, 14] #[0, 0, 2, 6, 14, 0, 32, 96, 224, 480, 992, 2046, 4095, 8191, 16383] (by kernel_rfl) (by kernel_rfl) (by kernel_rfl) ?_
    refine Oo u84 .calm rfl (v_move (.inl rfl) rfl) ?_
    refine Oo u84 .calm rfl (v_move (.inl rfl) rfl) ?_
    refine Oo u84 .calm rfl (rfl) ?_
    refine Oo u84 .calm rfl (rfl) ?_
    refine Oo u84 .look rfl (W2r rfl rfl rfl rfl) ?_
    refine Oo u84 .calm rfl (v_move (.inl rfl) rfl) ?_
    refine Oo u84 .calm rfl (rfl) ?_
    refine Oo u84 .calm rfl (rfl) ?_
    refine Oo u84 .look rfl (W2r rfl rfl rfl rfl) ?_
    refine Oo u84 .look rfl ((by first | exact v_lenN rfl rfl rfl rfl hr3 | exact v_lenN rfl rfl rfl rfl hY)) ?_
    refine Oo u84 .calm rfl (W2t rfl rfl rfl) ?_
    refine O_opX .calm rfl rfl rfl ((by first | exact v_rvCutN rfl rfl rfl rfl rfl rfl rfl (by simp) wk_len.symm hr3 _ | exact v_rvCutN rfl rfl rfl rfl rfl rfl rfl (by simp) wk_len.symm hY _)) rfl rfl ?_
    rintro v4 _ ⟨rfl, hr4⟩
    refine O_env (env' := u84) rfl ?_
    refine Oo u84 .calm rfl (rfl) ?_
    refine Oo u84 .calm rfl (rfl) ?_
    refine Oo u84 .turn rfl (v_storeT rfl rfl rfl rfl hr4.cells rfl (by simp [hr4.one]) (wk_at (n := 2) (by decide) rfl) (Nat.le_of_ble_eq_true rfl) wk_setr) ?_
    refine O_nil [] (by kernel_rfl) (trivial) ?_
    refine K_seq (B_seq (B_region ?_))
    refine Lo u84 (v_move (.inl rfl) rfl) ?_
    refine Lo u84 (rfl) ?_
    refine L_nil (K_seq ?_)
    refine B_false rfl rfl ?_
    refine B_skip (K_blk (K_seq (B_region ?_)))
    refine Lo u84 (v_move (.inl rfl) rfl) ?_
    refine Lo u84 (W14 rfl rfl rfl) ?_
    refine Lo u84 (v_move (.inr rfl) rfl) ?_
    refine L_nil ?_
    refine K_loop (mk 84 19342813113834066795298680) (env' := u84) rfl ⟨k + 1, ?_, rfl, ?_⟩
    ·first | omega | (simp only []; omega)
    ·first | exact ⟨by omega, _, _, d + (kpG u ws rss (row ++ [k]) + (frm (kpB ws rss) (kpG u ws rss) n (row ++ [k]) (max (szP row row.length) (k + 1))).1), by simp only [Gz.assoc], hr4, by rw [hx, frR_on (by omega) hk1 ho]; simp only [Gz.assoc]⟩ | exact ⟨by omega, _, _, d + kpG u ws rss (row ++ [k]), by simp only [Gz.assoc], hr4, by rw [hx, frR_no (by omega) hk1]; simp only [Gz.assoc]⟩
   ·skip
    refine P_env (env' := u84) rfl ?_
    refine P_seg [26, 27] (bef := #[0, 1, 3, 7, 15, 31, 63, 127, 255, 511, 63, 1087, 3135, 7231, 15423, 32767, 65535, 131071, 262143, 524287, 524287, 524287, 524287, 4718591, 15204351, 33554431, 67108863, 134217727]) (by kernel_rfl) (by kernel_rfl) (by kernel_rfl) ?_
    refine Oo u84 .calm rfl (v_pickF rfl rfl rfl) ?_
    refine Oo u84 .calm rfl (v_move (.inr rfl) rfl) ?_
    refine O_nil [] (by kernel_rfl) (trivial) ?_
    refine P_end (by kernel_rfl) ?_
    refine K_seq (B_seq ?_)
    refine B_draw [0, 1, 2, 3, 4, 5, 6, 7, 8, 9, 10, 11, 12, 13, 14] #[0, 0, 2, 6, 14, 0, 32, 96, 224, 480, 992, 2046, 4095, 8191, 16383] (by kernel_rfl) (by kernel_rfl) (by kernel_rfl) ?_
    refine Oo u84 .calm rfl (v_move (.inl rfl) rfl) ?_
    refine Oo u84 .calm rfl (v_move (.inl rfl) rfl) ?_
    refine Oo u84 .calm rfl (rfl) ?_
    refine Oo u84 .calm rfl (rfl) ?_
    refine Oo u84 .look rfl (W2r rfl rfl rfl rfl) ?_
    refine Oo u84 .calm rfl (v_move (.inl rfl) rfl) ?_
    refine Oo u84 .calm rfl (rfl) ?_
    refine Oo u84 .calm rfl (rfl) ?_
    refine Oo u84 .look rfl (W2r rfl rfl rfl rfl) ?_
    refine Oo u84 .look rfl ((by first | exact v_lenN rfl rfl rfl rfl hr3 | exact v_lenN rfl rfl rfl rfl hY)) ?_
    refine Oo u84 .calm rfl (W2t rfl rfl rfl) ?_
    refine O_opX .calm rfl rfl rfl ((by first | exact v_rvCutN rfl rfl rfl rfl rfl rfl rfl (by simp) wk_len.symm hr3 _ | exact v_rvCutN rfl rfl rfl rfl rfl rfl rfl (by simp) wk_len.symm hY _)) rfl rfl ?_
    rintro v4 _ ⟨rfl, hr4⟩
    refine O_env (env' := u84) rfl ?_
    refine Oo u84 .calm rfl (rfl) ?_
    refine Oo u84 .calm rfl (rfl) ?_
    refine Oo u84 .turn rfl (v_storeT rfl rfl rfl rfl hr4.cells rfl (by simp [hr4.one]) (wk_at (n := 2) (by decide) rfl) (Nat.le_of_ble_eq_true rfl) wk_setr) ?_
    refine O_nil [] (by kernel_rfl) (trivial) ?_
    refine K_seq (B_seq (B_region ?_))
    refine Lo u84 (v_move (.inl rfl) rfl) ?_
    refine Lo u84 (rfl) ?_
    refine L_nil (K_seq ?_)
    refine B_true rfl rfl ?_
    refine B_seq (B_region ?_)
    refine Lo u84 (v_const (VVal.bool false) (.inr rfl) rfl) ?_
    refine L_nil (K_seq (B_ret (K_blkR (K_seqR (K_loopR (K_blkR (K_seqR ?_)))))))
    refine E_keep (.inr rfl) (vres_tmp rfl rfl) ?_
    exact W2u
  ·skip
   refine P_env (env' := u84) rfl ?_
   refine P_seg [16, 17, 18, 19, 20, 21, 22, 23, 24] (bef := #[0, 1, 3, 7, 15, 31, 63, 127, 255, 511, 63, 1087, 3135, 7231, 15423, 32767, 65535, 131071, 262143, 524287, 524287, 524287, 524287, 4718591, 15204351, 33554431, 67108863, 134217727]) (by kernel_rfl) (by kernel_rfl) (by kernel_rfl) ?_
   refine Oo u84 .calm rfl (rfl) ?_
   refine Oo u84 .calm rfl (v_pickT rfl rfl rfl) ?_
   refine Oo u84 .calm rfl (v_move (.inl rfl) rfl) ?_
   refine Of u84 rfl ?_
   refine Of u84 rfl ?_
   refine Of u84 rfl ?_
   refine Of u84 rfl ?_
   refine Of u84 rfl ?_
   refine Of u84 rfl ?_
   refine O_nil [] (by kernel_rfl) (trivial) ?_
   refine P_seg [25, 26, 27] (bef := #[0, 1, 3, 7, 15, 31, 63, 127, 255, 511, 63, 1087, 3135, 7231, 15423, 32767, 65535, 131071, 262143, 524287, 524287, 524287, 524287, 4718591, 15204351, 33554431, 67108863, 134217727]) (by kernel_rfl) (by kernel_rfl) (by kernel_rfl) ?_
   refine Of u84 rfl ?_
   refine Oo u84 .calm rfl (v_pickTC (VVal.bool true) rfl rfl rfl) ?_
   refine Oo u84 .calm rfl (v_move (.inr rfl) rfl) ?_
   refine O_nil [] (by kernel_rfl) (trivial) ?_
   refine P_end (by kernel_rfl) ?_
   refine K_seq (B_seq ?_)
   refine B_draw [0, 1, 2, 3, 4, 5, 6, 7, 8, 9, 10, 11, 12, 13, 14] #[0, 0, 2, 6, 14, 0, 32, 96, 224, 480, 992, 2046, 4095, 8191, 16383] (by kernel_rfl) (by kernel_rfl) (by kernel_rfl) ?_
   refine Oo u84 .calm rfl (v_move (.inl rfl) rfl) ?_
   refine Oo u84 .calm rfl (v_move (.inl rfl) rfl) ?_
   refine Oo u84 .calm rfl (rfl) ?_
   refine Oo u84 .calm rfl (rfl) ?_
   refine Oo u84 .look rfl (W2r rfl rfl rfl rfl) ?_
   refine Oo u84 .calm rfl (v_move (.inl rfl) rfl) ?_
   refine Oo u84 .calm rfl (rfl) ?_
   refine Oo u84 .calm rfl (rfl) ?_
   refine Oo u84 .look rfl (W2r rfl rfl rfl rfl) ?_
   refine Oo u84 .look rfl ((by first | exact v_lenN rfl rfl rfl rfl hr3 | exact v_lenN rfl rfl rfl rfl hY)) ?_
   refine Oo u84 .calm rfl (W2t rfl rfl rfl) ?_
   refine O_opX .calm rfl rfl rfl ((by first | exact v_rvCutN rfl rfl rfl rfl rfl rfl rfl (by simp) wk_len.symm hr3 _ | exact v_rvCutN rfl rfl rfl rfl rfl rfl rfl (by simp) wk_len.symm hY _)) rfl rfl ?_
   rintro v4 _ ⟨rfl, hr4⟩
   refine O_env (env' := u84) rfl ?_
   refine Oo u84 .calm rfl (rfl) ?_
   refine Oo u84 .calm rfl (rfl) ?_
   refine Oo u84 .turn rfl (v_storeT rfl rfl rfl rfl hr4.cells rfl (by simp [hr4.one]) (wk_at (n := 2) (by decide) rfl) (Nat.le_of_ble_eq_true rfl) wk_setr) ?_
   refine O_nil [] (by kernel_rfl) (trivial) ?_
   refine K_seq (B_seq (B_region ?_))
   refine Lo u84 (v_move (.inl rfl) rfl) ?_
   refine Lo u84 (rfl) ?_
   refine L_nil (K_seq ?_)
   refine B_false rfl rfl ?_
   refine B_skip (K_blk (K_seq (B_region ?_)))
   refine Lo u84 (v_move (.inl rfl) rfl) ?_
   refine Lo u84 (W14 rfl rfl rfl) ?_
   refine Lo u84 (v_move (.inr rfl) rfl) ?_
   refine L_nil ?_
   refine K_loop (mk 84 19342813113834066795298680) (env' := u84) rfl ⟨k + 1, ?_, rfl, ?_⟩
   ·first | omega | (simp only []; omega)
   ·first | exact ⟨by omega, _, _, d + (kpG u ws rss (row ++ [k]) + (frm (kpB ws rss) (kpG u ws rss) n (row ++ [k]) (max (szP row row.length) (k + 1))).1), by simp only [Gz.assoc], hr4, by rw [hx, frR_on (by omega) hk1 ho]; simp only [Gz.assoc]⟩ | exact ⟨by omega, _, _, d + kpG u ws rss (row ++ [k]), by simp only [Gz.assoc], hr4, by rw [hx, frR_no (by omega) hk1]; simp only [Gz.assoc]⟩
 ·try simp only [qB, qN] at hc1
  refine B_exit (K_seqX (K_loopX (K_blkX (K_seq (B_seq (B_region ?_))))))
  refine Lo u84 (v_const (VVal.bool true) (.inr rfl) rfl) ?_
  refine L_nil (K_seq (B_ret ?_))
  refine E_keep (.inr rfl) (vres_tmp rfl rfl) ?_
  exact W2u
end Go.Proofs.YtnbihdflnjpinaaDoor.VT

set_option autoImplicit false
set_option linter.unusedVariables false
set_option linter.unusedSimpArgs false
set_option maxHeartbeats 4000000
set_option maxRecDepth 100000
namespace Go.Proofs.YtnbihdflnjpinaaDoor.VT
open Go Go.V Go.RowKit
abbrev u29 {a0 a1 a2 a3 a4 a5 a6 a7 a8 a9 a10 a11 a12 a13 a14 a15 a16 a17 a18 a19 a20 a21 a22 a23 a24 a25 a26 a27 a28 : VVal} : VEnv := a0 :: a1 :: a2 :: a3 :: a4 :: a5 :: a6 :: a7 :: a8 :: a9 :: a10 :: a11 :: a12 :: a13 :: a14 :: a15 :: a16 :: a17 :: a18 :: a19 :: a20 :: a21 :: a22 :: a23 :: a24 :: a25 :: a26 :: a27 :: a28 :: []
theorem W2x {T : TypeId → Option VTy} {H : VHeap} {op : Op} {ρ : Operand → VVal} {t : TypeId} {a : Operand} {y : VTy} {p v : VVal} (ho : op = .load t a) (ha : ρ a = p) (hy : T t = some y) (hd : isAggDesc y.desc = false) (h : LdOk H p v := by first | exact .inl ⟨_, _, rfl, by rfl⟩ | exact .inr ⟨_, _, _, _, rfl, by exact get_app (List.length_set) hX, by rfl⟩) : vop T ρ H op = some (v, H) := v_ld ho ha hy hd h
theorem from_spec {x : SW} (H : VHeap) {u y : Nat} {ws : List (BitVec 64)} {rss : List (List Rul)} (hy : y < H.length) (hn : ws.length ≤ 1000000) (hr : rss.length = ws.length) (hR : ∀ i, (rss.getD i []).length ≤ 1000000 ∧ ∀ r, r ∈ rss.getD i [] → r.steps.length ≤ 1000000) : ∀ (n : Nat) (row : List Nat) (rv : VVal) (X : VHeap) (g : Gz) (hp : Pat row) (hrv : RV (H.length + 3) X rv (rcN row)) (h0 : row = [] → rv = niS), row.length + n = ws.length → F (psys x) 76 [.ptr (some (H.length + 2, 0)), iI (ws.length : Nat), iI (szP row row.length : Nat)] (wkH H y (kpV u ws rss y) rv niS g ++ X) (frPost H y (kpV u ws rss y) g row (frm (kpB ws rss) (kpG u ws rss) n row (szP row row.length)))
  | 0, row, rv, X, g, hp, hrv, h0, hl => from_0 H hy hn hr hR row rv X g hp hrv h0 hl
  | n + 1, row, rv, X, g, hp, hrv, h0, hl => from_s H hy hn hr hR n (fun row rv X g a b c d => from_spec H hy hn hr hR n row rv X g a b c d) row rv X g hp hrv h0 hl
theorem from_in {x : SW} (H : VHeap) {u y : Nat} {ws : List (BitVec 64)} {rss : List (List Rul)} (g : Gz) (hs : H[y]? = some (gaB g)) (hn : ws.length ≤ 1000000) (hr : rss.length = ws.length) (hR : ∀ i, (rss.getD i []).length ≤ 1000000 ∧ ∀ r, r ∈ rss.getD i [] → r.steps.length ≤ 1000000) : F (psys x) 76 [.ptr (some (H.length + 2, 0)), iI (ws.length : Nat), iI 0] (H ++ [.cells [iI 1] true, .cells [niS] true, .cells [niS, (kpV u ws rss y), fdV H] true])
    fun v G => ∃ b X w, v = .bool b ∧ G = H.set y (gaB (g + (frm (kpB ws rss) (kpG u ws rss) ws.length [] 0).1)) ++ X ∧ X[1]? = some (.cells [w] true) ∧ LV H.length 1 X w ((frm (kpB ws rss) (kpG u ws rss) ws.length [] 0).2.toList.map fzN) (frm (kpB ws rss) (kpG u ws rss) ws.length [] 0).2.toList.length := by
  have := from_spec (x := x) (u := u) H (lt_of_get hs) hn hr hR ws.length [] niS [] g Pat_nil (RV.nil _ _) (fun _ => rfl) (Nat.zero_add _)
  rw [List.append_nil, show wkH H y (kpV u ws rss y) niS niS g = H ++ [.cells [iI 1] true, .cells [niS] true, .cells [niS, (kpV u ws rss y), fdV H] true] by unfold wkH; rw [← set_keep hs]] at this
  refine this.mono ?_
  rintro v G ⟨rv, X, hr, (⟨ho, rfl, rfl⟩ | ⟨s, w, ho, rfl, rfl, hw⟩)⟩
  · have ho : (frm (kpB ws rss) (kpG u ws rss) ws.length [] 0).2 = none := ho
    rw [ho]
    exact ⟨true, _ :: _ :: _ :: X, niS, rfl, by unfold wkH; rw [List.append_assoc]; rfl, rfl, LV.nil _ _ _⟩
  · have ho : (frm (kpB ws rss) (kpG u ws rss) ws.length [] 0).2 = some s := ho
    rw [ho]
    exact ⟨false, _, w, rfl, by unfold wkH; rw [List.append_assoc]; rfl, rfl, LV.behind (X := [.cells [iI 1] true, .cells [w] true, .cells [rv, (kpV u ws rss y), fdV H] true]) rfl hw⟩
theorem Search_spec {x : SW} (H : VHeap) {u y : Nat} {ws : List (BitVec 64)} {rss : List (List Rul)} (g : Gz) (hs : H[y]? = some (gaB g)) (hn : ws.length ≤ 1000000) (hr : rss.length = ws.length) (hR : ∀ i, (rss.getD i []).length ≤ 1000000 ∧ ∀ r, r ∈ rss.getD i [] → r.steps.length ≤ 1000000) (h12 : ws.length ≤ 12) : F (psys x) 52 [iI (ws.length : Nat), iI 1, (kpV u ws rss y)] H fun v G => v = .fsl ((frm (kpB ws rss) (kpG u ws rss) ws.length [] 0).2.toList.map fzN) (frm (kpB ws rss) (kpG u ws rss) ws.length [] 0).2.toList.length 1 false ∧ G = H.set y (gaB (g + (frm (kpB ws rss) (kpG u ws rss) ws.length [] 0).1)) := by
 refine F_body Tryd.func52 rfl u29 rfl ?_
 refine B_seq (B_region ?_)
 refine Lo u29 (v_boxT rfl rfl rfl) ?_
 refine Lo u29 (v_const (VVal.slice none 0 0 true 0) (.inr rfl) rfl) ?_
 refine L_nil (K_seq (B_seq (B_region ?_)))
 refine Lo u29 (W12 rfl rfl rfl rfl) ?_
 refine Lo u29 (rfl) ?_
 refine Lo u29 (W13 rfl rfl rfl rfl rfl rfl rfl) ?_
 refine L_nil (K_seq (B_seq (B_seq (B_region ?_))))
 refine Lo u29 (v_move (.inl rfl) rfl) ?_
 refine Lo u29 (v_is false rfl (by simp)) ?_
 refine Lo u29 (v_move (.inl rfl) rfl) ?_
 refine Lo u29 (v_move (.inl rfl) rfl) ?_
 refine Lo u29 (v_is false rfl (by simp; omega)) ?_
 refine Lo u29 (v_pickF rfl rfl rfl) ?_
 refine Lo u29 (v_move (.inl rfl) rfl) ?_
 refine Lo u29 (W12 rfl rfl rfl rfl) ?_
 refine Lo u29 (rfl) ?_
 refine Lo u29 (v_pickF rfl rfl rfl) ?_
 refine L_nil (K_seq ?_)
 refine B_false rfl rfl ?_
 refine B_skip (K_seq (B_seq (B_region ?_)))
 refine Lo u29 (v_alloc rfl rfl) ?_
 refine L_nil (K_seq (B_seq (B_region ?_)))
 refine Lo u29 (v_move (.inl rfl) rfl) ?_
 refine Lo u29 (v_func [_, _] rfl rfl) ?_
 refine Lo u29 (rfl) ?_
 refine Lo u29 (v_boxT rfl rfl rfl) ?_
 refine Lo u29 (v_move (.inr rfl) rfl) ?_
 refine L_nil (K_seq (B_seq (B_region ?_)))
 refine Lo u29 (v_move (.inl rfl) rfl) ?_
 refine Lo u29 (v_move (.inl rfl) rfl) ?_
 refine L_call rfl rfl rfl (by exact from_in H g hs hn hr hR) ?_
 rintro _ _ ⟨b, X, w, rfl, rfl, hX, hw⟩
 refine Le u29 ?_
 refine L_nil (K_seq (B_seq (B_region ?_)))
 refine Lo u29 (W2x rfl rfl rfl rfl) ?_
 refine Lo u29 (v_move (.inr rfl) rfl) ?_
 refine L_nil (K_seq (B_ret ?_))
 refine E_gh (.inr rfl) (vres_tmp rfl rfl) (Gh.ansLV (B := H.set y (gaB (g + (frm (kpB ws rss) (kpG u ws rss) ws.length [] 0).1))) (BaseOk.set (BaseOk.refl _) _ rfl) (by rw [List.length_set]; exact hw) (VVal.underL_map (f := fzN) fun a => mapN_under _ a)) ?_
 exact ⟨rfl, rfl⟩
end Go.Proofs.YtnbihdflnjpinaaDoor.VT
