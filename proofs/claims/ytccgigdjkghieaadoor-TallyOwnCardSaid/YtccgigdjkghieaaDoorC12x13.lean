/- Proved: Rows.TallyOwnCardSaid, the statement TallyOwn with its card, of the given program at the commit; no conditions beyond those in the statement. -/
import Derived.Test.YtccgigdjkghieaaDoorC12x12
import Derived.Shelf.Spec.TrailingZeros
import Derived.KernelRfl
set_option autoImplicit false
set_option linter.unusedVariables false
set_option maxRecDepth 100000
namespace Go.Proofs.YtccgigdjkghieaaDoor.VT
open Go Go.V Go.Shelf Go.RowKit
noncomputable def ren : Ren := { f := fun _ => 163, t := fun t => if t = 54 then 177 else if t = 22 then 35 else if t = 25 then 153 else t, g := fun _ => 0 }
theorem mixed : Tryd.prog.follows .mixedOrders = true := by kernel_rfl
theorem tzLays : Lays7.n29 Tryd.prog ren := by
 constructor
 case mixed => exact mixed
 case f29 => exact Tryd.func163.trans XH3
 case t0 => exact Tryd.underlying0
 case a0 => exact Tryd.isAgg0
 case z0 => exact Tryd.sizeOf0
 case v0 => exact Tryd.zeroValue0
 case i0 => kernel_rfl
 case t3 => exact Tryd.underlying3
 case a3 => exact Tryd.isAgg3
 case z3 => exact Tryd.sizeOf3
 case v3 => exact Tryd.zeroValue3
 case i3 => kernel_rfl
 case t4 => exact Tryd.underlying4
 case a4 => exact Tryd.isAgg4
 case z4 => exact Tryd.sizeOf4
 case v4 => exact Tryd.zeroValue4
 case i4 => kernel_rfl
 case t5 => exact Tryd.underlying5
 case a5 => exact Tryd.isAgg5
 case z5 => exact Tryd.sizeOf5
 case v5 => exact Tryd.zeroValue5
 case i5 => kernel_rfl
 case t22 => exact Tryd.underlying35
 case a22 => exact Tryd.isAgg35
 case z22 => exact Tryd.sizeOf35
 case v22 => exact Tryd.zeroValue35
 case i22 => kernel_rfl
 case t25 => exact Tryd.underlying153
 case a25 => exact Tryd.isAgg153
 case z25 => exact Tryd.sizeOf153
 case v25 => exact Tryd.zeroValue153
 case i25 => kernel_rfl
 case t54 => exact Tryd.underlying177
 case a54 => exact Tryd.isAgg177
 case z54 => exact Tryd.sizeOf177
 case g1 => kernel_rfl
noncomputable def cfg : Cfg := { T := tys, meth := fun _ _ => none, fn := fun f => Tryd.prog.funcs[f]? }
theorem cfgOk {w0 : World} : CfgOk Tryd.prog cfg w0 where
 mixed := mixed
 tys := tysOk
 fns f fn hf := ⟨hf, names_ok XH3 hf⟩
 meths t name f h := by cases h
structure SW where
 w : World
 h0 : 0 < w.heap.size
 hT : TabAt 0 Lib.deBruijn64tab w
noncomputable def psys (x : SW) : V.Sys := ⟨Tryd.prog, cfg, x.w, cfgOk⟩
theorem tz_spec {x : SW} (H : Ze) (m : BitVec 64) : F (psys x) 163 [iW m] H fun v G => v = .int .i64 (Lib.ctz 64 m.toNat) ∧ G = H := by
 intro n w ι args' s ra
 refine ⟨Tryd.call163 args' w, ?_⟩
 obtain ⟨y, hy, ry⟩ := Jc ra
 have hy' : args' = #[y] := by apply Array.ext'; simpa using hy
 simp only [Rel] at ry
 subst hy' ry
 have hT' : TabAt 0 Lib.deBruijn64tab w := by
  intro j hj
  have := x.hT j hj
  rw [← this]
  simp only [World.cell?]
  rw [s.below.block 0 x.h0]
  rfl
 have := Any7.bits_TrailingZeros64 tzLays m.toNat m.isLt w (fun _ => hT')
 refine callsIn_wide.2 (this.mono ?_)
 rintro e w' ⟨rfl, rfl⟩
 exact ⟨_, _, H, ι, rfl, Inj.ex_refl _ _, Nat.le_refl _, s, by simp [Rel], rfl, rfl⟩
set_option linter.unusedSimpArgs false
set_option maxHeartbeats 4000000
open Go Go.V
abbrev u4 {a0 a1 a2 a3 : VVal} : VEnv := a0 :: a1 :: a2 :: a3 :: []
abbrev u6 {a0 a1 a2 a3 a4 a5 : VVal} : VEnv := a0 :: a1 :: a2 :: a3 :: a4 :: a5 :: []
abbrev u7 {a0 a1 a2 a3 a4 a5 a6 : VVal} : VEnv := a0 :: a1 :: a2 :: a3 :: a4 :: a5 :: a6 :: []
abbrev u13 {a0 a1 a2 a3 a4 a5 a6 a7 a8 a9 a10 a11 a12 : VVal} : VEnv := a0 :: a1 :: a2 :: a3 :: a4 :: a5 :: a6 :: a7 :: a8 :: a9 :: a10 :: a11 :: a12 :: []
abbrev u16 {a0 a1 a2 a3 a4 a5 a6 a7 a8 a9 a10 a11 a12 a13 a14 a15 : VVal} : VEnv := a0 :: a1 :: a2 :: a3 :: a4 :: a5 :: a6 :: a7 :: a8 :: a9 :: a10 :: a11 :: a12 :: a13 :: a14 :: a15 :: []
abbrev u18 {a0 a1 a2 a3 a4 a5 a6 a7 a8 a9 a10 a11 a12 a13 a14 a15 a16 a17 : VVal} : VEnv := a0 :: a1 :: a2 :: a3 :: a4 :: a5 :: a6 :: a7 :: a8 :: a9 :: a10 :: a11 :: a12 :: a13 :: a14 :: a15 :: a16 :: a17 :: []
abbrev u20 {a0 a1 a2 a3 a4 a5 a6 a7 a8 a9 a10 a11 a12 a13 a14 a15 a16 a17 a18 a19 : VVal} : VEnv := a0 :: a1 :: a2 :: a3 :: a4 :: a5 :: a6 :: a7 :: a8 :: a9 :: a10 :: a11 :: a12 :: a13 :: a14 :: a15 :: a16 :: a17 :: a18 :: a19 :: []
abbrev u35 {a0 a1 a2 a3 a4 a5 a6 a7 a8 a9 a10 a11 a12 a13 a14 a15 a16 a17 a18 a19 a20 a21 a22 a23 a24 a25 a26 a27 a28 a29 a30 a31 a32 a33 a34 : VVal} : VEnv := a0 :: a1 :: a2 :: a3 :: a4 :: a5 :: a6 :: a7 :: a8 :: a9 :: a10 :: a11 :: a12 :: a13 :: a14 :: a15 :: a16 :: a17 :: a18 :: a19 :: a20 :: a21 :: a22 :: a23 :: a24 :: a25 :: a26 :: a27 :: a28 :: a29 :: a30 :: a31 :: a32 :: a33 :: a34 :: []
theorem W10 {S : V.Sys} {H : Ze} {fn : Func} {ex : Exit} {env : VEnv} {B L : Ze} {v : VVal} {R : VVal → Ze → Prop} (hx : ex = .normal ∨ ex = .ret) (hv : ZX S.C.T env (B ++ L) fn.results = some v) (h : R v B) (hB : BaseOk H B := by exact XH41) (hu : v.under H.length = true := by exact XH49) : fnK S fn H R ex env (B ++ L) := Xk hx hv hB hu h
theorem W11 {T : TypeId → Option VTy} {H : Ze} {op : Op} {ρ : Operand → VVal} {t : TypeId} {a : Operand} {y : VTy} {p : VVal} {n : Nat} {vs : List VVal} (ho : op = .load t a) (ha : ρ a = p) (hy : T t = some y) (hd : Zk y.desc = true) (hn : y.size = n) (h : XF H p n vs := by first | exact .inl ⟨_, _, rfl, XH36⟩ | exact .inr ⟨_, _, _, _, rfl, XH35, XH36⟩) : vop T ρ H op = some (.agg vs, H) := XI ho ha hy hd hn h
theorem W12 {T : TypeId → Option VTy} {H : Ze} {op : Op} {ρ : Operand → VVal} {t : TypeId} {a : Operand} {y : VTy} {p v : VVal} (ho : op = .load t a) (ha : ρ a = p) (hy : T t = some y) (hd : Zk y.desc = false) (h : LdOk H p v := by first | exact .inl ⟨_, _, rfl, XH36⟩ | exact .inr ⟨_, _, _, _, rfl, XH35, XH36⟩) : vop T ρ H op = some (v, H) := Yv ho ha hy hd h
theorem W13 {T : TypeId → Option VTy} {H : Ze} {op : Op} {ρ : VEnv} {H' : Ze} {t : TypeId} {a : Operand} {i : Nat} {v : VVal} {y : VTy} {b off : Nat} {cs new : List VVal} (ho : op = .store t a (.tmp i)) (hv : ρ[i]? = some v) (ha : ρ.eval a = .ptr (some (b, off))) (hy : T t = some y) (hx : v.cells = some new) (hn : new.length = y.size) (h1 : new.all VVal.one = true) (hb : H[b]? = some (.cells cs true) := by exact XH35) (hl : off + new.length ≤ cs.length := by exact XH38) (hH : H.set b (.cells (Zx cs off new) true) = H' := by first | exact setE0 rfl rfl | (simp only [List.append_assoc, List.singleton_append, List.cons_append, List.nil_append]; refine setE (i := 0) rfl ?_; simp; done) | (simp only [List.append_assoc, List.singleton_append, List.cons_append, List.nil_append]; refine setE (i := 1) rfl ?_; simp; done) | (simp only [List.append_assoc, List.singleton_append, List.cons_append, List.nil_append]; refine setE (i := 2) rfl ?_; simp; done) | (simp only [List.append_assoc, List.singleton_append, List.cons_append, List.nil_append]; refine setE (i := 3) rfl ?_; simp; done) | (refine setB rfl ?_; simp; done) | exact ZO rfl | exact Yl (ZG (by assumption)) | rfl) : vop T ρ.eval H op = some (.skip, H') := Z3 ho hv ha hy hx hn h1 hb hl hH
theorem W14 {T : TypeId → Option VTy} {H : Ze} {op : Op} {ρ : Operand → VVal} {t ty : TypeId} {x y : Operand} {n m : Int} (ho : op = .binOp .add t x y ty) (hx : ρ x = .int .i64 n) (hy : ρ y = .int .i64 m) (h : -9223372036854775808 ≤ n + m ∧ n + m < 9223372036854775808 := by exact XH51) : vop T ρ H op = some (.int .i64 (n + m), H) := Zab ho hx hy h
theorem Ones_all {x : SW} (H : Ze) : F (psys x) 166 [.int .u64 ((18446744073709551615#64).toNat : Int)] H fun v G => v = .int .i64 64 ∧ G = H := by
 refine Zp Tryd.func166 rfl u35 rfl ?_
 refine Zc (Za (Lk u35 (.int .i64 0) ?_))
 refine Zd (Zb (Zc (Za (Lm u35 ?_))))
 refine Lo u35 (Xd rfl rfl rfl XH4) ?_
 refine Lo u35 (Xs (b := 6148914691236517205#64) rfl rfl rfl) ?_
 refine Lm u35 ?_
 refine Lo u35 (Xs (b := 6148914691236517205#64) rfl rfl rfl) ?_
 refine Lo u35 (XY rfl rfl rfl) ?_
 refine La u35 ?_
 refine Zd (Zb (Zc (Za (Lm u35 ?_))))
 refine Lo u35 (Xd rfl rfl rfl XH4) ?_
 refine Lo u35 (Xs (b := 3689348814741910323#64) rfl rfl rfl) ?_
 refine Lm u35 ?_
 refine Lo u35 (Xs (b := 3689348814741910323#64) rfl rfl rfl) ?_
 refine Lo u35 (XY rfl rfl rfl) ?_
 refine La u35 ?_
 refine Zd (Zb (Zc (Za (Lm u35 ?_))))
 refine Lo u35 (Xd rfl rfl rfl XH4) ?_
 refine Lm u35 ?_
 refine Lo u35 (XY rfl rfl rfl) ?_
 refine Lo u35 (Xs (b := 1085102592571150095#64) rfl rfl rfl) ?_
 refine La u35 ?_
 refine Zd (Zb (Zc (Za (Lm u35 ?_))))
 refine Lm u35 ?_
 refine Lo u35 (Xd rfl rfl rfl XH4) ?_
 refine Lo u35 (XY rfl rfl rfl) ?_
 refine La u35 ?_
 refine Zd (Zb (Zc (Za (Lm u35 ?_))))
 refine Lm u35 ?_
 refine Lo u35 (Xd rfl rfl rfl XH4) ?_
 refine Lo u35 (XY rfl rfl rfl) ?_
 refine La u35 ?_
 refine Zd (Zb (Zc (Za (Lm u35 ?_))))
 refine Lm u35 ?_
 refine Lo u35 (Xd rfl rfl rfl XH4) ?_
 refine Lo u35 (XY rfl rfl rfl) ?_
 refine La u35 ?_
 refine Zd (Zb (Zc (Za (Lm u35 ?_))))
 refine Lo u35 rfl ?_
 refine Lo u35 rfl ?_
 refine La u35 ?_
 refine Zd (Zb (Zj (W10 (.inr rfl) (Zf rfl rfl) ?_)))
 exact ⟨rfl, rfl⟩
theorem Zb4 {x : SW} (H : Ze) (w : BitVec 64) : F (psys x) 149 [.agg [iW w]] H fun v G => v = .int .i64 64 ∧ G = H := by
 refine Zp Tryd.func149 rfl u6 rfl ?_
 refine Zc (Za (Lo u6 (ZJ rfl rfl rfl) ?_))
 refine Lk u6 (.int .i64 0) ?_
 refine Zd (Zb (Zc (Za (Lo u6 ((rfl : vop _ _ _ _ = some (VVal.int .u64 (((0#64 : BitVec 64).toNat : Nat) : Int), _))) ?_))))
 refine Lo u6 (v_xorU rfl rfl) ?_
 refine Zs rfl rfl rfl (by exact Ones_all _) ?_
 rintro _ _ ⟨rfl, rfl⟩
 refine Le u6 ?_
 refine La u6 ?_
 refine Zd (Zb (Zj (W10 (.inr rfl) (Zf rfl rfl) ?_)))
 exact ⟨rfl, rfl⟩
theorem within_spec {x : SW} (H : Ze) (w : BitVec 64) (i : Int) : F (psys x) 125 [.agg [iW w], iI i] H fun v G => v = .bool (decide (0 ≤ i ∧ i < 64)) ∧ G = H := by
 refine Zp Tryd.func125 rfl u13 rfl ?_
 refine Zc (Za (Lo u13 (ZJ rfl rfl rfl) ?_))
 refine Lk u13 (.bool false) ?_
 refine Zd (Zb (Zc (Za (Lm u13 ?_))))
 refine Lo u13 rfl ?_
 refine Lm u13 ?_
 refine ZB 7 (env1 := u13) (env2 := u13) rfl rfl rfl (fun hg1 => ?_) (fun hg1 => ?_)
 ·try simp only [qB] at hg1
  refine Lm u13 ?_
  refine Lo u13 (W11 rfl rfl rfl rfl rfl) ?_
  refine Zs rfl rfl rfl (by exact Zb4 _ _) ?_
  rintro _ _ ⟨rfl, rfl⟩
  refine Le u13 ?_
  refine Lo u13 rfl ?_
  refine Lo u13 (ZM rfl rfl rfl) ?_
  refine La u13 ?_
  refine Zd (Zb (Zj (W10 (.inr rfl) (Zf rfl rfl) ?_)))
  exact ⟨by simp [*]; try omega, rfl⟩
 try simp only [qB] at hg1
 refine Lf u13 ?_
 refine Lf u13 ?_
 refine Lf u13 ?_
 refine Lf u13 ?_
 refine Lo u13 (ZC (VVal.bool false) rfl rfl rfl) ?_
 refine La u13 ?_
 refine Zd (Zb (Zj (W10 (.inr rfl) (Zf rfl rfl) ?_)))
 exact ⟨by simp [*]; try omega, rfl⟩
theorem Has_spec {x : SW} (H : Ze) (w : BitVec 64) (i : Int) : F (psys x) 83 [.agg [iW w], iI i] H fun v G => v = .bool (decide (0 ≤ i ∧ i < 64) && w.getLsbD i.toNat) ∧ G = H := by
 refine Zp Tryd.func83 rfl u16 rfl ?_
 refine Zc (Za (Lo u16 (ZJ rfl rfl rfl) ?_))
 refine Lk u16 (.bool false) ?_
 refine Zd (Zb (Zc (Za (Lo u16 (W11 rfl rfl rfl rfl rfl) ?_))))
 refine Lm u16 ?_
 refine Zs rfl rfl rfl (by exact within_spec _ _ _) ?_
 rintro _ _ ⟨rfl, rfl⟩
 refine Le u16 ?_
 refine Lm u16 ?_
 refine ZB 8 (env1 := u16) (env2 := u16) rfl rfl rfl (fun hg1 => ?_) (fun hg1 => ?_)
 ·try simp only [qB] at hg1
  refine Lo u16 rfl ?_
  refine Lo u16 (W12 rfl rfl rfl rfl) ?_
  refine Lm u16 ?_
  refine Lo u16 (Xd rfl rfl rfl XH4) ?_
  refine Lo u16 (Xs (b := 1#64) rfl rfl rfl) ?_
  refine Lo u16 rfl ?_
  refine Lo u16 (ZM rfl rfl rfl) ?_
  refine La u16 ?_
  refine Zd (Zb (Zj (W10 (.inr rfl) (Zf rfl rfl) ?_)))
  exact ⟨by (first | exact (congrArg VVal.bool (by rw [decide_eq_true hg1, Bool.true_and, ← bit1, ← beq_wd1])) | (rw [decide_eq_false (by omega), Bool.false_and])), rfl⟩
 try simp only [qB] at hg1
 refine Lf u16 ?_
 refine Lf u16 ?_
 refine Lf u16 ?_
 refine Lf u16 ?_
 refine Lf u16 ?_
 refine Lf u16 ?_
 refine Lo u16 (ZC (VVal.bool false) rfl rfl rfl) ?_
 refine La u16 ?_
 refine Zd (Zb (Zj (W10 (.inr rfl) (Zf rfl rfl) ?_)))
 exact ⟨by (first | exact (congrArg VVal.bool (by rw [decide_eq_true hg1, Bool.true_and, ← bit1, ← beq_wd1])) | (rw [decide_eq_false (by omega), Bool.false_and])), rfl⟩
theorem Of_spec {x : SW} (H : Ze) (w u : BitVec 64) : F (psys x) 93 [.agg [iW w], iW u] H fun v G => v = .agg [iW u] ∧ G = H := by
 refine Zp Tryd.func93 rfl u7 rfl ?_
 refine Zc (Za (Lo u7 (ZJ rfl rfl rfl) ?_))
 refine Lo u7 (ZP rfl rfl) ?_
 refine Zd (Zb (Zc (Za (Lm u7 ?_))))
 refine Lo u7 rfl ?_
 refine Lo u7 (W13 rfl rfl rfl rfl rfl rfl rfl) ?_
 refine Zd (Zb (Zj ?_))
 refine W10 (.inr rfl) (YV rfl rfl rfl rfl XH0 XH6) ?_
 exact ⟨rfl, rfl⟩
theorem below_spec {x : SW} (H : Ze) (w : BitVec 64) (i : Int) : F (psys x) 162 [.agg [iW w], iI i] H fun v G => v = iW (if i ≤ 0 then 0#64 else if 64 ≤ i then ~~~0#64 else 1#64 <<< i.toNat - 1#64) ∧ G = H := by
 refine Zp Tryd.func162 rfl u18 rfl ?_
 refine Zc (Za (Lo u18 (ZJ rfl rfl rfl) ?_))
 refine Lk u18 (.int .u64 0) ?_
 refine Zd (Zb (Zc (Zg (Zc (Za (Lm u18 ?_))))))
 refine Lo u18 rfl ?_
 refine La u18 ?_
 refine Zd (Zb (Zi _ rfl (fun hc1 => ?_) (fun hc1 => ?_)))
 ·try simp only [qB] at hc1
  refine Zc (Za (Lk u18 (.int .u64 0) ?_))
  refine Zd (Zb (Zj (ZE (Zl (W10 (.inr rfl) (Zf rfl rfl) ?_)))))
  exact ⟨by (first | rw [if_pos hc1]; rfl | rw [if_neg (by omega), if_pos (by omega)] | rw [if_neg (by omega), if_neg (by omega)]), rfl⟩
 try simp only [qB] at hc1
 refine Zc (Za (Lm u18 ?_))
 refine Lo u18 (W11 rfl rfl rfl rfl rfl) ?_
 refine Zs rfl rfl rfl (by exact Zb4 _ _) ?_
 rintro _ _ ⟨rfl, rfl⟩
 refine Le u18 ?_
 refine Lo u18 rfl ?_
 refine La u18 ?_
 refine Zd (Zb (Zi _ rfl (fun hc2 => ?_) (fun hc2 => ?_)))
 ·try simp only [qB] at hc2
  refine Zc (Za (Lo u18 ((rfl : vop _ _ _ _ = some (VVal.int .u64 (((0#64 : BitVec 64).toNat : Nat) : Int), _))) ?_))
  refine Lo u18 (v_xorU rfl rfl) ?_
  refine La u18 ?_
  refine Zd (Zb (Zj (ZE (Zl (W10 (.inr rfl) (Zf rfl rfl) ?_)))))
  exact ⟨by (first | rw [if_pos hc1]; rfl | rw [if_neg (by omega), if_pos (by omega)] | rw [if_neg (by omega), if_neg (by omega)]), rfl⟩
 try simp only [qB] at hc2
 refine Zh (Zq (Zb (Zc (Za (Lm u18 ?_)))))
 refine Lo u18 (Qh rfl rfl rfl XH4) ?_
 refine Lo u18 (v_subW (b := 1#64) rfl rfl rfl) ?_
 refine La u18 ?_
 refine Zd (Zb (Zj (W10 (.inr rfl) (Zf rfl rfl) ?_)))
 exact ⟨by (first | rw [if_pos hc1]; rfl | rw [if_neg (by omega), if_pos (by omega)] | rw [if_neg (by omega), if_neg (by omega)]), rfl⟩
theorem Zdm {x : SW} (H : Ze) (w : BitVec 64) (i : Int) : F (psys x) 145 [.agg [iW w], iI i] H fun v G => v = iI (nx (w &&& ~~~bel i)) ∧ G = H := by
 refine Zp Tryd.func145 rfl u20 rfl ?_
 refine Zc (Za (Lo u20 (ZJ rfl rfl rfl) ?_))
 refine Lk u20 (.int .i64 0) ?_
 refine Zd (Zb (Zc (Za (Lo u20 rfl ?_))))
 refine Lo u20 (W12 rfl rfl rfl rfl) ?_
 refine La u20 ?_
 refine Zd (Zb (Zc (Zc (Za (Lm u20 ?_)))))
 refine Lo u20 rfl ?_
 refine Zd (Zb (Zi _ rfl (fun hc1 => ?_) (fun hc1 => ?_)))
 ·try simp only [qB] at hc1
  refine ZK [0, 1, 2, 3, 4, 5, 6] #[0, 1, 0, 0, 12, 31, 63] XH3 XH3 XH3 ?_
  refine Oc u20 rfl rfl ?_
  refine Yb (env' := u20) (x := .look _ _) rfl rfl rfl (W12 rfl rfl rfl rfl) rfl rfl rfl ?_
  refine Ok u20 rfl (W11 rfl rfl rfl rfl rfl) ?_
  refine Om u20 ?_
  refine Yd (env' := u20) rfl rfl rfl rfl rfl (by exact below_spec _ _ _) XH8 rfl rfl ?_
  refine Oc u20 rfl (Qj rfl rfl rfl) ?_
  refine Oc u20 rfl (Yo (.inr rfl) rfl) ?_
  refine ZW [_] (by rfl) (And.intro (And.intro (W12 rfl rfl rfl rfl) (W12 rfl rfl rfl rfl)) trivial) ?_
  refine Zb (Zc (Zc (Za (Lm u20 ?_))))
  refine Lo u20 rfl ?_
  refine Zd (Zb (Zi _ rfl (fun hc2 => ?_) (fun hc2 => ?_)))
  ·try simp only [qB] at hc2
   refine Zc (Za (Lo u20 (Z4 (VVal.int .i64 (-1)) (.inr rfl) rfl) ?_))
   refine Zd (Zb (Zj (Zl (W10 (.inr rfl) (Zf rfl rfl) ?_))))
   have hb : ¬ 0 < i → w &&& ~~~bel i = w := fun h => by rw [show bel i = 0#64 from if_pos (by omega), show ~~~0#64 = BitVec.allOnes 64 from rfl, BitVec.and_allOnes]
   exact ⟨by (first | (rw [show nx (w &&& ~~~bel i) = -1 from if_pos ‹_›]) | (rw [show nx (w &&& ~~~bel i) = _ from if_neg ‹_›]; rfl) | (rw [hb (by omega), show nx w = -1 from if_pos ‹_›]) | (rw [hb (by omega), show nx w = _ from if_neg ‹_›])), rfl⟩
  try simp only [qB] at hc2
  refine Zh (Zb (Zc (Za (Lm u20 ?_))))
  refine Zs rfl rfl rfl (by exact tz_spec _ _) ?_
  rintro _ _ ⟨rfl, rfl⟩
  refine Le u20 ?_
  refine La u20 ?_
  refine Zd (Zb (Zj (W10 (.inr rfl) (Zf rfl rfl) ?_)))
  have hb : ¬ 0 < i → w &&& ~~~bel i = w := fun h => by rw [show bel i = 0#64 from if_pos (by omega), show ~~~0#64 = BitVec.allOnes 64 from rfl, BitVec.and_allOnes]
  exact ⟨by (first | (rw [show nx (w &&& ~~~bel i) = -1 from if_pos ‹_›]) | (rw [show nx (w &&& ~~~bel i) = _ from if_neg ‹_›]; rfl) | (rw [hb (by omega), show nx w = -1 from if_pos ‹_›]) | (rw [hb (by omega), show nx w = _ from if_neg ‹_›])), rfl⟩
 try simp only [qB] at hc1
 refine Zh (Zb (Zc (Zc (Za (Lm u20 ?_)))))
 refine Lo u20 rfl ?_
 refine Zd (Zb (Zi _ rfl (fun hc3 => ?_) (fun hc3 => ?_)))
 ·try simp only [qB] at hc3
  refine Zc (Za (Lo u20 (Z4 (VVal.int .i64 (-1)) (.inr rfl) rfl) ?_))
  refine Zd (Zb (Zj (Zl (W10 (.inr rfl) (Zf rfl rfl) ?_))))
  have hb : ¬ 0 < i → w &&& ~~~bel i = w := fun h => by rw [show bel i = 0#64 from if_pos (by omega), show ~~~0#64 = BitVec.allOnes 64 from rfl, BitVec.and_allOnes]
  exact ⟨by (first | (rw [show nx (w &&& ~~~bel i) = -1 from if_pos ‹_›]) | (rw [show nx (w &&& ~~~bel i) = _ from if_neg ‹_›]; rfl) | (rw [hb (by omega), show nx w = -1 from if_pos ‹_›]) | (rw [hb (by omega), show nx w = _ from if_neg ‹_›])), rfl⟩
 try simp only [qB] at hc3
 refine Zh (Zb (Zc (Za (Lm u20 ?_))))
 refine Zs rfl rfl rfl (by exact tz_spec _ _) ?_
 rintro _ _ ⟨rfl, rfl⟩
 refine Le u20 ?_
 refine La u20 ?_
 refine Zd (Zb (Zj (W10 (.inr rfl) (Zf rfl rfl) ?_)))
 have hb : ¬ 0 < i → w &&& ~~~bel i = w := fun h => by rw [show bel i = 0#64 from if_pos (by omega), show ~~~0#64 = BitVec.allOnes 64 from rfl, BitVec.and_allOnes]
 exact ⟨by (first | (rw [show nx (w &&& ~~~bel i) = -1 from if_pos ‹_›]) | (rw [show nx (w &&& ~~~bel i) = _ from if_neg ‹_›]; rfl) | (rw [hb (by omega), show nx w = -1 from if_pos ‹_›]) | (rw [hb (by omega), show nx w = _ from if_neg ‹_›])), rfl⟩
theorem Zcu {x : SW} (H : Ze) (w : BitVec 64) : F (psys x) 113 [.agg [iW w]] H fun v G => v = .func 144 [] [.fptr [iW w] 0] ∧ G = H := by
 refine Zp Tryd.func113 rfl u4 rfl ?_
 refine Zc (Za (Lo u4 (ZJ rfl rfl rfl) ?_))
 refine Lk u4 (.nilFunc) ?_
 refine Zd (Zb (Zc (Za (Lo u4 (v_func [_] rfl rfl) ?_))))
 refine La u4 ?_
 refine Zd (Zb (Zj (Zbm (.inr rfl) (Zf rfl rfl) (Gh.cap1 (BaseOk.refl _) (j := 0) rfl rfl) ?_)))
 exact ⟨rfl, rfl⟩
theorem Za3 {x : SW} (w : BitVec 64) (l : Nat) (H : Ze) (R : Ze → Prop) (hI : Iter (psys x) l ((pl w 0).map cI) H R) : F (psys x) 144 ([.yield l] ++ [.fptr [iW w] 0]) H fun v G => R G := by
 refine Zp Tryd.func144 rfl u16 rfl ?_
 refine Zc (Za (Lo u16 (W11 rfl rfl rfl rfl rfl) ?_))
 refine Zs rfl rfl rfl (by exact Zdm _ _ _) ?_
 rintro _ _ ⟨rfl, rfl⟩
 refine Le u16 ?_
 refine La u16 ?_
 refine Zd (Zb (Zg (Zr (mk 16 65524) (env' := u16) rfl ?_)))
 refine Zw (fun (⟨i, xs⟩ : Int × List Nat) => xs.length) (fun (⟨i, xs⟩ : Int × List Nat) => [(3, iI i)]) (fun (⟨i, xs⟩ : Int × List Nat) G => (Iter (psys x) l (xs.map cI) G R ∧ ((i = -1 ∧ xs = []) ∨ ∃ c : Nat, i = c ∧ c < 64 ∧ xs = c :: pl w (c + 1))) ∧ True) ⟨_, pl w 0⟩ rfl ?_ ?_
 ·refine ⟨?_, trivial⟩
  exact ⟨by simpa using hI, pl_next' w 0⟩
 rintro ⟨i, xs⟩ G ⟨⟨hI, hx⟩, _⟩
 refine ZL (env' := u16) rfl ?_
 refine Zc (Zc (Za (Lm u16 ?_)))
 refine Lo u16 rfl ?_
 refine Zd (Zb (Zi _ rfl (fun hc1 => ?_) (fun hc1 => ?_)))
 ·try simp only [qB] at hc1
  obtain ⟨c, rfl, hc, rfl⟩ : ∃ c : Nat, i = c ∧ c < 64 ∧ xs = c :: pl w (c + 1) := by
   rcases hx with ⟨e, _⟩ | h
   ·omega
   exact h
  refine Zh (Zb (Zc (Zg (Zc (Za (Lm u16 ?_))))))
  refine Lm u16 ?_
  refine L_callV rfl rfl rfl (by exact hI) ?_
  rintro _ G1 ⟨t, rfl, hrest⟩
  refine Le u16 ?_
  refine Lo u16 rfl ?_
  refine Zd (Zb (Zi _ rfl (fun hc2 => ?_) (fun hc2 => ?_)))
  ·try simp only [qB] at hc2
   have ht : t = false := by simpa using hc2
   subst ht
   have hR : R G1 := by simpa using hrest
   refine Zj (ZE (Zl (Ye (ZE (YQ (.inr rfl) (XO rfl) ?_)))))
   exact hR
  try simp only [qB] at hc2
  have ht : t = true := by simpa using hc2
  subst ht
  have hrest : Iter (psys x) l ((pl w (c + 1)).map cI) G1 R := by simpa using hrest
  refine Zh (Zq (Zb (Za (Lo u16 (W11 rfl rfl rfl rfl rfl) ?_))))
  refine Lm u16 ?_
  refine Lo u16 (W14 rfl rfl rfl) ?_
  refine Zs rfl rfl rfl (by exact Zdm _ _ _) ?_
  rintro _ _ ⟨rfl, rfl⟩
  refine Le u16 ?_
  refine La u16 ?_
  refine Zd (Zt (mk 16 65524) (env' := u16) rfl ⟨⟨_, pl w (c + 1)⟩, ?_, rfl, ?_⟩)
  ·simp
  exact ⟨⟨hrest, pl_next' w (c + 1)⟩, trivial⟩
 try simp only [qB] at hc1
 obtain ⟨rfl, rfl⟩ : i = -1 ∧ xs = [] := by
  rcases hx with h | ⟨c, rfl, _⟩
  ·exact h
  omega
 have hR : R G := hI
 refine Zz (ZA (Zu (Zy (YQ (.inl rfl) (XO rfl) ?_))))
 exact hR
open Go Go.V Go.RowKit
abbrev u9 {a0 a1 a2 a3 a4 a5 a6 a7 a8 : VVal} : VEnv := a0 :: a1 :: a2 :: a3 :: a4 :: a5 :: a6 :: a7 :: a8 :: []
abbrev u75 {a0 a1 a2 a3 a4 a5 a6 a7 a8 a9 a10 a11 a12 a13 a14 a15 a16 a17 a18 a19 a20 a21 a22 a23 a24 a25 a26 a27 a28 a29 a30 a31 a32 a33 a34 a35 a36 a37 a38 a39 a40 a41 a42 a43 a44 a45 a46 a47 a48 a49 a50 a51 a52 a53 a54 a55 a56 a57 a58 a59 a60 a61 a62 a63 a64 a65 a66 a67 a68 a69 a70 a71 a72 a73 a74 : VVal} : VEnv := a0 :: a1 :: a2 :: a3 :: a4 :: a5 :: a6 :: a7 :: a8 :: a9 :: a10 :: a11 :: a12 :: a13 :: a14 :: a15 :: a16 :: a17 :: a18 :: a19 :: a20 :: a21 :: a22 :: a23 :: a24 :: a25 :: a26 :: a27 :: a28 :: a29 :: a30 :: a31 :: a32 :: a33 :: a34 :: a35 :: a36 :: a37 :: a38 :: a39 :: a40 :: a41 :: a42 :: a43 :: a44 :: a45 :: a46 :: a47 :: a48 :: a49 :: a50 :: a51 :: a52 :: a53 :: a54 :: a55 :: a56 :: a57 :: a58 :: a59 :: a60 :: a61 :: a62 :: a63 :: a64 :: a65 :: a66 :: a67 :: a68 :: a69 :: a70 :: a71 :: a72 :: a73 :: a74 :: []
theorem W16 {P : Prop} (h : P := by first | (exfalso; omega) | exact ⟨by rw [rcE_1 (rck_fit (by first | assumption | omega))], rfl⟩ | exact ⟨by rw [rcE_1 (rck_rise (rise_bad (k := k) (by omega) (by first | exact .inl (by assumption) | exact .inr (by assumption) | omega)))], rfl⟩ | exact ⟨by rw [rcE_1 (rck_knd (by first | exact knd_d (by omega) | exact (knd_a (by omega)).trans (decide_eq_false (by omega)) | exact (knd_b (by omega)).trans (decide_eq_false (by omega)) | exact (knd_c (by omega)).trans (decide_eq_false (by omega))))], rfl⟩ | exact ⟨by rw [rcE_0 (rck_ok (by omega) hrs (by first | exact (knd_a (by omega)).trans (decide_eq_true (by omega)) | exact (knd_b (by omega)).trans (decide_eq_true (by omega)) | exact (knd_c (by omega)).trans (decide_eq_true (by omega))))], rfl⟩) : P := h
theorem W18 {T : TypeId → Option VTy} {H : Ze} {op : Op} {ρ : Operand → VVal} {t e : TypeId} {x i : Operand} {y z : VTy} {k : IntKind} {n : Int} {p v : VVal} {es : Nat} (ho : op = .indexAddr t x i) (hx : ρ x = p) (hi : ρ i = .int k n) (hy : T t = some y) (hd : y.desc = .slice e) (hz : T e = some z) (hs : z.size = es) (h : IxOk p es n v := by first | exact .inl ⟨_, _, _, rfl, XH51, rfl⟩ | exact .inr ⟨_, _, _, _, _, rfl, XH51, rfl⟩) : vop T ρ H op = some (v, H) := v_ix ho hx hi hy hd hz hs h
abbrev rlB (r : Rul) : List VVal := [iI r.kind, iI r.k, fzI r.steps]
abbrev r0 : Rul := (0, 0, [], ())
def fzR (l : List Rul) : VVal := .fsl (l.flatMap rlB) l.length 3 false
abbrev pbB (p : Pb) : List VVal := [iI p.users, fzW p.who, fzI p.fixed, fzR p.rules]
theorem rul_at {l : List Rul} {n : Int} (h : 0 ≤ n ∧ n < l.length) : Zo (l.flatMap rlB) (n.toNat * 3) 3 = some (rlB (l.getD n.toNat r0)) := fm_nat (f := rlB) (m := 3) (fun _ => rfl) l n.toNat r0 (by omega)
theorem rise_ok {n : Int} {l : List Int} {k : Nat} (hk : k < l.length) (h1 : ZaN n (l.take k) = true) (h2 : J6 (-1) (l.take k) < l.getD k 0) (h3 : l.getD k 0 < n) : ZaN n (l.take (k + 1)) = true := by
 rw [Yf (d := 0) hk, ZaN, ZaV, show YX n (-1) (l.take k) = true from h1, Bool.true_and, decide_eq_true_eq]; omega
theorem rise_bad {n : Int} {l : List Int} {k : Nat} (hk : k < l.length) (h : l.getD k 0 ≤ J6 (-1) (l.take k) ∨ n ≤ l.getD k 0) : ZaN n l = false := by
 have e : l = l.take (k + 1) ++ l.drop (k + 1) := (List.take_append_drop _ _).symm
 rw [e, ZaN, Zbb, Yf hk, ZaV]
 rw [show decide (J6 (-1) (l.take k) < l.getD k 0 ∧ l.getD k 0 < n) = false from decide_eq_false (by omega), Bool.and_false, Bool.false_and]
theorem Zc0 {l : List Int} {k : Nat} (hk : k < l.length) : J6 (-1) (l.take (k + 1)) = l.getD k 0 := by rw [Yf (d := 0) hk, lst1_app]
abbrev rcE (n : Int) (r : Rul) : Int := if rck n r = true then 0 else 1
theorem rck_fit {n : Int} {r : Rul} (h : ¬ (0 ≤ n ∧ n ≤ 12)) : rck n r = false := by unfold rck; rw [decide_eq_false h, Bool.false_and]
theorem rck_rise {n : Int} {r : Rul} (h : ZaN n r.steps = false) : rck n r = false := by unfold rck; rw [h, Bool.false_and, Bool.and_false]
theorem rck_knd {n : Int} {r : Rul} (h : knd r = false) : rck n r = false := by unfold rck; rw [h, Bool.and_false, Bool.and_false]
theorem rck_ok {n : Int} {r : Rul} (h : 0 ≤ n ∧ n ≤ 12) (h2 : ZaN n r.steps = true) (h3 : knd r = true) : rck n r = true := by unfold rck; rw [decide_eq_true h, h2, h3]; rfl
theorem rcE_0 {n : Int} {r : Rul} (h : rck n r = true) : rcE n r = 0 := if_pos h
theorem rcE_1 {n : Int} {r : Rul} (h : rck n r = false) : rcE n r = 1 := if_neg (by rw [h]; decide)
theorem knd_a {r : Rul} (h : r.kind = 1 ∨ r.kind = 2) : knd r = decide (r.k = 0 ∧ 2 ≤ r.steps.length) := if_pos h
theorem knd_b {r : Rul} (h : r.kind = 3 ∨ r.kind = 4) : knd r = decide ((1 ≤ r.k ∧ r.k ≤ 999999999) ∧ 1 ≤ r.steps.length) := by unfold knd; rw [if_neg (by omega), if_pos h]
theorem knd_c {r : Rul} (h : r.kind = 5) : knd r = decide (1 ≤ r.k ∧ r.k ≤ r.steps.length) := by unfold knd; rw [if_neg (by omega), if_neg (by omega), if_pos h]
theorem knd_d {r : Rul} (h : ¬ (1 ≤ r.kind ∧ r.kind ≤ 5)) : knd r = false := by unfold knd; rw [if_neg (by omega), if_neg (by omega), if_neg (by omega)]
def ds (L : List Int) : List Int := L.foldl (fun d x => if x ∈ d then d else d ++ [x]) []
theorem ds_app {L : List Int} {x : Int} : ds (L ++ [x]) = if x ∈ ds L then ds L else ds L ++ [x] := by unfold ds; rw [List.foldl_append]; rfl
theorem mem_ds {x : Int} (L : List Int) : x ∈ ds L ↔ x ∈ L := by
 refine Xh (P := fun L => ∀ x, x ∈ ds L ↔ x ∈ L) (fun x => Iff.rfl) (fun L y ih x => ?_) L x
 rw [ds_app]
 split
 ·rename_i h
  rw [ih, List.mem_append, List.mem_singleton]
  constructor
  ·exact .inl
  rintro (h' | rfl)
  ·exact h'
  exact (ih _).1 h
 rw [List.mem_append, List.mem_append, ih]
theorem nd_ds (L : List Int) : (ds L).Nodup := by
 refine Xh (P := fun L => (ds L).Nodup) List.nodup_nil (fun L y ih => ?_) L
 rw [ds_app]
 split
 ·exact ih
 rename_i h
 rw [List.nodup_append]
 exact ⟨ih, by simp, fun a ha b hb e => h (by rw [List.mem_singleton] at hb; subst hb; subst e; exact ha)⟩
theorem len_ds (L : List Int) : (ds L).length = uq L := by
 refine Xh (P := fun L => (ds L).length = uq L) rfl (fun L y ih => ?_) L
 rw [ds_app, Zac, ← ih]
 by_cases h : y ∈ L
 ·rw [if_pos ((mem_ds L).2 h), if_pos h]; rfl
 rw [if_neg (fun e => h ((mem_ds L).1 e)), if_neg h, List.length_append]; rfl
def cnM (L : List Int) : List (VVal × VVal) := (ds L).map fun y => (iI y, iI (L.count y : Nat))
theorem cnM_len (L : List Int) : (cnM L).length = uq L := by unfold cnM; rw [List.length_map, len_ds]
theorem mget_map {x : Int} {f : Int → VVal} : ∀ d : List Int, Zbt (iI x) (d.map fun y => (iI y, f y)) = some (if x ∈ d then some (f x) else none)
 | [] => rfl
 | y :: d => by
  rw [List.map_cons]
  simp only [Zbt, ZaR, if_true]
  by_cases e : x = y
  ·subst e; simp
  rw [show (x == y) = false from by simp [e], mget_map d]
  simp [e]
theorem mput_map {x : Int} {v : VVal} {f : Int → VVal} : ∀ d : List Int, d.Nodup → ZaO (iI x) v (d.map fun y => (iI y, f y)) = (if x ∈ d then d else d ++ [x]).map fun y => (iI y, if y = x then v else f y)
 | [], _ => by simp [ZaO]
 | y :: d, h => by
  rw [List.nodup_cons] at h
  rw [List.map_cons]
  simp only [ZaO, ZaR, if_true]
  by_cases e : x = y
  ·subst e
   have : (d.map fun y => (iI y, f y)) = d.map fun y => (iI y, if y = x then v else f y) := List.map_congr_left fun y hy => by rw [if_neg (fun e => h.1 (by rw [← e]; exact hy))]
   simp [this]
  rw [show (x == y) = false from by simp [e], mput_map d h.2]
  have e' : ¬ y = x := fun k => e k.symm
  by_cases hd : x ∈ d <;> simp [hd, e, e']
theorem cn_get {L : List Int} {x : Int} : Zbt (iI x) (cnM L) = some (if x ∈ L then some (iI (L.count x : Nat)) else none) := by
 unfold cnM; rw [mget_map]
 by_cases h : x ∈ L
 ·rw [if_pos h, if_pos ((mem_ds L).2 h)]
 rw [if_neg h, if_neg (fun e => h ((mem_ds L).1 e))]
theorem cn_get' {L : List Int} {x : Int} : ((if x ∈ L then some (iI (L.count x : Nat)) else none).getD (iI 0)) = iI (L.count x : Nat) := by
 by_cases h : x ∈ L
 ·rw [if_pos h]; rfl
 rw [if_neg h, List.count_eq_zero.2 h]; rfl
theorem cn_put {L : List Int} {x : Int} : ZaO (iI x) (iI ((L.count x : Nat) + 1)) (cnM L) = cnM (L ++ [x]) := by
 unfold cnM
 rw [mput_map _ (nd_ds L), ds_app]
 apply List.map_congr_left
 intro y hy
 rw [List.count_append, List.count_singleton]
 by_cases e : y = x
 ·subst e; simp
 rw [if_neg e]
 have e' : ¬ x = y := fun k => e k.symm
 simp [e']
theorem v_lookI {T : TypeId → Option VTy} {ρ : Operand → VVal} {H : Ze} {op : Op} {t kt et : TypeId} {x k : Operand} {y z kz : VTy} {b : Nat} {n : Int} {es : List (VVal × VVal)} {o : Option VVal} {u : VVal} (ho : op = .lookup t x k false) (hx : ρ x = .map (some b)) (hk : ρ k = iI n) (hy : T t = some y) (hd : y.desc = .map kt et) (hz : T et = some z) (hk1 : T kt = some kz) (hk2 : kz.desc = .int .i64) (ha : Zk z.desc = false) (hz0 : z.zero = [iI 0])
  (hb : H[b]? = some (.map es)) (hg : Zbt (iI n) es = some o) (hu : o.getD (iI 0) = u) : vop T ρ H op = some (u, H) := by
 rw [ho]
 simp only [vop, XK, hx, hk, hy, hd, hz, hb, ZcJ, hk1, hk2, hz0, ha]
 rw [if_pos ⟨by rfl, .inr rfl⟩]
 rw [hg, ← hu]
 cases o <;> rfl
theorem v_mupdI {T : TypeId → Option VTy} {ρ : Operand → VVal} {H H' : Ze} {op : Op} {t kt et : TypeId} {x k w : Operand} {y kz : VTy} {b : Nat} {n : Int} {es : List (VVal × VVal)} {o : Option VVal} {v : VVal} (ho : op = .mapUpdate t x k w) (hx : ρ x = .map (some b)) (hk : ρ k = iI n) (hw : ρ w = v) (hy : T t = some y) (hd : y.desc = .map kt et) (hk1 : T kt = some kz) (hk2 : kz.desc = .int .i64)
  (hb : H[b]? = some (.map es)) (hg : Zbt (iI n) es = some o) (hH : H.set b (.map (ZaO (iI n) v es)) = H') : vop T ρ H op = some (.skip, H') := by
 rw [ho]
 simp only [vop, Xl, hx, hk, hw, hy, hd, hb, ZcJ, hk1, hk2]
 rw [if_pos (by rfl), hg]
 simp [hH]
theorem rfits_spec {x : SW} (H : Ze) (n : Int) : F (psys x) 95 [iI n] H fun v G => v = .bool (decide (0 ≤ n ∧ n ≤ 12)) ∧ G = H := by
 refine Zp Tryd.func95 rfl u9 rfl ?_
 refine Zc (Za (Lk u9 (.bool false) ?_))
 refine Zd (Zb (Zc (Za (Lm u9 ?_))))
 refine Lo u9 rfl ?_
 refine Lm u9 ?_
 refine ZB 5 (env1 := u9) (env2 := u9) rfl rfl rfl (fun hg1 => ?_) (fun hg1 => ?_)
 ·try simp only [qB] at hg1
  refine Lm u9 ?_
  refine Lo u9 rfl ?_
  refine Lo u9 (ZM rfl rfl rfl) ?_
  refine La u9 ?_
  refine Zd (Zb (Zj (W10 (.inr rfl) (Zf rfl rfl) ?_)))
  exact ⟨by simp [*]; try omega, rfl⟩
 try simp only [qB] at hg1
 refine Lf u9 ?_
 refine Lf u9 ?_
 refine Lo u9 (ZC (VVal.bool false) rfl rfl rfl) ?_
 refine La u9 ?_
 refine Zd (Zb (Zj (W10 (.inr rfl) (Zf rfl rfl) ?_)))
 exact ⟨by simp [*]; try omega, rfl⟩
theorem Zbc {x : SW} (H : Ze) (n : Int) (r : Rul) (hl : r.steps.length ≤ 1000000) : F (psys x) 55 [iI n, .agg (rlB r)] H fun v G => v = iI (rcE n r) ∧ G = H := by
 refine Zp Tryd.func55 rfl u75 rfl ?_
 refine Zc (Za (Lo u75 (ZJ rfl rfl rfl) ?_))
 refine Lk u75 (.int .i64 0) ?_
 refine Zd (Zb (Zc (Zc (Za (Lm u75 ?_)))))
 refine Zs rfl rfl rfl (by exact rfits_spec _ _) ?_
 rintro _ _ ⟨rfl, rfl⟩
 refine Le u75 ?_
 refine Lo u75 rfl ?_
 refine Zd (Zb (Zi _ rfl (fun hc1 => ?_) (fun hc1 => ?_)))
 ·try simp only [qB] at hc1
  refine Zc (Za (Lk u75 (.int .i64 1) ?_))
  refine Zd (Zb (Zj (Zl (W10 (.inr rfl) (Zf rfl rfl) ?_))))
  exact W16
 try simp only [qB] at hc1
 refine Zh (Zb (Zc (Za (Lo u75 (Z4 (VVal.int .i64 (-1)) (.inr rfl) rfl) ?_))))
 refine Zd (Zb (Zc (Zc (Za (Lo u75 rfl ?_)))))
 refine Lo u75 (W12 rfl rfl rfl rfl) ?_
 refine Lo u75 rfl ?_
 refine Lo u75 (Z4 (VVal.int .i64 0) (.inl rfl) rfl) ?_
 refine Zd (Zb (Zg (Zr (mk 75 37778931862957161652182) (env' := u75) rfl ?_)))
 refine Zw (fun (k : Nat) => r.steps.length - k) (fun (k : Nat) => [(5, iI (J6 (-1) (r.steps.take k))), (15, iI (k : Nat))]) (fun (k : Nat) G => (k ≤ r.steps.length ∧ ZaN n (r.steps.take k) = true) ∧ G = H ++ [.cells (rlB r) true]) 0 rfl ?_ ?_
 ·refine ⟨?_, rfl⟩
  exact ⟨Nat.zero_le _, rfl⟩
 rintro k _ ⟨⟨hk, hr⟩, rfl⟩
 refine ZL (env' := u75) rfl ?_
 refine Zc (Za (Lo u75 rfl ?_))
 refine Zd (Zb (Zc (Zi _ rfl (fun hc2 => ?_) (fun hc2 => ?_))))
 ·try simp only [qB] at hc2
  refine Zh (Zb (Zc (Zg (Zc (Za (Lo u75 (W18 rfl rfl rfl rfl rfl rfl rfl) ?_))))))
  refine Lo u75 (W12 rfl rfl rfl rfl) ?_
  refine La u75 ?_
  refine Zd (Zb (Zc (Zc (Za (Lm u75 ?_)))))
  refine Lm u75 ?_
  refine Lo u75 rfl ?_
  refine Lm u75 ?_
  refine ZB 22 (env1 := u75) (env2 := u75) rfl rfl rfl (fun hg3 => ?_) (fun hg3 => ?_)
  ·try simp only [qB] at hg3
   refine Lf u75 ?_
   refine Lf u75 ?_
   refine Lf u75 ?_
   refine Lo u75 (ZF (VVal.bool true) rfl rfl rfl) ?_
   refine Zd (Zb (ZN rfl rfl ?_))
   refine Zc (Za (Lk u75 (.int .i64 1) ?_))
   refine Zd (Zb (Zj (Zl (ZE (Zl (Ye (ZE (Zl (W10 (.inr rfl) (Zf rfl rfl) ?_)))))))))
   exact W16
  try simp only [qB] at hg3
  refine Lm u75 ?_
  refine Lm u75 ?_
  refine Lo u75 rfl ?_
  refine Lo u75 (ZY rfl rfl rfl) ?_
  refine Zd (Zb (Zi _ rfl (fun hc4 => ?_) (fun hc4 => ?_)))
  ·try simp only [qB] at hc4
   refine Zc (Za (Lk u75 (.int .i64 1) ?_))
   refine Zd (Zb (Zj (Zl (ZE (Zl (Ye (ZE (Zl (W10 (.inr rfl) (Zf rfl rfl) ?_)))))))))
   exact W16
  try simp only [qB] at hc4
  refine Zh (Zb (Za (Lm u75 ?_)))
  refine La u75 ?_
  refine Zd (Zq (Zb (Za (Lo u75 (W14 rfl rfl rfl) ?_))))
  refine Lm u75 ?_
  refine Zd (Zt (mk 75 37778931862957161652182) (env' := u75) rfl ⟨k + 1, ?_, (by rw [Zc0 (by omega)]; rfl), ?_⟩)
  ·first | omega | (simp only []; omega)
  exact ⟨⟨by omega, rise_ok (by omega) hr hg3 hc4⟩, rfl⟩
 try simp only [qB] at hc2
 refine Zz (ZA (Zu (Zy (Zb (Zc ?_)))))
 have hrs : ZaN n r.steps = true := by rw [List.take_of_length_le (by omega)] at hr; exact hr
 refine Za (Lk u75 (.bool false) ?_)
 refine Zd (Zb (Zc (Zc (Za (Lo u75 rfl ?_)))))
 refine Lo u75 (W12 rfl rfl rfl rfl) ?_
 refine Zd (Zb (Zg (Zc (Zc (Za (Lo u75 rfl ?_))))))
 refine La u75 ?_
 refine Zd (Zb (Zi _ rfl (fun hc5 => ?_) (fun hc5 => ?_)))
 ·try simp only [qB] at hc5
  refine Zh (Zb (Zi _ rfl (fun hc6 => ?_) (fun hc6 => ?_)))
  ·try simp only [qB] at hc6
   refine Za (Lo u75 rfl ?_)
   refine Lo u75 (W12 rfl rfl rfl rfl) ?_
   refine Lo u75 rfl ?_
   refine Lm u75 ?_
   refine ZB 37 (env1 := u75) (env2 := u75) rfl rfl rfl (fun hg7 => ?_) (fun hg7 => ?_)
   ·try simp only [qB] at hg7
    refine Lo u75 rfl ?_
    refine Lo u75 (W12 rfl rfl rfl rfl) ?_
    refine Lo u75 rfl ?_
    refine Lo u75 rfl ?_
    refine Lo u75 (ZM rfl rfl rfl) ?_
    refine La u75 ?_
    refine Zd (Zq (Zb (Zc (Zc (Za (Lm u75 ?_))))))
    refine Lo u75 rfl ?_
    refine Zd (Zb (Zi _ rfl (fun hc8 => ?_) (fun hc8 => ?_)))
    ·try simp only [qB] at hc8
     refine Zc (Za (Lk u75 (.int .i64 1) ?_))
     refine Zd (Zb (Zj (Zl (W10 (.inr rfl) (Zf rfl rfl) ?_))))
     exact W16
    try simp only [qB] at hc8
    refine Zh (Zb (Zc (Za (Lk u75 (.int .i64 0) ?_))))
    refine Zd (Zb (Zj (W10 (.inr rfl) (Zf rfl rfl) ?_)))
    exact W16
   try simp only [qB] at hg7
   refine Lf u75 ?_
   refine Lf u75 ?_
   refine Lf u75 ?_
   refine Lf u75 ?_
   refine Lo u75 (ZC (VVal.bool false) rfl rfl rfl) ?_
   refine La u75 ?_
   refine Zd (Zq (Zb (Zc (Zc (Za (Lm u75 ?_))))))
   refine Lo u75 rfl ?_
   refine Zd (Zb (ZN rfl rfl ?_))
   refine Zc (Za (Lk u75 (.int .i64 1) ?_))
   refine Zd (Zb (Zj (Zl (W10 (.inr rfl) (Zf rfl rfl) ?_))))
   exact W16
  try simp only [qB] at hc6
  refine Zc (Zc (Za (Lo u75 rfl ?_)))
  refine La u75 ?_
  refine Zd (Zb (Zi _ rfl (fun hc9 => ?_) (fun hc9 => ?_)))
  ·try simp only [qB] at hc9
   refine Zh (Zb (Zi _ rfl (fun hc10 => ?_) (fun hc10 => ?_)))
   ·try simp only [qB] at hc10
    refine Za (Lo u75 rfl ?_)
    refine Lo u75 (W12 rfl rfl rfl rfl) ?_
    refine Lo u75 rfl ?_
    refine Lm u75 ?_
    refine ZB 49 (env1 := u75) (env2 := u75) rfl rfl rfl (fun hg11 => ?_) (fun hg11 => ?_)
    ·try simp only [qB] at hg11
     refine Lo u75 rfl ?_
     refine Lo u75 (W12 rfl rfl rfl rfl) ?_
     refine Lo u75 rfl ?_
     refine Lo u75 (ZM rfl rfl rfl) ?_
     refine Lm u75 ?_
     refine ZB 54 (env1 := u75) (env2 := u75) rfl rfl rfl (fun hg12 => ?_) (fun hg12 => ?_)
     ·try simp only [qB] at hg12
      refine Lo u75 rfl ?_
      refine Lo u75 (W12 rfl rfl rfl rfl) ?_
      refine Lo u75 rfl ?_
      refine Lo u75 rfl ?_
      refine Lo u75 (ZM rfl rfl rfl) ?_
      refine La u75 ?_
      refine Zd (Zq (Zb (Zc (Zc (Za (Lm u75 ?_))))))
      refine Lo u75 rfl ?_
      refine Zd (Zb (Zi _ rfl (fun hc13 => ?_) (fun hc13 => ?_)))
      ·try simp only [qB] at hc13
       refine Zc (Za (Lk u75 (.int .i64 1) ?_))
       refine Zd (Zb (Zj (Zl (W10 (.inr rfl) (Zf rfl rfl) ?_))))
       exact W16
      try simp only [qB] at hc13
      refine Zh (Zb (Zc (Za (Lk u75 (.int .i64 0) ?_))))
      refine Zd (Zb (Zj (W10 (.inr rfl) (Zf rfl rfl) ?_)))
      exact W16
     try simp only [qB] at hg12
     refine Lf u75 ?_
     refine Lf u75 ?_
     refine Lf u75 ?_
     refine Lf u75 ?_
     refine Lo u75 (ZC (VVal.bool false) rfl rfl rfl) ?_
     refine La u75 ?_
     refine Zd (Zq (Zb (Zc (Zc (Za (Lm u75 ?_))))))
     refine Lo u75 rfl ?_
     refine Zd (Zb (ZN rfl rfl ?_))
     refine Zc (Za (Lk u75 (.int .i64 1) ?_))
     refine Zd (Zb (Zj (Zl (W10 (.inr rfl) (Zf rfl rfl) ?_))))
     exact W16
    try simp only [qB] at hg11
    refine Lf u75 ?_
    refine Lf u75 ?_
    refine Lf u75 ?_
    refine Lo u75 (ZC (VVal.bool false) rfl rfl rfl) ?_
    refine Lm u75 ?_
    refine Lf u75 ?_
    refine Lf u75 ?_
    refine Lf u75 ?_
    refine Lf u75 ?_
    refine Lo u75 (ZC (VVal.bool false) rfl rfl rfl) ?_
    refine La u75 ?_
    refine Zd (Zq (Zb (Zc (Zc (Za (Lm u75 ?_))))))
    refine Lo u75 rfl ?_
    refine Zd (Zb (ZN rfl rfl ?_))
    refine Zc (Za (Lk u75 (.int .i64 1) ?_))
    refine Zd (Zb (Zj (Zl (W10 (.inr rfl) (Zf rfl rfl) ?_))))
    exact W16
   try simp only [qB] at hc10
   refine Zc (Za (Lo u75 rfl ?_))
   refine La u75 ?_
   refine Zd (Zb (Zi _ rfl (fun hc14 => ?_) (fun hc14 => ?_)))
   ·try simp only [qB] at hc14
    refine Za (Lo u75 rfl ?_)
    refine Lo u75 (W12 rfl rfl rfl rfl) ?_
    refine Lo u75 rfl ?_
    refine Lm u75 ?_
    refine ZB 65 (env1 := u75) (env2 := u75) rfl rfl rfl (fun hg15 => ?_) (fun hg15 => ?_)
    ·try simp only [qB] at hg15
     refine Lo u75 rfl ?_
     refine Lo u75 (W12 rfl rfl rfl rfl) ?_
     refine Lo u75 rfl ?_
     refine Lo u75 (W12 rfl rfl rfl rfl) ?_
     refine Lo u75 rfl ?_
     refine Lo u75 rfl ?_
     refine Lo u75 (ZM rfl rfl rfl) ?_
     refine La u75 ?_
     refine Zd (Zq (Zb (Zc (Zc (Za (Lm u75 ?_))))))
     refine Lo u75 rfl ?_
     refine Zd (Zb (Zi _ rfl (fun hc16 => ?_) (fun hc16 => ?_)))
     ·try simp only [qB] at hc16
      refine Zc (Za (Lk u75 (.int .i64 1) ?_))
      refine Zd (Zb (Zj (Zl (W10 (.inr rfl) (Zf rfl rfl) ?_))))
      exact W16
     try simp only [qB] at hc16
     refine Zh (Zb (Zc (Za (Lk u75 (.int .i64 0) ?_))))
     refine Zd (Zb (Zj (W10 (.inr rfl) (Zf rfl rfl) ?_)))
     exact W16
    try simp only [qB] at hg15
    refine Lf u75 ?_
    refine Lf u75 ?_
    refine Lf u75 ?_
    refine Lf u75 ?_
    refine Lf u75 ?_
    refine Lf u75 ?_
    refine Lo u75 (ZC (VVal.bool false) rfl rfl rfl) ?_
    refine La u75 ?_
    refine Zd (Zq (Zb (Zc (Zc (Za (Lm u75 ?_))))))
    refine Lo u75 rfl ?_
    refine Zd (Zb (ZN rfl rfl ?_))
    refine Zc (Za (Lk u75 (.int .i64 1) ?_))
    refine Zd (Zb (Zj (Zl (W10 (.inr rfl) (Zf rfl rfl) ?_))))
    exact W16
   try simp only [qB] at hc14
   refine Zh (Zq (Zb (Zc (Zc (Za (Lm u75 ?_))))))
   refine Lo u75 rfl ?_
   refine Zd (Zb (ZN rfl rfl ?_))
   refine Zc (Za (Lk u75 (.int .i64 1) ?_))
   refine Zd (Zb (Zj (Zl (W10 (.inr rfl) (Zf rfl rfl) ?_))))
   exact W16
  try simp only [qB] at hc9
  refine Za (Lo u75 rfl ?_)
  refine La u75 ?_
  refine Zd (Zb (Zi _ rfl (fun hc17 => ?_) (fun hc17 => ?_)))
  ·try simp only [qB] at hc17
   refine Za (Lo u75 rfl ?_)
   refine Lo u75 (W12 rfl rfl rfl rfl) ?_
   refine Lo u75 rfl ?_
   refine Lm u75 ?_
   refine ZB 49 (env1 := u75) (env2 := u75) rfl rfl rfl (fun hg18 => ?_) (fun hg18 => ?_)
   ·try simp only [qB] at hg18
    refine Lo u75 rfl ?_
    refine Lo u75 (W12 rfl rfl rfl rfl) ?_
    refine Lo u75 rfl ?_
    refine Lo u75 (ZM rfl rfl rfl) ?_
    refine Lm u75 ?_
    refine ZB 54 (env1 := u75) (env2 := u75) rfl rfl rfl (fun hg19 => ?_) (fun hg19 => ?_)
    ·try simp only [qB] at hg19
     refine Lo u75 rfl ?_
     refine Lo u75 (W12 rfl rfl rfl rfl) ?_
     refine Lo u75 rfl ?_
     refine Lo u75 rfl ?_
     refine Lo u75 (ZM rfl rfl rfl) ?_
     refine La u75 ?_
     refine Zd (Zq (Zb (Zc (Zc (Za (Lm u75 ?_))))))
     refine Lo u75 rfl ?_
     refine Zd (Zb (Zi _ rfl (fun hc20 => ?_) (fun hc20 => ?_)))
     ·try simp only [qB] at hc20
      refine Zc (Za (Lk u75 (.int .i64 1) ?_))
      refine Zd (Zb (Zj (Zl (W10 (.inr rfl) (Zf rfl rfl) ?_))))
      exact W16
     try simp only [qB] at hc20
     refine Zh (Zb (Zc (Za (Lk u75 (.int .i64 0) ?_))))
     refine Zd (Zb (Zj (W10 (.inr rfl) (Zf rfl rfl) ?_)))
     exact W16
    try simp only [qB] at hg19
    refine Lf u75 ?_
    refine Lf u75 ?_
    refine Lf u75 ?_
    refine Lf u75 ?_
    refine Lo u75 (ZC (VVal.bool false) rfl rfl rfl) ?_
    refine La u75 ?_
    refine Zd (Zq (Zb (Zc (Zc (Za (Lm u75 ?_))))))
    refine Lo u75 rfl ?_
    refine Zd (Zb (ZN rfl rfl ?_))
    refine Zc (Za (Lk u75 (.int .i64 1) ?_))
    refine Zd (Zb (Zj (Zl (W10 (.inr rfl) (Zf rfl rfl) ?_))))
    exact W16
   try simp only [qB] at hg18
   refine Lf u75 ?_
   refine Lf u75 ?_
   refine Lf u75 ?_
   refine Lo u75 (ZC (VVal.bool false) rfl rfl rfl) ?_
   refine Lm u75 ?_
   refine Lf u75 ?_
   refine Lf u75 ?_
   refine Lf u75 ?_
   refine Lf u75 ?_
   refine Lo u75 (ZC (VVal.bool false) rfl rfl rfl) ?_
   refine La u75 ?_
   refine Zd (Zq (Zb (Zc (Zc (Za (Lm u75 ?_))))))
   refine Lo u75 rfl ?_
   refine Zd (Zb (ZN rfl rfl ?_))
   refine Zc (Za (Lk u75 (.int .i64 1) ?_))
   refine Zd (Zb (Zj (Zl (W10 (.inr rfl) (Zf rfl rfl) ?_))))
   exact W16
  try simp only [qB] at hc17
  refine Zc (Za (Lo u75 rfl ?_))
  refine La u75 ?_
  refine Zd (Zb (Zi _ rfl (fun hc21 => ?_) (fun hc21 => ?_)))
  ·try simp only [qB] at hc21
   refine Za (Lo u75 rfl ?_)
   refine Lo u75 (W12 rfl rfl rfl rfl) ?_
   refine Lo u75 rfl ?_
   refine Lm u75 ?_
   refine ZB 65 (env1 := u75) (env2 := u75) rfl rfl rfl (fun hg22 => ?_) (fun hg22 => ?_)
   ·try simp only [qB] at hg22
    refine Lo u75 rfl ?_
    refine Lo u75 (W12 rfl rfl rfl rfl) ?_
    refine Lo u75 rfl ?_
    refine Lo u75 (W12 rfl rfl rfl rfl) ?_
    refine Lo u75 rfl ?_
    refine Lo u75 rfl ?_
    refine Lo u75 (ZM rfl rfl rfl) ?_
    refine La u75 ?_
    refine Zd (Zq (Zb (Zc (Zc (Za (Lm u75 ?_))))))
    refine Lo u75 rfl ?_
    refine Zd (Zb (Zi _ rfl (fun hc23 => ?_) (fun hc23 => ?_)))
    ·try simp only [qB] at hc23
     refine Zc (Za (Lk u75 (.int .i64 1) ?_))
     refine Zd (Zb (Zj (Zl (W10 (.inr rfl) (Zf rfl rfl) ?_))))
     exact W16
    try simp only [qB] at hc23
    refine Zh (Zb (Zc (Za (Lk u75 (.int .i64 0) ?_))))
    refine Zd (Zb (Zj (W10 (.inr rfl) (Zf rfl rfl) ?_)))
    exact W16
   try simp only [qB] at hg22
   refine Lf u75 ?_
   refine Lf u75 ?_
   refine Lf u75 ?_
   refine Lf u75 ?_
   refine Lf u75 ?_
   refine Lf u75 ?_
   refine Lo u75 (ZC (VVal.bool false) rfl rfl rfl) ?_
   refine La u75 ?_
   refine Zd (Zq (Zb (Zc (Zc (Za (Lm u75 ?_))))))
   refine Lo u75 rfl ?_
   refine Zd (Zb (ZN rfl rfl ?_))
   refine Zc (Za (Lk u75 (.int .i64 1) ?_))
   refine Zd (Zb (Zj (Zl (W10 (.inr rfl) (Zf rfl rfl) ?_))))
   exact W16
  try simp only [qB] at hc21
  refine Zh (Zq (Zb (Zc (Zc (Za (Lm u75 ?_))))))
  refine Lo u75 rfl ?_
  refine Zd (Zb (ZN rfl rfl ?_))
  refine Zc (Za (Lk u75 (.int .i64 1) ?_))
  refine Zd (Zb (Zj (Zl (W10 (.inr rfl) (Zf rfl rfl) ?_))))
  exact W16
 try simp only [qB] at hc5
 refine Za (Lo u75 rfl ?_)
 refine La u75 ?_
 refine Zd (Zb (Zi _ rfl (fun hc24 => ?_) (fun hc24 => ?_)))
 ·try simp only [qB] at hc24
  refine Za (Lo u75 rfl ?_)
  refine Lo u75 (W12 rfl rfl rfl rfl) ?_
  refine Lo u75 rfl ?_
  refine Lm u75 ?_
  refine ZB 37 (env1 := u75) (env2 := u75) rfl rfl rfl (fun hg25 => ?_) (fun hg25 => ?_)
  ·try simp only [qB] at hg25
   refine Lo u75 rfl ?_
   refine Lo u75 (W12 rfl rfl rfl rfl) ?_
   refine Lo u75 rfl ?_
   refine Lo u75 rfl ?_
   refine Lo u75 (ZM rfl rfl rfl) ?_
   refine La u75 ?_
   refine Zd (Zq (Zb (Zc (Zc (Za (Lm u75 ?_))))))
   refine Lo u75 rfl ?_
   refine Zd (Zb (Zi _ rfl (fun hc26 => ?_) (fun hc26 => ?_)))
   ·try simp only [qB] at hc26
    refine Zc (Za (Lk u75 (.int .i64 1) ?_))
    refine Zd (Zb (Zj (Zl (W10 (.inr rfl) (Zf rfl rfl) ?_))))
    exact W16
   try simp only [qB] at hc26
   refine Zh (Zb (Zc (Za (Lk u75 (.int .i64 0) ?_))))
   refine Zd (Zb (Zj (W10 (.inr rfl) (Zf rfl rfl) ?_)))
   exact W16
  try simp only [qB] at hg25
  refine Lf u75 ?_
  refine Lf u75 ?_
  refine Lf u75 ?_
  refine Lf u75 ?_
  refine Lo u75 (ZC (VVal.bool false) rfl rfl rfl) ?_
  refine La u75 ?_
  refine Zd (Zq (Zb (Zc (Zc (Za (Lm u75 ?_))))))
  refine Lo u75 rfl ?_
  refine Zd (Zb (ZN rfl rfl ?_))
  refine Zc (Za (Lk u75 (.int .i64 1) ?_))
  refine Zd (Zb (Zj (Zl (W10 (.inr rfl) (Zf rfl rfl) ?_))))
  exact W16
 try simp only [qB] at hc24
 refine Zc (Zc (Za (Lo u75 rfl ?_)))
 refine La u75 ?_
 refine Zd (Zb (Zi _ rfl (fun hc27 => ?_) (fun hc27 => ?_)))
 ·try simp only [qB] at hc27
  refine Zh (Zb (Zi _ rfl (fun hc28 => ?_) (fun hc28 => ?_)))
  ·try simp only [qB] at hc28
   refine Za (Lo u75 rfl ?_)
   refine Lo u75 (W12 rfl rfl rfl rfl) ?_
   refine Lo u75 rfl ?_
   refine Lm u75 ?_
   refine ZB 49 (env1 := u75) (env2 := u75) rfl rfl rfl (fun hg29 => ?_) (fun hg29 => ?_)
   ·try simp only [qB] at hg29
    refine Lo u75 rfl ?_
    refine Lo u75 (W12 rfl rfl rfl rfl) ?_
    refine Lo u75 rfl ?_
    refine Lo u75 (ZM rfl rfl rfl) ?_
    refine Lm u75 ?_
    refine ZB 54 (env1 := u75) (env2 := u75) rfl rfl rfl (fun hg30 => ?_) (fun hg30 => ?_)
    ·try simp only [qB] at hg30
     refine Lo u75 rfl ?_
     refine Lo u75 (W12 rfl rfl rfl rfl) ?_
     refine Lo u75 rfl ?_
     refine Lo u75 rfl ?_
     refine Lo u75 (ZM rfl rfl rfl) ?_
     refine La u75 ?_
     refine Zd (Zq (Zb (Zc (Zc (Za (Lm u75 ?_))))))
     refine Lo u75 rfl ?_
     refine Zd (Zb (Zi _ rfl (fun hc31 => ?_) (fun hc31 => ?_)))
     ·try simp only [qB] at hc31
      refine Zc (Za (Lk u75 (.int .i64 1) ?_))
      refine Zd (Zb (Zj (Zl (W10 (.inr rfl) (Zf rfl rfl) ?_))))
      exact W16
     try simp only [qB] at hc31
     refine Zh (Zb (Zc (Za (Lk u75 (.int .i64 0) ?_))))
     refine Zd (Zb (Zj (W10 (.inr rfl) (Zf rfl rfl) ?_)))
     exact W16
    try simp only [qB] at hg30
    refine Lf u75 ?_
    refine Lf u75 ?_
    refine Lf u75 ?_
    refine Lf u75 ?_
    refine Lo u75 (ZC (VVal.bool false) rfl rfl rfl) ?_
    refine La u75 ?_
    refine Zd (Zq (Zb (Zc (Zc (Za (Lm u75 ?_))))))
    refine Lo u75 rfl ?_
    refine Zd (Zb (ZN rfl rfl ?_))
    refine Zc (Za (Lk u75 (.int .i64 1) ?_))
    refine Zd (Zb (Zj (Zl (W10 (.inr rfl) (Zf rfl rfl) ?_))))
    exact W16
   try simp only [qB] at hg29
   refine Lf u75 ?_
   refine Lf u75 ?_
   refine Lf u75 ?_
   refine Lo u75 (ZC (VVal.bool false) rfl rfl rfl) ?_
   refine Lm u75 ?_
   refine Lf u75 ?_
   refine Lf u75 ?_
   refine Lf u75 ?_
   refine Lf u75 ?_
   refine Lo u75 (ZC (VVal.bool false) rfl rfl rfl) ?_
   refine La u75 ?_
   refine Zd (Zq (Zb (Zc (Zc (Za (Lm u75 ?_))))))
   refine Lo u75 rfl ?_
   refine Zd (Zb (ZN rfl rfl ?_))
   refine Zc (Za (Lk u75 (.int .i64 1) ?_))
   refine Zd (Zb (Zj (Zl (W10 (.inr rfl) (Zf rfl rfl) ?_))))
   exact W16
  try simp only [qB] at hc28
  refine Zc (Za (Lo u75 rfl ?_))
  refine La u75 ?_
  refine Zd (Zb (Zi _ rfl (fun hc32 => ?_) (fun hc32 => ?_)))
  ·try simp only [qB] at hc32
   refine Za (Lo u75 rfl ?_)
   refine Lo u75 (W12 rfl rfl rfl rfl) ?_
   refine Lo u75 rfl ?_
   refine Lm u75 ?_
   refine ZB 65 (env1 := u75) (env2 := u75) rfl rfl rfl (fun hg33 => ?_) (fun hg33 => ?_)
   ·try simp only [qB] at hg33
    refine Lo u75 rfl ?_
    refine Lo u75 (W12 rfl rfl rfl rfl) ?_
    refine Lo u75 rfl ?_
    refine Lo u75 (W12 rfl rfl rfl rfl) ?_
    refine Lo u75 rfl ?_
    refine Lo u75 rfl ?_
    refine Lo u75 (ZM rfl rfl rfl) ?_
    refine La u75 ?_
    refine Zd (Zq (Zb (Zc (Zc (Za (Lm u75 ?_))))))
    refine Lo u75 rfl ?_
    refine Zd (Zb (Zi _ rfl (fun hc34 => ?_) (fun hc34 => ?_)))
    ·try simp only [qB] at hc34
     refine Zc (Za (Lk u75 (.int .i64 1) ?_))
     refine Zd (Zb (Zj (Zl (W10 (.inr rfl) (Zf rfl rfl) ?_))))
     exact W16
    try simp only [qB] at hc34
    refine Zh (Zb (Zc (Za (Lk u75 (.int .i64 0) ?_))))
    refine Zd (Zb (Zj (W10 (.inr rfl) (Zf rfl rfl) ?_)))
    exact W16
   try simp only [qB] at hg33
   refine Lf u75 ?_
   refine Lf u75 ?_
   refine Lf u75 ?_
   refine Lf u75 ?_
   refine Lf u75 ?_
   refine Lf u75 ?_
   refine Lo u75 (ZC (VVal.bool false) rfl rfl rfl) ?_
   refine La u75 ?_
   refine Zd (Zq (Zb (Zc (Zc (Za (Lm u75 ?_))))))
   refine Lo u75 rfl ?_
   refine Zd (Zb (ZN rfl rfl ?_))
   refine Zc (Za (Lk u75 (.int .i64 1) ?_))
   refine Zd (Zb (Zj (Zl (W10 (.inr rfl) (Zf rfl rfl) ?_))))
   exact W16
  try simp only [qB] at hc32
  refine Zh (Zq (Zb (Zc (Zc (Za (Lm u75 ?_))))))
  refine Lo u75 rfl ?_
  refine Zd (Zb (ZN rfl rfl ?_))
  refine Zc (Za (Lk u75 (.int .i64 1) ?_))
  refine Zd (Zb (Zj (Zl (W10 (.inr rfl) (Zf rfl rfl) ?_))))
  exact W16
 try simp only [qB] at hc27
 refine Za (Lo u75 rfl ?_)
 refine La u75 ?_
 refine Zd (Zb (Zi _ rfl (fun hc35 => ?_) (fun hc35 => ?_)))
 ·try simp only [qB] at hc35
  refine Za (Lo u75 rfl ?_)
  refine Lo u75 (W12 rfl rfl rfl rfl) ?_
  refine Lo u75 rfl ?_
  refine Lm u75 ?_
  refine ZB 49 (env1 := u75) (env2 := u75) rfl rfl rfl (fun hg36 => ?_) (fun hg36 => ?_)
  ·try simp only [qB] at hg36
   refine Lo u75 rfl ?_
   refine Lo u75 (W12 rfl rfl rfl rfl) ?_
   refine Lo u75 rfl ?_
   refine Lo u75 (ZM rfl rfl rfl) ?_
   refine Lm u75 ?_
   refine ZB 54 (env1 := u75) (env2 := u75) rfl rfl rfl (fun hg37 => ?_) (fun hg37 => ?_)
   ·try simp only [qB] at hg37
    refine Lo u75 rfl ?_
    refine Lo u75 (W12 rfl rfl rfl rfl) ?_
    refine Lo u75 rfl ?_
    refine Lo u75 rfl ?_
    refine Lo u75 (ZM rfl rfl rfl) ?_
    refine La u75 ?_
    refine Zd (Zq (Zb (Zc (Zc (Za (Lm u75 ?_))))))
    refine Lo u75 rfl ?_
    refine Zd (Zb (Zi _ rfl (fun hc38 => ?_) (fun hc38 => ?_)))
    ·try simp only [qB] at hc38
     refine Zc (Za (Lk u75 (.int .i64 1) ?_))
     refine Zd (Zb (Zj (Zl (W10 (.inr rfl) (Zf rfl rfl) ?_))))
     exact W16
    try simp only [qB] at hc38
    refine Zh (Zb (Zc (Za (Lk u75 (.int .i64 0) ?_))))
    refine Zd (Zb (Zj (W10 (.inr rfl) (Zf rfl rfl) ?_)))
    exact W16
   try simp only [qB] at hg37
   refine Lf u75 ?_
   refine Lf u75 ?_
   refine Lf u75 ?_
   refine Lf u75 ?_
   refine Lo u75 (ZC (VVal.bool false) rfl rfl rfl) ?_
   refine La u75 ?_
   refine Zd (Zq (Zb (Zc (Zc (Za (Lm u75 ?_))))))
   refine Lo u75 rfl ?_
   refine Zd (Zb (ZN rfl rfl ?_))
   refine Zc (Za (Lk u75 (.int .i64 1) ?_))
   refine Zd (Zb (Zj (Zl (W10 (.inr rfl) (Zf rfl rfl) ?_))))
   exact W16
  try simp only [qB] at hg36
  refine Lf u75 ?_
  refine Lf u75 ?_
  refine Lf u75 ?_
  refine Lo u75 (ZC (VVal.bool false) rfl rfl rfl) ?_
  refine Lm u75 ?_
  refine Lf u75 ?_
  refine Lf u75 ?_
  refine Lf u75 ?_
  refine Lf u75 ?_
  refine Lo u75 (ZC (VVal.bool false) rfl rfl rfl) ?_
  refine La u75 ?_
  refine Zd (Zq (Zb (Zc (Zc (Za (Lm u75 ?_))))))
  refine Lo u75 rfl ?_
  refine Zd (Zb (ZN rfl rfl ?_))
  refine Zc (Za (Lk u75 (.int .i64 1) ?_))
  refine Zd (Zb (Zj (Zl (W10 (.inr rfl) (Zf rfl rfl) ?_))))
  exact W16
 try simp only [qB] at hc35
 refine Zc (Za (Lo u75 rfl ?_))
 refine La u75 ?_
 refine Zd (Zb (Zi _ rfl (fun hc39 => ?_) (fun hc39 => ?_)))
 ·try simp only [qB] at hc39
  refine Za (Lo u75 rfl ?_)
  refine Lo u75 (W12 rfl rfl rfl rfl) ?_
  refine Lo u75 rfl ?_
  refine Lm u75 ?_
  refine ZB 65 (env1 := u75) (env2 := u75) rfl rfl rfl (fun hg40 => ?_) (fun hg40 => ?_)
  ·try simp only [qB] at hg40
   refine Lo u75 rfl ?_
   refine Lo u75 (W12 rfl rfl rfl rfl) ?_
   refine Lo u75 rfl ?_
   refine Lo u75 (W12 rfl rfl rfl rfl) ?_
   refine Lo u75 rfl ?_
   refine Lo u75 rfl ?_
   refine Lo u75 (ZM rfl rfl rfl) ?_
   refine La u75 ?_
   refine Zd (Zq (Zb (Zc (Zc (Za (Lm u75 ?_))))))
   refine Lo u75 rfl ?_
   refine Zd (Zb (Zi _ rfl (fun hc41 => ?_) (fun hc41 => ?_)))
   ·try simp only [qB] at hc41
    refine Zc (Za (Lk u75 (.int .i64 1) ?_))
    refine Zd (Zb (Zj (Zl (W10 (.inr rfl) (Zf rfl rfl) ?_))))
    exact W16
   try simp only [qB] at hc41
   refine Zh (Zb (Zc (Za (Lk u75 (.int .i64 0) ?_))))
   refine Zd (Zb (Zj (W10 (.inr rfl) (Zf rfl rfl) ?_)))
   exact W16
  try simp only [qB] at hg40
  refine Lf u75 ?_
  refine Lf u75 ?_
  refine Lf u75 ?_
  refine Lf u75 ?_
  refine Lf u75 ?_
  refine Lf u75 ?_
  refine Lo u75 (ZC (VVal.bool false) rfl rfl rfl) ?_
  refine La u75 ?_
  refine Zd (Zq (Zb (Zc (Zc (Za (Lm u75 ?_))))))
  refine Lo u75 rfl ?_
  refine Zd (Zb (ZN rfl rfl ?_))
  refine Zc (Za (Lk u75 (.int .i64 1) ?_))
  refine Zd (Zb (Zj (Zl (W10 (.inr rfl) (Zf rfl rfl) ?_))))
  exact W16
 try simp only [qB] at hc39
 refine Zh (Zq (Zb (Zc (Zc (Za (Lm u75 ?_))))))
 refine Lo u75 rfl ?_
 refine Zd (Zb (ZN rfl rfl ?_))
 refine Zc (Za (Lk u75 (.int .i64 1) ?_))
 refine Zd (Zb (Zj (Zl (W10 (.inr rfl) (Zf rfl rfl) ?_))))
 exact W16
abbrev u8 {a0 a1 a2 a3 a4 a5 a6 a7 : VVal} : VEnv := a0 :: a1 :: a2 :: a3 :: a4 :: a5 :: a6 :: a7 :: []
abbrev u12 {a0 a1 a2 a3 a4 a5 a6 a7 a8 a9 a10 a11 : VVal} : VEnv := a0 :: a1 :: a2 :: a3 :: a4 :: a5 :: a6 :: a7 :: a8 :: a9 :: a10 :: a11 :: []
abbrev u17 {a0 a1 a2 a3 a4 a5 a6 a7 a8 a9 a10 a11 a12 a13 a14 a15 a16 : VVal} : VEnv := a0 :: a1 :: a2 :: a3 :: a4 :: a5 :: a6 :: a7 :: a8 :: a9 :: a10 :: a11 :: a12 :: a13 :: a14 :: a15 :: a16 :: []
abbrev u48 {a0 a1 a2 a3 a4 a5 a6 a7 a8 a9 a10 a11 a12 a13 a14 a15 a16 a17 a18 a19 a20 a21 a22 a23 a24 a25 a26 a27 a28 a29 a30 a31 a32 a33 a34 a35 a36 a37 a38 a39 a40 a41 a42 a43 a44 a45 a46 a47 : VVal} : VEnv := a0 :: a1 :: a2 :: a3 :: a4 :: a5 :: a6 :: a7 :: a8 :: a9 :: a10 :: a11 :: a12 :: a13 :: a14 :: a15 :: a16 :: a17 :: a18 :: a19 :: a20 :: a21 :: a22 :: a23 :: a24 :: a25 :: a26 :: a27 :: a28 :: a29 :: a30 :: a31 :: a32 :: a33 :: a34 :: a35 :: a36 :: a37 :: a38 :: a39 :: a40 :: a41 :: a42 :: a43 :: a44 :: a45 :: a46 :: a47 :: []
theorem W1f {T : TypeId → Option VTy} {H : Ze} {op : Op} {ρ : Operand → VVal} {t : TypeId} {a : Operand} {y : VTy} {p v : VVal} (ho : op = .load t a) (ha : ρ a = p) (hy : T t = some y) (hd : Zk y.desc = false) (h : LdOk H p v := by first | exact .inl ⟨_, _, rfl, by exact YT (α := Int) 0 (by omega)⟩ | exact .inr ⟨_, _, _, _, rfl, XH35, by exact YT (α := Int) 0 (by omega)⟩) : vop T ρ H op = some (v, H) := Yv ho ha hy hd h
theorem W1g {T : TypeId → Option VTy} {H : Ze} {op : Op} {ρ : Operand → VVal} {t e : TypeId} {x i : Operand} {y z : VTy} {k : IntKind} {n : Int} {p v : VVal} {es : Nat} (ho : op = .indexAddr t x i) (hx : ρ x = p) (hi : ρ i = .int k n) (hy : T t = some y) (hd : y.desc = .slice e) (hz : T e = some z) (hs : z.size = es) (h : IxOk p es n v := by first | exact .inl ⟨_, _, _, rfl, by omega, rfl⟩ | exact .inr ⟨_, _, _, _, _, rfl, by omega, rfl⟩) : vop T ρ H op = some (v, H) := v_ix ho hx hi hy hd hz hs h
abbrev lbK (r : Rul) (l : List Int) (k : Nat) : List Int := YK (r.steps.take k) l
abbrev lfK (r : Rul) (l : List Int) (k : Nat) : Nat := lft (r.steps.take k) l
theorem lbK_lt {r : Rul} {l : List Int} {k : Nat} (hk : k < r.steps.length) (h : r.steps.getD k 0 < l.length) : lbK r l (k + 1) = lbK r l k ++ [l.getD (r.steps.getD k 0).toNat 0] ∧ lfK r l (k + 1) = lfK r l k := by
 unfold lbK lfK; rw [Yf (d := 0) hk]; exact lbls_lt h
theorem lbK_ge {r : Rul} {l : List Int} {k : Nat} (hk : k < r.steps.length) (h : ¬ r.steps.getD k 0 < l.length) : lbK r l (k + 1) = lbK r l k ∧ lfK r l (k + 1) = lfK r l k + 1 := by
 unfold lbK lfK; rw [Yf (d := 0) hk]; exact lbls_ge h
theorem ZaJ {r : Rul} {l : List Int} {k : Nat} (hk : k ≤ r.steps.length) : (lbK r l k).length + lfK r l k = k := by
 unfold lbK lfK; rw [Zch, List.length_take]; omega
theorem lbK_all {r : Rul} {l : List Int} {k : Nat} (hk : r.steps.length ≤ k) : lbK r l k = YK r.steps l ∧ lfK r l k = lft r.steps l := by
 unfold lbK lfK; rw [List.take_of_length_le hk]; exact ⟨rfl, rfl⟩
theorem max_oft {L : List Int} {v : Int} : (if (((L ++ [v]).count v : Nat) : Int) > ((oft L : Nat) : Int) then (((L ++ [v]).count v : Nat) : Int) else ((oft L : Nat) : Int)) = ((oft (L ++ [v]) : Nat) : Int) := by
 rw [ZaH, show (L ++ [v]).count v = L.count v + 1 by simp]
 split <;> omega
theorem rck_of {n : Int} {r : Rul} (h : rck n r = true) : (0 ≤ n ∧ n ≤ 12) ∧ ZaN n r.steps = true ∧ knd r = true := by
 unfold rck at h; rw [Bool.and_eq_true, Bool.and_eq_true, decide_eq_true_eq] at h; exact h
theorem rck_kind {n : Int} {r : Rul} (h : rck n r = true) : 1 ≤ r.kind ∧ r.kind ≤ 5 := by
 by_cases hk : 1 ≤ r.kind ∧ r.kind ≤ 5
 ·exact hk
 have := (rck_of h).2.2; rw [knd_d hk] at this; cases this
theorem rck_pos {n : Int} {r : Rul} (h : rck n r = true) : ∀ s, s ∈ r.steps → 0 ≤ s := fun s hs => by
 have := Xn _ _ (rck_of h).2.1 s hs; omega
theorem rck_len {n : Int} {r : Rul} (h : rck n r = true) : r.steps.length ≤ 12 := by
 obtain ⟨h1, h2, _⟩ := rck_of h
 rcases Zc1 _ _ h2 with e | e
 ·rw [e]; exact Nat.zero_le _
 omega
theorem rcE_eq {n : Int} {r : Rul} : rcE n r = 0 ↔ rck n r = true := by
 constructor
 ·intro h
  by_cases hb : rck n r = true
  ·exact hb
  unfold rcE at h; rw [if_neg hb] at h; omega
 exact rcE_0
theorem kp_1 {k : Int} {st l : List Int} : kpL (1, k, st, ()) l = decide ((oft (YK st l) : Int) ≤ 1) := by
 show kp (1, k, st, ()) (YK st l) (lft st l) = _
 simp only [kp, Rul.kind, Rul.k]
 simp; omega
theorem kp_2 {k : Int} {st l : List Int} : kpL (2, k, st, ()) l = decide ((uq (YK st l) : Int) ≤ 1) := by
 show kp (2, k, st, ()) (YK st l) (lft st l) = _
 simp only [kp, Rul.kind, Rul.k]
 simp; omega
theorem kp_3 {k : Int} {st l : List Int} : kpL (3, k, st, ()) l = decide ((oft (YK st l) : Int) ≤ k) := by
 show kp (3, k, st, ()) (YK st l) (lft st l) = _
 simp only [kp, Rul.kind, Rul.k]
 simp
theorem kp_4 {k : Int} {st l : List Int} : kpL (4, k, st, ()) l = decide ((uq (YK st l) : Int) ≤ k) := by
 show kp (4, k, st, ()) (YK st l) (lft st l) = _
 simp only [kp, Rul.kind, Rul.k]
 simp
theorem kp_5 {k : Int} {st l : List Int} : kpL (5, k, st, ()) l = decide (k ≤ (uq (YK st l) : Int) + (lft st l : Nat)) := by
 show kp (5, k, st, ()) (YK st l) (lft st l) = _
 simp only [kp, Rul.kind, Rul.k]
 simp
theorem capart_spec {x : SW} (H : Ze) (m u lf k : Int)  : F (psys x) 153 [.agg [iI m, iI u, iI lf], iI k] H fun v G => v = .bool (decide (m ≤ 1)) ∧ G = H := by
 refine Zp Tryd.func153 rfl u8 rfl ?_
 refine Zc (Za (Lo u8 (ZJ rfl rfl rfl) ?_))
 refine Lk u8 (.bool false) ?_
 refine Zd (Zb (Zc (Za (Lo u8 rfl ?_))))
 refine Lo u8 (W12 rfl rfl rfl rfl) ?_
 refine Lo u8 rfl ?_
 refine La u8 ?_
 refine Zd (Zb (Zj (W10 (.inr rfl) (Zf rfl rfl) ?_)))
 exact ⟨rfl, rfl⟩
theorem csame_spec {x : SW} (H : Ze) (m u lf k : Int)  : F (psys x) 154 [.agg [iI m, iI u, iI lf], iI k] H fun v G => v = .bool (decide (u ≤ 1)) ∧ G = H := by
 refine Zp Tryd.func154 rfl u8 rfl ?_
 refine Zc (Za (Lo u8 (ZJ rfl rfl rfl) ?_))
 refine Lk u8 (.bool false) ?_
 refine Zd (Zb (Zc (Za (Lo u8 rfl ?_))))
 refine Lo u8 (W12 rfl rfl rfl rfl) ?_
 refine Lo u8 rfl ?_
 refine La u8 ?_
 refine Zd (Zb (Zj (W10 (.inr rfl) (Zf rfl rfl) ?_)))
 exact ⟨rfl, rfl⟩
theorem catMost_spec {x : SW} (H : Ze) (m u lf k : Int)  : F (psys x) 155 [.agg [iI m, iI u, iI lf], iI k] H fun v G => v = .bool (decide (m ≤ k)) ∧ G = H := by
 refine Zp Tryd.func155 rfl u9 rfl ?_
 refine Zc (Za (Lo u9 (ZJ rfl rfl rfl) ?_))
 refine Lk u9 (.bool false) ?_
 refine Zd (Zb (Zc (Za (Lo u9 rfl ?_))))
 refine Lo u9 (W12 rfl rfl rfl rfl) ?_
 refine Lm u9 ?_
 refine Lo u9 rfl ?_
 refine La u9 ?_
 refine Zd (Zb (Zj (W10 (.inr rfl) (Zf rfl rfl) ?_)))
 exact ⟨rfl, rfl⟩
theorem cfew_spec {x : SW} (H : Ze) (m u lf k : Int)  : F (psys x) 156 [.agg [iI m, iI u, iI lf], iI k] H fun v G => v = .bool (decide (u ≤ k)) ∧ G = H := by
 refine Zp Tryd.func156 rfl u9 rfl ?_
 refine Zc (Za (Lo u9 (ZJ rfl rfl rfl) ?_))
 refine Lk u9 (.bool false) ?_
 refine Zd (Zb (Zc (Za (Lo u9 rfl ?_))))
 refine Lo u9 (W12 rfl rfl rfl rfl) ?_
 refine Lm u9 ?_
 refine Lo u9 rfl ?_
 refine La u9 ?_
 refine Zd (Zb (Zj (W10 (.inr rfl) (Zf rfl rfl) ?_)))
 exact ⟨rfl, rfl⟩
theorem cmany_spec {x : SW} (H : Ze) (m u lf k : Int) (hb : 0 ≤ u ∧ u ≤ 1000000 ∧ 0 ≤ lf ∧ lf ≤ 1000000) : F (psys x) 157 [.agg [iI m, iI u, iI lf], iI k] H fun v G => v = .bool (decide (k ≤ u + lf)) ∧ G = H := by
 refine Zp Tryd.func157 rfl u12 rfl ?_
 refine Zc (Za (Lo u12 (ZJ rfl rfl rfl) ?_))
 refine Lk u12 (.bool false) ?_
 refine Zd (Zb (Zc (Za (Lo u12 rfl ?_))))
 refine Lo u12 (W12 rfl rfl rfl rfl) ?_
 refine Lo u12 rfl ?_
 refine Lo u12 (W12 rfl rfl rfl rfl) ?_
 refine Lo u12 (W14 rfl rfl rfl) ?_
 refine Lm u12 ?_
 refine Lo u12 rfl ?_
 refine La u12 ?_
 refine Zd (Zb (Zj (W10 (.inr rfl) (Zf rfl rfl) ?_)))
 exact ⟨rfl, rfl⟩
theorem Xf {x : SW} (H : Ze) (r : Rul) (l : List Int) (hs : ∀ s, s ∈ r.steps → 0 ≤ s) (hl : r.steps.length ≤ 1000000) : F (psys x) 158 [.agg (rlB r), fzI l] H fun v G => v = .agg [iI (oft (YK r.steps l) : Nat), iI (uq (YK r.steps l) : Nat), iI (lft r.steps l : Nat)] ∧ G = H := by
 refine Zp Tryd.func158 rfl u48 rfl ?_
 refine Zc (Za (Lo u48 (ZJ rfl rfl rfl) ?_))
 refine Lo u48 (ZP rfl rfl) ?_
 refine Zd (Zb (Zc (Za (Lo u48 rfl ?_))))
 refine Lo u48 (v_map rfl) ?_
 refine Lo u48 (ZP rfl rfl) ?_
 refine Lo u48 (W13 rfl rfl rfl rfl rfl rfl rfl) ?_
 refine La u48 ?_
 refine Zd (Zb (Zc (Zc (Za (Lo u48 rfl ?_)))))
 refine Lo u48 (W12 rfl rfl rfl rfl) ?_
 refine Lo u48 rfl ?_
 refine Lo u48 (Z4 (VVal.int .i64 0) (.inl rfl) rfl) ?_
 refine Zd (Zb (Zg (Zr (mk 48 281474976681869) (env' := u48) rfl ?_)))
 refine Zw (fun (k : Nat) => r.steps.length - k) (fun (k : Nat) => [(14, iI (k : Nat))]) (fun (k : Nat) G => (k ≤ r.steps.length) ∧ G = H ++ [.cells (rlB r) true, .cells [iI 0, iI 0, iI 0] true, .map (cnM (lbK r l k)), .cells [iI (oft (lbK r l k) : Nat), iI 0, iI (lfK r l k : Nat)] true]) 0 rfl ?_ ?_
 ·refine ⟨?_, rfl⟩
  exact Nat.zero_le _
 rintro k _ ⟨hk, rfl⟩
 refine ZL (env' := u48) rfl ?_
 refine Zc (Za (Lo u48 rfl ?_))
 refine Zd (Zb (Zc (Zi _ rfl (fun hc1 => ?_) (fun hc1 => ?_))))
 ·try simp only [qB, qN] at hc1
  refine Zh (Zb (Zc (Zg (Zc (Za (Lo u48 (W18 rfl rfl rfl rfl rfl rfl rfl) ?_))))))
  refine Lo u48 (W1f rfl rfl rfl rfl) ?_
  refine La u48 ?_
  refine Zd (Zb (Zc (Zc (Za (Lm u48 ?_)))))
  refine Lm u48 ?_
  refine Lo u48 rfl ?_
  refine Lo u48 rfl ?_
  refine Zd (Zb (Zi _ rfl (fun hc2 => ?_) (fun hc2 => ?_)))
  ·try simp only [qB, qN] at hc2
   refine Zc ?_
   have hlk := ZaJ (l := l) hk
   have hE := lbK_ge (r := r) (l := l) (k := k) (by omega) (by omega)
   refine Za (Lo u48 rfl ?_)
   refine Lo u48 (W12 rfl rfl rfl rfl) ?_
   refine Lo u48 (W14 rfl rfl rfl) ?_
   refine Lo u48 rfl ?_
   refine Lo u48 (W13 rfl rfl rfl rfl rfl rfl rfl) ?_
   refine Zd (Zb (Zz (ZA (Zy (Zb (Za (Lo u48 (W14 rfl rfl rfl) ?_)))))))
   refine Lm u48 ?_
   refine Zd (Zt (mk 48 281474976681869) (env' := u48) rfl ⟨k + 1, ?_, rfl, ?_⟩)
   ·first | omega | (simp only []; omega)
   exact ⟨by omega, by rw [hE.1, hE.2]; rfl⟩
  try simp only [qB, qN] at hc2
  refine Zh (Zb (Zc ?_))
  have hlk := ZaJ (l := l) hk
  have hpos : 0 ≤ r.steps.getD k 0 := hs _ (Jd (by omega))
  have hlt : r.steps.getD k 0 < l.length := by omega
  have hE := lbK_lt (r := r) (l := l) (k := k) (by omega) hlt
  have hcn : (lbK r l k).count (l.getD (r.steps.getD k 0).toNat 0) ≤ (lbK r l k).length := List.count_le_length
  refine Za (Lm u48 ?_)
  refine Lm u48 ?_
  refine Lm u48 ?_
  refine Lo u48 (W1g rfl rfl rfl rfl rfl rfl rfl) ?_
  refine Lo u48 (W12 rfl rfl rfl rfl) ?_
  refine Lo u48 (v_lookI rfl rfl rfl rfl rfl rfl rfl rfl rfl rfl (ZI rfl rfl) cn_get cn_get') ?_
  refine Lo u48 (W14 rfl rfl rfl) ?_
  refine Lo u48 (v_mupdI rfl rfl rfl rfl rfl rfl rfl rfl (ZI rfl rfl) cn_get ((congrArg (fun m => List.set _ _ (VBlk.map m)) cn_put).trans (ZO rfl))) ?_
  refine Zd (Zb (ZK [0, 1, 2, 3, 4, 5, 6, 7, 8, 9, 10] #[0, 1, 0, 0, 0, 24, 56, 124, 255, 511, 1023] XH3 XH3 XH3 ?_))
  refine Oc u48 rfl rfl ?_
  refine Ok u48 rfl (W12 rfl rfl rfl rfl) ?_
  refine Om u48 ?_
  refine Om u48 ?_
  refine Om u48 ?_
  refine Oc u48 rfl (W1g rfl rfl rfl rfl rfl rfl rfl) ?_
  refine Ok u48 rfl (W12 rfl rfl rfl rfl) ?_
  refine Ok u48 rfl (v_lookI rfl rfl rfl rfl rfl rfl rfl rfl rfl rfl (ZI rfl rfl) cn_get cn_get') ?_
  refine Oc u48 rfl (Xg (u := iI (oft (lbK r l (k + 1)) : Nat)) rfl (by rw [hE.1]; exact congrArg iI max_oft)) ?_
  refine Oc u48 rfl rfl ?_
  refine Oo u48 .turn rfl (W13 rfl rfl rfl rfl rfl rfl rfl) ?_
  refine ZW [] XH3 (trivial) ?_
  refine Zq (Zb (Za (Lo u48 (W14 rfl rfl rfl) ?_)))
  refine Lm u48 ?_
  refine Zd (Zt (mk 48 281474976681869) (env' := u48) rfl ⟨k + 1, ?_, rfl, ?_⟩)
  ·first | omega | (simp only []; omega)
  exact ⟨by omega, by rw [hE.1, hE.2]; rfl⟩
 try simp only [qB, qN] at hc1
 refine Zz (ZA (Zu (Zy (Zb (Zc (Za (Lm u48 ?_)))))))
 refine Lo u48 (v_lenM rfl rfl rfl rfl (ZI rfl rfl)) ?_
 refine Lo u48 rfl ?_
 refine Lo u48 (W13 rfl rfl rfl rfl rfl rfl rfl) ?_
 refine Zd (Zb (Zc (Za (Lo u48 (W11 rfl rfl rfl rfl rfl) ?_))))
 refine Lo u48 (W13 rfl rfl rfl rfl rfl rfl rfl) ?_
 refine Zd (Zb (Zj ?_))
 refine W10 (.inr rfl) (YV rfl rfl rfl rfl XH0 XH6) ?_
 have hA := lbK_all (r := r) (l := l) (k := k) (by omega)
 rw [hA.1, hA.2, cnM_len]
 exact ⟨rfl, rfl⟩
theorem cal_n {st l : List Int} (h : st.length ≤ 1000000) : (0 ≤ ((uq (YK st l) : Nat) : Int) ∧ ((uq (YK st l) : Nat) : Int) ≤ 1000000 ∧ 0 ≤ ((lft st l : Nat) : Int) ∧ ((lft st l : Nat) : Int) ≤ 1000000) := by
 have h1 := Zch st l; have h2 := uq_le (YK st l); omega
theorem keeps1 {x : SW} (H : Ze) (k : Int) (st l : List Int) (hs : ∀ s, s ∈ st → 0 ≤ s) (hl : st.length ≤ 1000000) : F (psys x) 133 [.agg [iI 1, iI k, fzI st], fzI l] H fun v G => v = .bool (kpL (1, k, st, ()) l) ∧ G = H := by
 refine Zp Tryd.func133 rfl u17 rfl ?_
 refine Zc (Za (Lo u17 (ZJ rfl rfl rfl) ?_))
 refine Lk u17 (.bool false) ?_
 refine Zd (Zb (Zc (Za (Lo u17 (Xg (u := .agg [.nilFunc, .func 153 [] [], .func 154 [] [], .func 155 [] [], .func 156 [] [], .func 157 [] []]) rfl rfl) ?_))))
 refine Lo u17 (ZP rfl rfl) ?_
 refine Lo u17 (W13 rfl rfl rfl rfl rfl rfl rfl) ?_
 refine Zd (Zb (Zc (ZK [0, 1, 2, 3, 4, 5, 7, 8, 6, 9, 10] #[0, 1, 3, 7, 0, 0, 48, 0, 128, 511, 1023] XH3 XH3 XH3 ?_)))
 refine Oc u17 rfl rfl ?_
 refine Yb (env' := u17) (x := .look _ _) rfl rfl rfl (W12 rfl rfl rfl rfl) rfl rfl rfl ?_
 refine Oc u17 rfl XH34 ?_
 refine Yb (env' := u17) (x := .look _ _) rfl rfl rfl (W12 rfl rfl rfl rfl) rfl rfl rfl ?_
 refine Ok u17 rfl (W11 rfl rfl rfl rfl rfl) ?_
 refine Om u17 ?_
 refine Oc u17 rfl rfl ?_
 refine Yb (env' := u17) (x := .look _ _) rfl rfl rfl (W12 rfl rfl rfl rfl) rfl rfl rfl ?_
 refine Yd (env' := u17) rfl rfl rfl rfl rfl (by exact Xf _ (1, k, st, ()) _ hs hl) XH8 rfl rfl ?_
 refine Yd (env' := u17) rfl rfl rfl rfl rfl (by exact capart_spec _ _ _ _ _) XH8 rfl rfl ?_
 refine Oc u17 rfl (Yo (.inr rfl) rfl) ?_
 refine ZW [_, _, _] (by rfl) (And.intro (And.intro (W12 rfl rfl rfl rfl) (W12 rfl rfl rfl rfl)) (And.intro (And.intro (W12 rfl rfl rfl rfl) (W12 rfl rfl rfl rfl)) (And.intro (And.intro (W12 rfl rfl rfl rfl) (W12 rfl rfl rfl rfl)) trivial))) ?_
 refine Zb (Zj (W10 (.inr rfl) (Zf rfl rfl) ?_))
 exact ⟨by rw [kp_1], rfl⟩
theorem keeps2 {x : SW} (H : Ze) (k : Int) (st l : List Int) (hs : ∀ s, s ∈ st → 0 ≤ s) (hl : st.length ≤ 1000000) : F (psys x) 133 [.agg [iI 2, iI k, fzI st], fzI l] H fun v G => v = .bool (kpL (2, k, st, ()) l) ∧ G = H := by
 refine Zp Tryd.func133 rfl u17 rfl ?_
 refine Zc (Za (Lo u17 (ZJ rfl rfl rfl) ?_))
 refine Lk u17 (.bool false) ?_
 refine Zd (Zb (Zc (Za (Lo u17 (Xg (u := .agg [.nilFunc, .func 153 [] [], .func 154 [] [], .func 155 [] [], .func 156 [] [], .func 157 [] []]) rfl rfl) ?_))))
 refine Lo u17 (ZP rfl rfl) ?_
 refine Lo u17 (W13 rfl rfl rfl rfl rfl rfl rfl) ?_
 refine Zd (Zb (Zc (ZK [0, 1, 2, 3, 4, 5, 7, 8, 6, 9, 10] #[0, 1, 3, 7, 0, 0, 48, 0, 128, 511, 1023] XH3 XH3 XH3 ?_)))
 refine Oc u17 rfl rfl ?_
 refine Yb (env' := u17) (x := .look _ _) rfl rfl rfl (W12 rfl rfl rfl rfl) rfl rfl rfl ?_
 refine Oc u17 rfl XH34 ?_
 refine Yb (env' := u17) (x := .look _ _) rfl rfl rfl (W12 rfl rfl rfl rfl) rfl rfl rfl ?_
 refine Ok u17 rfl (W11 rfl rfl rfl rfl rfl) ?_
 refine Om u17 ?_
 refine Oc u17 rfl rfl ?_
 refine Yb (env' := u17) (x := .look _ _) rfl rfl rfl (W12 rfl rfl rfl rfl) rfl rfl rfl ?_
 refine Yd (env' := u17) rfl rfl rfl rfl rfl (by exact Xf _ (2, k, st, ()) _ hs hl) XH8 rfl rfl ?_
 refine Yd (env' := u17) rfl rfl rfl rfl rfl (by exact csame_spec _ _ _ _ _) XH8 rfl rfl ?_
 refine Oc u17 rfl (Yo (.inr rfl) rfl) ?_
 refine ZW [_, _, _] (by rfl) (And.intro (And.intro (W12 rfl rfl rfl rfl) (W12 rfl rfl rfl rfl)) (And.intro (And.intro (W12 rfl rfl rfl rfl) (W12 rfl rfl rfl rfl)) (And.intro (And.intro (W12 rfl rfl rfl rfl) (W12 rfl rfl rfl rfl)) trivial))) ?_
 refine Zb (Zj (W10 (.inr rfl) (Zf rfl rfl) ?_))
 exact ⟨by rw [kp_2], rfl⟩
theorem keeps3 {x : SW} (H : Ze) (k : Int) (st l : List Int) (hs : ∀ s, s ∈ st → 0 ≤ s) (hl : st.length ≤ 1000000) : F (psys x) 133 [.agg [iI 3, iI k, fzI st], fzI l] H fun v G => v = .bool (kpL (3, k, st, ()) l) ∧ G = H := by
 refine Zp Tryd.func133 rfl u17 rfl ?_
 refine Zc (Za (Lo u17 (ZJ rfl rfl rfl) ?_))
 refine Lk u17 (.bool false) ?_
 refine Zd (Zb (Zc (Za (Lo u17 (Xg (u := .agg [.nilFunc, .func 153 [] [], .func 154 [] [], .func 155 [] [], .func 156 [] [], .func 157 [] []]) rfl rfl) ?_))))
 refine Lo u17 (ZP rfl rfl) ?_
 refine Lo u17 (W13 rfl rfl rfl rfl rfl rfl rfl) ?_
 refine Zd (Zb (Zc (ZK [0, 1, 2, 3, 4, 5, 7, 8, 6, 9, 10] #[0, 1, 3, 7, 0, 0, 48, 0, 128, 511, 1023] XH3 XH3 XH3 ?_)))
 refine Oc u17 rfl rfl ?_
 refine Yb (env' := u17) (x := .look _ _) rfl rfl rfl (W12 rfl rfl rfl rfl) rfl rfl rfl ?_
 refine Oc u17 rfl XH34 ?_
 refine Yb (env' := u17) (x := .look _ _) rfl rfl rfl (W12 rfl rfl rfl rfl) rfl rfl rfl ?_
 refine Ok u17 rfl (W11 rfl rfl rfl rfl rfl) ?_
 refine Om u17 ?_
 refine Oc u17 rfl rfl ?_
 refine Yb (env' := u17) (x := .look _ _) rfl rfl rfl (W12 rfl rfl rfl rfl) rfl rfl rfl ?_
 refine Yd (env' := u17) rfl rfl rfl rfl rfl (by exact Xf _ (3, k, st, ()) _ hs hl) XH8 rfl rfl ?_
 refine Yd (env' := u17) rfl rfl rfl rfl rfl (by exact catMost_spec _ _ _ _ _) XH8 rfl rfl ?_
 refine Oc u17 rfl (Yo (.inr rfl) rfl) ?_
 refine ZW [_, _, _] (by rfl) (And.intro (And.intro (W12 rfl rfl rfl rfl) (W12 rfl rfl rfl rfl)) (And.intro (And.intro (W12 rfl rfl rfl rfl) (W12 rfl rfl rfl rfl)) (And.intro (And.intro (W12 rfl rfl rfl rfl) (W12 rfl rfl rfl rfl)) trivial))) ?_
 refine Zb (Zj (W10 (.inr rfl) (Zf rfl rfl) ?_))
 exact ⟨by rw [kp_3], rfl⟩
theorem keeps4 {x : SW} (H : Ze) (k : Int) (st l : List Int) (hs : ∀ s, s ∈ st → 0 ≤ s) (hl : st.length ≤ 1000000) : F (psys x) 133 [.agg [iI 4, iI k, fzI st], fzI l] H fun v G => v = .bool (kpL (4, k, st, ()) l) ∧ G = H := by
 refine Zp Tryd.func133 rfl u17 rfl ?_
 refine Zc (Za (Lo u17 (ZJ rfl rfl rfl) ?_))
 refine Lk u17 (.bool false) ?_
 refine Zd (Zb (Zc (Za (Lo u17 (Xg (u := .agg [.nilFunc, .func 153 [] [], .func 154 [] [], .func 155 [] [], .func 156 [] [], .func 157 [] []]) rfl rfl) ?_))))
 refine Lo u17 (ZP rfl rfl) ?_
 refine Lo u17 (W13 rfl rfl rfl rfl rfl rfl rfl) ?_
 refine Zd (Zb (Zc (ZK [0, 1, 2, 3, 4, 5, 7, 8, 6, 9, 10] #[0, 1, 3, 7, 0, 0, 48, 0, 128, 511, 1023] XH3 XH3 XH3 ?_)))
 refine Oc u17 rfl rfl ?_
 refine Yb (env' := u17) (x := .look _ _) rfl rfl rfl (W12 rfl rfl rfl rfl) rfl rfl rfl ?_
 refine Oc u17 rfl XH34 ?_
 refine Yb (env' := u17) (x := .look _ _) rfl rfl rfl (W12 rfl rfl rfl rfl) rfl rfl rfl ?_
 refine Ok u17 rfl (W11 rfl rfl rfl rfl rfl) ?_
 refine Om u17 ?_
 refine Oc u17 rfl rfl ?_
 refine Yb (env' := u17) (x := .look _ _) rfl rfl rfl (W12 rfl rfl rfl rfl) rfl rfl rfl ?_
 refine Yd (env' := u17) rfl rfl rfl rfl rfl (by exact Xf _ (4, k, st, ()) _ hs hl) XH8 rfl rfl ?_
 refine Yd (env' := u17) rfl rfl rfl rfl rfl (by exact cfew_spec _ _ _ _ _) XH8 rfl rfl ?_
 refine Oc u17 rfl (Yo (.inr rfl) rfl) ?_
 refine ZW [_, _, _] (by rfl) (And.intro (And.intro (W12 rfl rfl rfl rfl) (W12 rfl rfl rfl rfl)) (And.intro (And.intro (W12 rfl rfl rfl rfl) (W12 rfl rfl rfl rfl)) (And.intro (And.intro (W12 rfl rfl rfl rfl) (W12 rfl rfl rfl rfl)) trivial))) ?_
 refine Zb (Zj (W10 (.inr rfl) (Zf rfl rfl) ?_))
 exact ⟨by rw [kp_4], rfl⟩
theorem keeps5 {x : SW} (H : Ze) (k : Int) (st l : List Int) (hs : ∀ s, s ∈ st → 0 ≤ s) (hl : st.length ≤ 1000000) : F (psys x) 133 [.agg [iI 5, iI k, fzI st], fzI l] H fun v G => v = .bool (kpL (5, k, st, ()) l) ∧ G = H := by
 refine Zp Tryd.func133 rfl u17 rfl ?_
 refine Zc (Za (Lo u17 (ZJ rfl rfl rfl) ?_))
 refine Lk u17 (.bool false) ?_
 refine Zd (Zb (Zc (Za (Lo u17 (Xg (u := .agg [.nilFunc, .func 153 [] [], .func 154 [] [], .func 155 [] [], .func 156 [] [], .func 157 [] []]) rfl rfl) ?_))))
 refine Lo u17 (ZP rfl rfl) ?_
 refine Lo u17 (W13 rfl rfl rfl rfl rfl rfl rfl) ?_
 refine Zd (Zb (Zc (ZK [0, 1, 2, 3, 4, 5, 7, 8, 6, 9, 10] #[0, 1, 3, 7, 0, 0, 48, 0, 128, 511, 1023] XH3 XH3 XH3 ?_)))
 refine Oc u17 rfl rfl ?_
 refine Yb (env' := u17) (x := .look _ _) rfl rfl rfl (W12 rfl rfl rfl rfl) rfl rfl rfl ?_
 refine Oc u17 rfl XH34 ?_
 refine Yb (env' := u17) (x := .look _ _) rfl rfl rfl (W12 rfl rfl rfl rfl) rfl rfl rfl ?_
 refine Ok u17 rfl (W11 rfl rfl rfl rfl rfl) ?_
 refine Om u17 ?_
 refine Oc u17 rfl rfl ?_
 refine Yb (env' := u17) (x := .look _ _) rfl rfl rfl (W12 rfl rfl rfl rfl) rfl rfl rfl ?_
 refine Yd (env' := u17) rfl rfl rfl rfl rfl (by exact Xf _ (5, k, st, ()) _ hs hl) XH8 rfl rfl ?_
 refine Yd (env' := u17) rfl rfl rfl rfl rfl (by exact cmany_spec _ _ _ _ _ (cal_n hl)) XH8 rfl rfl ?_
 refine Oc u17 rfl (Yo (.inr rfl) rfl) ?_
 refine ZW [_, _, _] (by rfl) (And.intro (And.intro (W12 rfl rfl rfl rfl) (W12 rfl rfl rfl rfl)) (And.intro (And.intro (W12 rfl rfl rfl rfl) (W12 rfl rfl rfl rfl)) (And.intro (And.intro (W12 rfl rfl rfl rfl) (W12 rfl rfl rfl rfl)) trivial))) ?_
 refine Zb (Zj (W10 (.inr rfl) (Zf rfl rfl) ?_))
 exact ⟨by rw [kp_5], rfl⟩
theorem keeps_spec {x : SW} (H : Ze) (r : Rul) (l : List Int) (hk : 1 ≤ r.kind ∧ r.kind ≤ 5) (hs : ∀ s, s ∈ r.steps → 0 ≤ s) (hl : r.steps.length ≤ 1000000) : F (psys x) 133 [.agg (rlB r), fzI l] H fun v G => v = .bool (kpL r l) ∧ G = H := by
 obtain ⟨kd, k, st, ⟨⟩⟩ := r
 simp only [Rul.kind] at hk
 have h5 : kd = 1 ∨ kd = 2 ∨ kd = 3 ∨ kd = 4 ∨ kd = 5 := by omega
 rcases h5 with rfl | rfl | rfl | rfl | rfl
 ·exact keeps1 H k st l hs hl
 ·exact keeps2 H k st l hs hl
 ·exact keeps3 H k st l hs hl
 ·exact keeps4 H k st l hs hl
 exact keeps5 H k st l hs hl
theorem Y3 {l : List Rul} {k : Nat} (h : k < l.length) : l.getD k r0 ∈ l := by
 rw [List.getD_eq_getElem?_getD, List.getElem?_eq_getElem h]; simp
abbrev u25 {a0 a1 a2 a3 a4 a5 a6 a7 a8 a9 a10 a11 a12 a13 a14 a15 a16 a17 a18 a19 a20 a21 a22 a23 a24 : VVal} : VEnv := a0 :: a1 :: a2 :: a3 :: a4 :: a5 :: a6 :: a7 :: a8 :: a9 :: a10 :: a11 :: a12 :: a13 :: a14 :: a15 :: a16 :: a17 :: a18 :: a19 :: a20 :: a21 :: a22 :: a23 :: a24 :: []
abbrev u79 {a0 a1 a2 a3 a4 a5 a6 a7 a8 a9 a10 a11 a12 a13 a14 a15 a16 a17 a18 a19 a20 a21 a22 a23 a24 a25 a26 a27 a28 a29 a30 a31 a32 a33 a34 a35 a36 a37 a38 a39 a40 a41 a42 a43 a44 a45 a46 a47 a48 a49 a50 a51 a52 a53 a54 a55 a56 a57 a58 a59 a60 a61 a62 a63 a64 a65 a66 a67 a68 a69 a70 a71 a72 a73 a74 a75 a76 a77 a78 : VVal} : VEnv := a0 :: a1 :: a2 :: a3 :: a4 :: a5 :: a6 :: a7 :: a8 :: a9 :: a10 :: a11 :: a12 :: a13 :: a14 :: a15 :: a16 :: a17 :: a18 :: a19 :: a20 :: a21 :: a22 :: a23 :: a24 :: a25 :: a26 :: a27 :: a28 :: a29 :: a30 :: a31 :: a32 :: a33 :: a34 :: a35 :: a36 :: a37 :: a38 :: a39 :: a40 :: a41 :: a42 :: a43 :: a44 :: a45 :: a46 :: a47 :: a48 :: a49 :: a50 :: a51 :: a52 :: a53 :: a54 :: a55 :: a56 :: a57 :: a58 :: a59 :: a60 :: a61 :: a62 :: a63 :: a64 :: a65 :: a66 :: a67 :: a68 :: a69 :: a70 :: a71 :: a72 :: a73 :: a74 :: a75 :: a76 :: a77 :: a78 :: []
theorem W1j {T : TypeId → Option VTy} {H : Ze} {op : Op} {ρ : Operand → VVal} {t ty : TypeId} {x y : Operand} {n m : Int} (ho : op = .binOp .add t x y ty) (hx : ρ x = .int .i64 n) (hy : ρ y = .int .i64 m) (h : -9223372036854775808 ≤ n + m ∧ n + m < 9223372036854775808 := by exact ⟨by omega, Int.lt_of_le_of_lt (Int.add_le_add (by decide : _ ≤ (100 : Int)) (Int.ofNat_le.2 (ln_64 _))) (by decide)⟩) : vop T ρ H op = some (.int .i64 (n + m), H) := Zab ho hx hy h
theorem W1l {P : Prop} (h : P := by first | omega | (have := e1 (by omega); have := e3 (by omega); have := e7 (by omega); omega)) : P := h
theorem W1n {T : TypeId → Option VTy} {H : Ze} {op : Op} {ρ : Operand → VVal} {t ty : TypeId} {x y : Operand} {n m : Int} (ho : op = .binOp .sub t x y ty) (hx : ρ x = .int .i64 n) (hy : ρ y = .int .i64 m) (h : -9223372036854775808 ≤ n - m ∧ n - m < 9223372036854775808 := by have h9 := ln_64 w; omega) : vop T ρ H op = some (.int .i64 (n - m), H) := v_subI ho hx hy h
theorem W1p {T : TypeId → Option VTy} {H : Ze} {op : Op} {ρ : Operand → VVal} {t : TypeId} {a : Operand} {y : VTy} {p v : VVal} (ho : op = .load t a) (ha : ρ a = p) (hy : T t = some y) (hd : Zk y.desc = false) (h : LdOk H p v := by first | exact .inl ⟨_, _, rfl, XH45⟩ | exact .inr ⟨_, _, _, _, rfl, XH35, XH45⟩) : vop T ρ H op = some (v, H) := Yv ho ha hy hd h
theorem W1q {P : Prop} (h : P := by first | exact ⟨by rw [pck_2 (by omega)], rfl⟩ | exact ⟨by rw [pck_1 (by omega) (by omega)], rfl⟩ | exact ⟨by rw [pck_1w (i := k) hn1 hn2 (by omega) (okW_bad (by omega) (by omega))], rfl⟩ | exact ⟨by rw [pck_1r (i := m) hn1 hn2 (by omega) (fun e => by have := rcE_eq.2 e; omega)], rfl⟩ | exact ⟨by rw [pck_0 hn1 hn2 (fun i hi => hw i (by omega)) (fun i hi => hr i (by omega))], rfl⟩) : P := h
theorem W1s {T : TypeId → Option VTy} {H : Ze} {op : Op} {ρ : Operand → VVal} {t ty : TypeId} {x y : Operand} {n m : Int} (ho : op = .binOp .add t x y ty) (hx : ρ x = .int .i64 n) (hy : ρ y = .int .i64 m) (h : -9223372036854775808 ≤ n + m ∧ n + m < 9223372036854775808 := by omega) : vop T ρ H op = some (.int .i64 (n + m), H) := Zab ho hx hy h
theorem W1t {T : TypeId → Option VTy} {H : Ze} {op : Op} {ρ : Operand → VVal} {t : TypeId} {a : Operand} {y : VTy} {p : VVal} {n : Nat} {vs : List VVal} (ho : op = .load t a) (ha : ρ a = p) (hy : T t = some y) (hd : Zk y.desc = true) (hn : y.size = n) (h : XF H p n vs := by first | exact .inl ⟨_, _, rfl, XH45⟩ | exact .inr ⟨_, _, _, _, rfl, XH35, XH45⟩) : vop T ρ H op = some (.agg vs, H) := XI ho ha hy hd hn h
theorem Len64_spec {x : SW} (H : Ze) (w : BitVec 64) : F (psys x) 94 [iW w] H fun v G => v = iI (ln w : Nat) ∧ G = H := by
 have hw := w.isLt; have d1 : (w >>> 32).toNat = w.toNat / 4294967296 := by rw [BitVec.toNat_ushiftRight, Nat.shiftRight_eq_div_pow]
 have d2 : (w >>> 16).toNat = w.toNat / 65536 := by rw [BitVec.toNat_ushiftRight, Nat.shiftRight_eq_div_pow]
 have d3 : (w >>> 8).toNat = w.toNat / 256 := by rw [BitVec.toNat_ushiftRight, Nat.shiftRight_eq_div_pow]
 have d4 : (w >>> 32 >>> 16).toNat = (w >>> 32).toNat / 65536 := by rw [BitVec.toNat_ushiftRight, Nat.shiftRight_eq_div_pow]
 have d5 : (w >>> 32 >>> 8).toNat = (w >>> 32).toNat / 256 := by rw [BitVec.toNat_ushiftRight, Nat.shiftRight_eq_div_pow]
 have d6 : (w >>> 16 >>> 8).toNat = (w >>> 16).toNat / 256 := by rw [BitVec.toNat_ushiftRight, Nat.shiftRight_eq_div_pow]
 have d7 : (w >>> 32 >>> 16 >>> 8).toNat = (w >>> 32 >>> 16).toNat / 256 := by rw [BitVec.toNat_ushiftRight, Nat.shiftRight_eq_div_pow]
 refine Zp Tryd.func94 rfl u25 rfl ?_
 refine Zc (Za (Lk u25 (.int .i64 0) ?_))
 refine Zd (Zb (Zc (Zc (Za (Lm u25 ?_)))))
 refine Lo u25 rfl ?_
 refine Zd (Zb (Zi _ rfl (fun hc1 => ?_) (fun hc1 => ?_)))
 ·try simp only [qB] at hc1
  refine Zc (Za (Lm u25 ?_))
  refine Lo u25 (Zaa 32 rfl rfl rfl) ?_
  refine La u25 ?_
  refine Zd (Zb (Za (Lk u25 (.int .i64 32) ?_)))
  refine Zd (Zb (Zc (Zc (Za (Lm u25 ?_)))))
  refine Lo u25 rfl ?_
  refine Zd (Zb (Zi _ rfl (fun hc2 => ?_) (fun hc2 => ?_)))
  ·try simp only [qB] at hc2
   refine Zc (Za (Lm u25 ?_))
   refine Lo u25 (Zaa 16 rfl rfl rfl) ?_
   refine La u25 ?_
   refine Zd (Zb (Za (Lm u25 ?_)))
   refine Lo u25 (W14 rfl rfl rfl) ?_
   refine La u25 ?_
   refine Zd (Zb (Zc (Zc (Za (Lm u25 ?_)))))
   refine Lo u25 rfl ?_
   refine Zd (Zb (Zi _ rfl (fun hc3 => ?_) (fun hc3 => ?_)))
   ·try simp only [qB] at hc3
    refine Zc (Za (Lm u25 ?_))
    refine Lo u25 (Zaa 8 rfl rfl rfl) ?_
    refine La u25 ?_
    refine Zd (Zb (Za (Lm u25 ?_)))
    refine Lo u25 (W14 rfl rfl rfl) ?_
    refine La u25 ?_
    refine Zd (Zb (Zc (Za (Lm u25 ?_))))
    refine Lm u25 ?_
    refine Lo u25 rfl ?_
    refine Lo u25 (v_l8 rfl rfl XH3 rfl rfl rfl (by omega)) ?_
    refine Lo u25 (Zbq rfl rfl rfl rfl rfl XH9) ?_
    refine Lo u25 (W1j rfl rfl rfl) ?_
    refine La u25 ?_
    refine Zd (Zb (Zj (W10 (.inr rfl) (Zf rfl rfl) ?_)))
    have e1 := fun h => @ZS w 32 h
    have e2 := fun h => @ZS w 16 h
    have e3 := fun h => @ZS (w >>> 32) 16 h
    have e4 := fun h => @ZS w 8 h
    have e5 := fun h => @ZS (w >>> 32) 8 h
    have e6 := fun h => @ZS (w >>> 16) 8 h
    have e7 := fun h => @ZS (w >>> 32 >>> 16) 8 h
    simp only [show (2 : Nat) ^ 32 = 4294967296 from rfl, show (2 : Nat) ^ 16 = 65536 from rfl, show (2 : Nat) ^ 8 = 256 from rfl] at e1 e2 e3 e4 e5 e6 e7
    refine ⟨congrArg iI ?_, rfl⟩
    exact W1l
   try simp only [qB] at hc3
   refine Zh (Zb (Zc (Za (Lm u25 ?_))))
   refine Lm u25 ?_
   refine Lo u25 rfl ?_
   refine Lo u25 (v_l8 rfl rfl XH3 rfl rfl rfl (by omega)) ?_
   refine Lo u25 (Zbq rfl rfl rfl rfl rfl XH9) ?_
   refine Lo u25 (W1j rfl rfl rfl) ?_
   refine La u25 ?_
   refine Zd (Zb (Zj (W10 (.inr rfl) (Zf rfl rfl) ?_)))
   have e1 := fun h => @ZS w 32 h
   have e2 := fun h => @ZS w 16 h
   have e3 := fun h => @ZS (w >>> 32) 16 h
   have e4 := fun h => @ZS w 8 h
   have e5 := fun h => @ZS (w >>> 32) 8 h
   have e6 := fun h => @ZS (w >>> 16) 8 h
   have e7 := fun h => @ZS (w >>> 32 >>> 16) 8 h
   simp only [show (2 : Nat) ^ 32 = 4294967296 from rfl, show (2 : Nat) ^ 16 = 65536 from rfl, show (2 : Nat) ^ 8 = 256 from rfl] at e1 e2 e3 e4 e5 e6 e7
   refine ⟨congrArg iI ?_, rfl⟩
   exact W1l
  try simp only [qB] at hc2
  refine Zh (Zb (Zc (Zc (Za (Lm u25 ?_)))))
  refine Lo u25 rfl ?_
  refine Zd (Zb (Zi _ rfl (fun hc4 => ?_) (fun hc4 => ?_)))
  ·try simp only [qB] at hc4
   refine Zc (Za (Lm u25 ?_))
   refine Lo u25 (Zaa 8 rfl rfl rfl) ?_
   refine La u25 ?_
   refine Zd (Zb (Za (Lm u25 ?_)))
   refine Lo u25 (W14 rfl rfl rfl) ?_
   refine La u25 ?_
   refine Zd (Zb (Zc (Za (Lm u25 ?_))))
   refine Lm u25 ?_
   refine Lo u25 rfl ?_
   refine Lo u25 (v_l8 rfl rfl XH3 rfl rfl rfl (by omega)) ?_
   refine Lo u25 (Zbq rfl rfl rfl rfl rfl XH9) ?_
   refine Lo u25 (W1j rfl rfl rfl) ?_
   refine La u25 ?_
   refine Zd (Zb (Zj (W10 (.inr rfl) (Zf rfl rfl) ?_)))
   have e1 := fun h => @ZS w 32 h
   have e2 := fun h => @ZS w 16 h
   have e3 := fun h => @ZS (w >>> 32) 16 h
   have e4 := fun h => @ZS w 8 h
   have e5 := fun h => @ZS (w >>> 32) 8 h
   have e6 := fun h => @ZS (w >>> 16) 8 h
   have e7 := fun h => @ZS (w >>> 32 >>> 16) 8 h
   simp only [show (2 : Nat) ^ 32 = 4294967296 from rfl, show (2 : Nat) ^ 16 = 65536 from rfl, show (2 : Nat) ^ 8 = 256 from rfl] at e1 e2 e3 e4 e5 e6 e7
   refine ⟨congrArg iI ?_, rfl⟩
   exact W1l
  try simp only [qB] at hc4
  refine Zh (Zb (Zc (Za (Lm u25 ?_))))
  refine Lm u25 ?_
  refine Lo u25 rfl ?_
  refine Lo u25 (v_l8 rfl rfl XH3 rfl rfl rfl (by omega)) ?_
  refine Lo u25 (Zbq rfl rfl rfl rfl rfl XH9) ?_
  refine Lo u25 (W1j rfl rfl rfl) ?_
  refine La u25 ?_
  refine Zd (Zb (Zj (W10 (.inr rfl) (Zf rfl rfl) ?_)))
  have e1 := fun h => @ZS w 32 h
  have e2 := fun h => @ZS w 16 h
  have e3 := fun h => @ZS (w >>> 32) 16 h
  have e4 := fun h => @ZS w 8 h
  have e5 := fun h => @ZS (w >>> 32) 8 h
  have e6 := fun h => @ZS (w >>> 16) 8 h
  have e7 := fun h => @ZS (w >>> 32 >>> 16) 8 h
  simp only [show (2 : Nat) ^ 32 = 4294967296 from rfl, show (2 : Nat) ^ 16 = 65536 from rfl, show (2 : Nat) ^ 8 = 256 from rfl] at e1 e2 e3 e4 e5 e6 e7
  refine ⟨congrArg iI ?_, rfl⟩
  exact W1l
 try simp only [qB] at hc1
 refine Zh (Zb (Zc (Zc (Za (Lm u25 ?_)))))
 refine Lo u25 rfl ?_
 refine Zd (Zb (Zi _ rfl (fun hc5 => ?_) (fun hc5 => ?_)))
 ·try simp only [qB] at hc5
  refine Zc (Za (Lm u25 ?_))
  refine Lo u25 (Zaa 16 rfl rfl rfl) ?_
  refine La u25 ?_
  refine Zd (Zb (Za (Lm u25 ?_)))
  refine Lo u25 (W14 rfl rfl rfl) ?_
  refine La u25 ?_
  refine Zd (Zb (Zc (Zc (Za (Lm u25 ?_)))))
  refine Lo u25 rfl ?_
  refine Zd (Zb (Zi _ rfl (fun hc6 => ?_) (fun hc6 => ?_)))
  ·try simp only [qB] at hc6
   refine Zc (Za (Lm u25 ?_))
   refine Lo u25 (Zaa 8 rfl rfl rfl) ?_
   refine La u25 ?_
   refine Zd (Zb (Za (Lm u25 ?_)))
   refine Lo u25 (W14 rfl rfl rfl) ?_
   refine La u25 ?_
   refine Zd (Zb (Zc (Za (Lm u25 ?_))))
   refine Lm u25 ?_
   refine Lo u25 rfl ?_
   refine Lo u25 (v_l8 rfl rfl XH3 rfl rfl rfl (by omega)) ?_
   refine Lo u25 (Zbq rfl rfl rfl rfl rfl XH9) ?_
   refine Lo u25 (W1j rfl rfl rfl) ?_
   refine La u25 ?_
   refine Zd (Zb (Zj (W10 (.inr rfl) (Zf rfl rfl) ?_)))
   have e1 := fun h => @ZS w 32 h
   have e2 := fun h => @ZS w 16 h
   have e3 := fun h => @ZS (w >>> 32) 16 h
   have e4 := fun h => @ZS w 8 h
   have e5 := fun h => @ZS (w >>> 32) 8 h
   have e6 := fun h => @ZS (w >>> 16) 8 h
   have e7 := fun h => @ZS (w >>> 32 >>> 16) 8 h
   simp only [show (2 : Nat) ^ 32 = 4294967296 from rfl, show (2 : Nat) ^ 16 = 65536 from rfl, show (2 : Nat) ^ 8 = 256 from rfl] at e1 e2 e3 e4 e5 e6 e7
   refine ⟨congrArg iI ?_, rfl⟩
   exact W1l
  try simp only [qB] at hc6
  refine Zh (Zb (Zc (Za (Lm u25 ?_))))
  refine Lm u25 ?_
  refine Lo u25 rfl ?_
  refine Lo u25 (v_l8 rfl rfl XH3 rfl rfl rfl (by omega)) ?_
  refine Lo u25 (Zbq rfl rfl rfl rfl rfl XH9) ?_
  refine Lo u25 (W1j rfl rfl rfl) ?_
  refine La u25 ?_
  refine Zd (Zb (Zj (W10 (.inr rfl) (Zf rfl rfl) ?_)))
  have e1 := fun h => @ZS w 32 h
  have e2 := fun h => @ZS w 16 h
  have e3 := fun h => @ZS (w >>> 32) 16 h
  have e4 := fun h => @ZS w 8 h
  have e5 := fun h => @ZS (w >>> 32) 8 h
  have e6 := fun h => @ZS (w >>> 16) 8 h
  have e7 := fun h => @ZS (w >>> 32 >>> 16) 8 h
  simp only [show (2 : Nat) ^ 32 = 4294967296 from rfl, show (2 : Nat) ^ 16 = 65536 from rfl, show (2 : Nat) ^ 8 = 256 from rfl] at e1 e2 e3 e4 e5 e6 e7
  refine ⟨congrArg iI ?_, rfl⟩
  exact W1l
 try simp only [qB] at hc5
 refine Zh (Zb (Zc (Zc (Za (Lm u25 ?_)))))
 refine Lo u25 rfl ?_
 refine Zd (Zb (Zi _ rfl (fun hc7 => ?_) (fun hc7 => ?_)))
 ·try simp only [qB] at hc7
  refine Zc (Za (Lm u25 ?_))
  refine Lo u25 (Zaa 8 rfl rfl rfl) ?_
  refine La u25 ?_
  refine Zd (Zb (Za (Lm u25 ?_)))
  refine Lo u25 (W14 rfl rfl rfl) ?_
  refine La u25 ?_
  refine Zd (Zb (Zc (Za (Lm u25 ?_))))
  refine Lm u25 ?_
  refine Lo u25 rfl ?_
  refine Lo u25 (v_l8 rfl rfl XH3 rfl rfl rfl (by omega)) ?_
  refine Lo u25 (Zbq rfl rfl rfl rfl rfl XH9) ?_
  refine Lo u25 (W1j rfl rfl rfl) ?_
  refine La u25 ?_
  refine Zd (Zb (Zj (W10 (.inr rfl) (Zf rfl rfl) ?_)))
  have e1 := fun h => @ZS w 32 h
  have e2 := fun h => @ZS w 16 h
  have e3 := fun h => @ZS (w >>> 32) 16 h
  have e4 := fun h => @ZS w 8 h
  have e5 := fun h => @ZS (w >>> 32) 8 h
  have e6 := fun h => @ZS (w >>> 16) 8 h
  have e7 := fun h => @ZS (w >>> 32 >>> 16) 8 h
  simp only [show (2 : Nat) ^ 32 = 4294967296 from rfl, show (2 : Nat) ^ 16 = 65536 from rfl, show (2 : Nat) ^ 8 = 256 from rfl] at e1 e2 e3 e4 e5 e6 e7
  refine ⟨congrArg iI ?_, rfl⟩
  exact W1l
 try simp only [qB] at hc7
 refine Zh (Zb (Zc (Za (Lm u25 ?_))))
 refine Lm u25 ?_
 refine Lo u25 rfl ?_
 refine Lo u25 (v_l8 rfl rfl XH3 rfl rfl rfl (by omega)) ?_
 refine Lo u25 (Zbq rfl rfl rfl rfl rfl XH9) ?_
 refine Lo u25 (W1j rfl rfl rfl) ?_
 refine La u25 ?_
 refine Zd (Zb (Zj (W10 (.inr rfl) (Zf rfl rfl) ?_)))
 have e1 := fun h => @ZS w 32 h
 have e2 := fun h => @ZS w 16 h
 have e3 := fun h => @ZS (w >>> 32) 16 h
 have e4 := fun h => @ZS w 8 h
 have e5 := fun h => @ZS (w >>> 32) 8 h
 have e6 := fun h => @ZS (w >>> 16) 8 h
 have e7 := fun h => @ZS (w >>> 32 >>> 16) 8 h
 simp only [show (2 : Nat) ^ 32 = 4294967296 from rfl, show (2 : Nat) ^ 16 = 65536 from rfl, show (2 : Nat) ^ 8 = 256 from rfl] at e1 e2 e3 e4 e5 e6 e7
 refine ⟨congrArg iI ?_, rfl⟩
 exact W1l
theorem High_spec {x : SW} (H : Ze) (w : BitVec 64) : F (psys x) 54 [.agg [iW w]] H fun v G => v = iI ((ln w : Nat) - 1) ∧ G = H := by
 refine Zp Tryd.func54 rfl u7 rfl ?_
 refine Zc (Za (Lo u7 (ZJ rfl rfl rfl) ?_))
 refine Lk u7 (.int .i64 0) ?_
 refine Zd (Zb (Zc (Za (Lo u7 rfl ?_))))
 refine Lo u7 (W12 rfl rfl rfl rfl) ?_
 refine Zs rfl rfl rfl (by exact Len64_spec _ _) ?_
 rintro _ _ ⟨rfl, rfl⟩
 refine Le u7 ?_
 refine Lo u7 (W1n rfl rfl rfl) ?_
 refine La u7 ?_
 refine Zd (Zb (Zj (W10 (.inr rfl) (Zf rfl rfl) ?_)))
 exact ⟨rfl, rfl⟩
structure PbL (p : Pb) : Prop where
 u : -9223372036854775808 ≤ p.users ∧ p.users < 9223372036854775808
 w : p.who.length ≤ 1000000
 f : p.fixed.length ≤ 1000000
 r : p.rules.length ≤ 1000000
 s : ∀ r, r ∈ p.rules → r.steps.length ≤ 1000000
theorem okW_bad {u f : Int} {w : BitVec 64} (hu : 0 ≤ u) (h : f < -1 ∨ u ≤ f ∨ u ≤ (ln w : Int) - 1) : okW u f w = false := by
 unfold okW
 rcases h with h | h | h
 ·rw [decide_eq_false (by omega), Bool.false_and]
 ·rw [decide_eq_false (by omega), Bool.false_and]
 rw [decide_eq_false ((ln_high hu).1 h), Bool.and_false]
theorem okW_ok {u f : Int} {w : BitVec 64} (hu : 0 ≤ u) (h1 : -1 ≤ f) (h2 : f < u) (h : ¬ u ≤ (ln w : Int) - 1) : okW u f w = true := by
 unfold okW
 rw [decide_eq_true ⟨h1, h2⟩, decide_eq_true (Decidable.of_not_not fun e => h ((ln_high hu).2 e))]; rfl
theorem pck_2 {p : Pb} (h : 12 < p.who.length ∨ 64 < p.users ∨ 32 < p.rules.length) : pck p = 2 := if_pos h
theorem pck_1 {p : Pb} (h : ¬ (12 < p.who.length ∨ 64 < p.users ∨ 32 < p.rules.length)) (h2 : p.users < 0 ∨ p.fixed.length ≠ p.who.length) : pck p = 1 := by unfold pck; rw [if_neg h, if_pos h2]
theorem pck_1w {p : Pb} (h : ¬ (12 < p.who.length ∨ 64 < p.users ∨ 32 < p.rules.length)) (h2 : ¬ (p.users < 0 ∨ p.fixed.length ≠ p.who.length)) {i : Nat} (hi : i < p.who.length) (h3 : okW p.users (p.fixed.getD i 0) (p.who.getD i 0) = false) : pck p = 1 := by
 unfold pck; rw [if_neg h, if_neg h2, if_neg]
 intro e
 rw [Bool.and_eq_true, List.all_eq_true] at e
 have := e.1 i (List.mem_range.2 hi); rw [h3] at this; cases this
theorem pck_1r {p : Pb} (h : ¬ (12 < p.who.length ∨ 64 < p.users ∨ 32 < p.rules.length)) (h2 : ¬ (p.users < 0 ∨ p.fixed.length ≠ p.who.length)) {i : Nat} (hi : i < p.rules.length) (h3 : ¬ rck p.who.length (p.rules.getD i r0) = true) : pck p = 1 := by
 unfold pck; rw [if_neg h, if_neg h2, if_neg]
 intro e
 rw [Bool.and_eq_true, List.all_eq_true, List.all_eq_true] at e
 exact h3 (e.2 _ (Y3 hi))
theorem all_at {rs : List Rul} {f : Rul → Bool} (h : ∀ i, i < rs.length → f (rs.getD i r0) = true) : ∀ r, r ∈ rs → f r = true := fun r hr => by
 obtain ⟨i, hi, e⟩ := List.getElem_of_mem hr
 have := h i hi
 rw [List.getD_eq_getElem?_getD, List.getElem?_eq_getElem hi] at this
 simpa [e] using this
theorem pck_0 {p : Pb} (h : ¬ (12 < p.who.length ∨ 64 < p.users ∨ 32 < p.rules.length)) (h2 : ¬ (p.users < 0 ∨ p.fixed.length ≠ p.who.length)) (h3 : ∀ i, i < p.who.length → okW p.users (p.fixed.getD i 0) (p.who.getD i 0) = true) (h4 : ∀ i, i < p.rules.length → rck p.who.length (p.rules.getD i r0) = true) : pck p = 0 :=
 pck_good.2 ⟨by omega, by omega, by omega, by omega, by omega, h3, all_at h4⟩
theorem Jb {n : Nat} {p : Pb} : (VVal.agg (pbB p)).under n = true := by
 simp [VVal.under, VVal.underL, fzR, Zde, YZ, Zck (f := rlB) (fun a => by simp [VVal.underL, VVal.under, Zde])]
theorem sset_spec {x : SW} (H : Ze) (w : BitVec 64) : F (psys x) 53 [iW w] H fun v G => v = .agg [iW w] ∧ G = H := by
 refine Zp Tryd.func53 rfl u6 rfl ?_
 refine Zc (Za (Lo u6 (ZP rfl rfl) ?_))
 refine Zd (Zb (Zc (Za (Lo u6 rfl ?_))))
 refine Lm u6 ?_
 refine Zs rfl rfl rfl (by exact Of_spec _ 0#64 _) ?_
 rintro _ _ ⟨rfl, rfl⟩
 refine Le u6 ?_
 refine Lo u6 (W13 rfl rfl rfl rfl rfl rfl rfl) ?_
 refine Zd (Zb (Zj ?_))
 refine W10 (.inr rfl) (YV rfl rfl rfl rfl XH0 XH6) ?_
 exact ⟨rfl, rfl⟩
theorem Q3 {x : SW} (H : Ze) (p : Pb) (hp : PbL p) : F (psys x) 18 [.agg (pbB p)] H fun v G => v = iI (pck p) ∧ G = H := by
 have hp1 := hp.u; have hp2 := hp.w; have hp3 := hp.f; have hp4 := hp.r
 refine Zp Tryd.func18 rfl u79 rfl ?_
 refine Zc (Za (Lo u79 (ZJ rfl rfl rfl) ?_))
 refine Lk u79 (.int .i64 0) ?_
 refine Zd (Zb (Zc (Za (Lo u79 rfl ?_))))
 refine Lo u79 (W1p rfl rfl rfl rfl) ?_
 refine Lo u79 rfl ?_
 refine La u79 ?_
 refine Zd (Zb (Zc (Zg (Zc (Za (Lm u79 ?_))))))
 refine Lo u79 rfl ?_
 refine Lm u79 ?_
 refine ZB 15 (env1 := u79) (env2 := u79) rfl rfl rfl (fun hg1 => ?_) (fun hg1 => ?_)
 ·try simp only [qB, qN] at hg1
  refine Lf u79 ?_
  refine Lf u79 ?_
  refine Lf u79 ?_
  refine Lo u79 (ZF (VVal.bool true) rfl rfl rfl) ?_
  refine Lm u79 ?_
  refine Lf u79 ?_
  refine Lf u79 ?_
  refine Lf u79 ?_
  refine Lf u79 ?_
  refine Lo u79 (ZF (VVal.bool true) rfl rfl rfl) ?_
  refine La u79 ?_
  refine Zd (Zb (ZN rfl rfl ?_))
  refine Zc (Za (Lk u79 (.int .i64 2) ?_))
  refine Zd (Zb (Zj (ZE (Zl (W10 (.inr rfl) (Zf rfl rfl) ?_)))))
  exact W1q
 try simp only [qB, qN] at hg1
 refine Lo u79 rfl ?_
 refine Lo u79 (W1p rfl rfl rfl rfl) ?_
 refine Lo u79 rfl ?_
 refine Lo u79 (ZY rfl rfl rfl) ?_
 refine Lm u79 ?_
 refine ZB 20 (env1 := u79) (env2 := u79) rfl rfl rfl (fun hg2 => ?_) (fun hg2 => ?_)
 ·try simp only [qB, qN] at hg2
  refine Lf u79 ?_
  refine Lf u79 ?_
  refine Lf u79 ?_
  refine Lf u79 ?_
  refine Lo u79 (ZF (VVal.bool true) rfl rfl rfl) ?_
  refine La u79 ?_
  refine Zd (Zb (ZN rfl rfl ?_))
  refine Zc (Za (Lk u79 (.int .i64 2) ?_))
  refine Zd (Zb (Zj (ZE (Zl (W10 (.inr rfl) (Zf rfl rfl) ?_)))))
  exact W1q
 try simp only [qB, qN] at hg2
 refine Lo u79 rfl ?_
 refine Lo u79 (W1p rfl rfl rfl rfl) ?_
 refine Lo u79 rfl ?_
 refine Lo u79 rfl ?_
 refine Lo u79 (ZY rfl rfl rfl) ?_
 refine La u79 ?_
 refine Zd (Zb (Zi _ rfl (fun hc3 => ?_) (fun hc3 => ?_)))
 ·try simp only [qB, qN] at hc3
  refine Zc (Za (Lk u79 (.int .i64 2) ?_))
  refine Zd (Zb (Zj (ZE (Zl (W10 (.inr rfl) (Zf rfl rfl) ?_)))))
  exact W1q
 try simp only [qB, qN] at hc3
 refine Zc (Za (Lo u79 rfl ?_))
 refine Lo u79 (W1p rfl rfl rfl rfl) ?_
 refine Lo u79 rfl ?_
 refine Lm u79 ?_
 refine ZB 30 (env1 := u79) (env2 := u79) rfl rfl rfl (fun hg4 => ?_) (fun hg4 => ?_)
 ·try simp only [qB, qN] at hg4
  refine Lf u79 ?_
  refine Lf u79 ?_
  refine Lf u79 ?_
  refine Lf u79 ?_
  refine Lf u79 ?_
  refine Lo u79 (ZF (VVal.bool true) rfl rfl rfl) ?_
  refine La u79 ?_
  refine Zd (Zb (ZN rfl rfl ?_))
  refine Zc (Za (Lk u79 (.int .i64 1) ?_))
  refine Zd (Zb (Zj (ZE (Zl (W10 (.inr rfl) (Zf rfl rfl) ?_)))))
  exact W1q
 try simp only [qB, qN] at hg4
 refine Lo u79 rfl ?_
 refine Lo u79 (W1p rfl rfl rfl rfl) ?_
 refine Lo u79 rfl ?_
 refine Lm u79 ?_
 refine Lo u79 rfl ?_
 refine Lo u79 (ZY rfl rfl rfl) ?_
 refine La u79 ?_
 refine Zd (Zb (Zi _ rfl (fun hc5 => ?_) (fun hc5 => ?_)))
 ·try simp only [qB, qN] at hc5
  refine Zc (Za (Lk u79 (.int .i64 1) ?_))
  refine Zd (Zb (Zj (ZE (Zl (W10 (.inr rfl) (Zf rfl rfl) ?_)))))
  exact W1q
 try simp only [qB, qN] at hc5
 refine Zh (Zq (Zb (Zc (Zc ?_))))
 have hn1 : ¬ (12 < p.who.length ∨ 64 < p.users ∨ 32 < p.rules.length) := by omega
 have hn2 : ¬ (p.users < 0 ∨ p.fixed.length ≠ p.who.length) := by omega
 refine Za (Lo u79 rfl ?_)
 refine Lo u79 (W1p rfl rfl rfl rfl) ?_
 refine Lo u79 rfl ?_
 refine Lo u79 (Z4 (VVal.int .i64 0) (.inl rfl) rfl) ?_
 refine Zd (Zb (Zg (Zr (mk 79 604462909805390442004469) (env' := u79) rfl ?_)))
 refine Zw (fun (k : Nat) => p.who.length - k) (fun (k : Nat) => [(40, iI (k : Nat))]) (fun (k : Nat) G => (k ≤ p.who.length ∧ ∀ i, i < k → okW p.users (p.fixed.getD i 0) (p.who.getD i 0) = true) ∧ G = H ++ [.cells (pbB p) true]) 0 rfl ?_ ?_
 ·refine ⟨?_, rfl⟩
  exact ⟨Nat.zero_le _, fun i h => by omega⟩
 rintro k _ ⟨⟨hk, hw⟩, rfl⟩
 refine ZL (env' := u79) rfl ?_
 refine Zc (Za (Lo u79 rfl ?_))
 refine Zd (Zb (Zc (Zi _ rfl (fun hc6 => ?_) (fun hc6 => ?_))))
 ·try simp only [qB, qN] at hc6
  refine Zh (Zb (Zc (Zg (Zc (Za (Lm u79 ?_))))))
  refine Lo u79 (W18 rfl rfl rfl rfl rfl rfl rfl) ?_
  refine Lo u79 (W1p rfl rfl rfl rfl) ?_
  refine La u79 ?_
  refine La u79 ?_
  refine Zd (Zb (Zc (Za (Lo u79 rfl ?_))))
  refine Lo u79 (W1p rfl rfl rfl rfl) ?_
  refine Lm u79 ?_
  refine Lo u79 (W18 rfl rfl rfl rfl rfl rfl rfl) ?_
  refine Lo u79 (W1p rfl rfl rfl rfl) ?_
  refine La u79 ?_
  refine Zd (Zb (Zc (ZK [0, 1, 2, 3, 4, 5, 6, 7, 8, 9, 12, 13, 10, 11, 14, 15] #[0, 1, 3, 7, 7, 23, 63, 127, 255, 511, 1023, 2047, 511, 4607, 16383, 32767] XH3 XH3 XH3 ?_)))
  refine Om u79 ?_
  refine Oc u79 rfl rfl ?_
  refine Om u79 ?_
  refine Xi 52 (env1 := u79) (env2 := u79) rfl rfl rfl (fun hg7 => ?_) (fun hg7 => ?_)
  ·try simp only [qB, qN] at hg7
   refine Of u79 rfl ?_
   refine Of u79 rfl ?_
   refine Of u79 rfl ?_
   refine Of u79 rfl ?_
   refine Oc u79 rfl (ZF (VVal.bool true) rfl rfl rfl) ?_
   refine Om u79 ?_
   refine Of u79 rfl ?_
   refine Of u79 rfl ?_
   refine Of u79 rfl ?_
   refine Of u79 rfl ?_
   refine Of u79 rfl ?_
   refine Of u79 rfl ?_
   refine Oc u79 rfl (ZF (VVal.bool true) rfl rfl rfl) ?_
   refine ZW [] XH3 (trivial) ?_
   refine Zb (ZN rfl rfl ?_)
   refine Zc (Za (Lk u79 (.int .i64 1) ?_))
   refine Zd (Zb (Zj (ZE (Zl (Ye (ZE (Zl (W10 (.inr rfl) (Zf rfl rfl) ?_))))))))
   exact W1q
  try simp only [qB, qN] at hg7
  refine Om u79 ?_
  refine Oc u79 rfl rfl ?_
  refine Ok u79 rfl (W1p rfl rfl rfl rfl) ?_
  refine Oc u79 rfl rfl ?_
  refine Oc u79 rfl (ZY rfl rfl rfl) ?_
  refine Om u79 ?_
  refine Xi 58 (env1 := u79) (env2 := u79) rfl rfl rfl (fun hg8 => ?_) (fun hg8 => ?_)
  ·try simp only [qB, qN] at hg8
   refine Of u79 rfl ?_
   refine Of u79 rfl ?_
   refine Of u79 rfl ?_
   refine Of u79 rfl ?_
   refine Of u79 rfl ?_
   refine Of u79 rfl ?_
   refine Oc u79 rfl (ZF (VVal.bool true) rfl rfl rfl) ?_
   refine ZW [] XH3 (trivial) ?_
   refine Zb (ZN rfl rfl ?_)
   refine Zc (Za (Lk u79 (.int .i64 1) ?_))
   refine Zd (Zb (Zj (ZE (Zl (Ye (ZE (Zl (W10 (.inr rfl) (Zf rfl rfl) ?_))))))))
   exact W1q
  try simp only [qB, qN] at hg8
  refine Om u79 ?_
  refine Oc u79 rfl rfl ?_
  refine Yb (env' := u79) (x := .look _ _) rfl rfl rfl (W1p rfl rfl rfl rfl) rfl rfl rfl ?_
  refine Yd (env' := u79) rfl rfl rfl rfl rfl (by exact sset_spec _ _) XH8 rfl rfl ?_
  refine Yd (env' := u79) rfl rfl rfl rfl rfl (by exact High_spec _ _) XH8 rfl rfl ?_
  refine Oc u79 rfl rfl ?_
  refine Oc u79 rfl (ZY rfl rfl rfl) ?_
  refine ZW [_, _] (by rfl) (And.intro (And.intro (W1p rfl rfl rfl rfl) (W1p rfl rfl rfl rfl)) (And.intro (And.intro (W1p rfl rfl rfl rfl) (W1p rfl rfl rfl rfl)) trivial)) ?_
  refine Zb (Zi _ rfl (fun hc9 => ?_) (fun hc9 => ?_))
  ·try simp only [qB, qN] at hc9
   refine Zc (Za (Lk u79 (.int .i64 1) ?_))
   refine Zd (Zb (Zj (ZE (Zl (Ye (ZE (Zl (W10 (.inr rfl) (Zf rfl rfl) ?_))))))))
   exact W1q
  try simp only [qB, qN] at hc9
  refine Zh (Zq (Zb (Za (Lo u79 (W1s rfl rfl rfl) ?_))))
  refine Lm u79 ?_
  refine Zd (Zt (mk 79 604462909805390442004469) (env' := u79) rfl ⟨k + 1, ?_, rfl, ?_⟩)
  ·first | omega | (simp only []; omega)
  exact ⟨⟨by omega, fun i hi => by by_cases e : i = k; (subst e; exact okW_ok (by omega) (by omega) (by omega) (by omega)); exact hw i (by omega)⟩, rfl⟩
 try simp only [qB, qN] at hc6
 refine Zz (ZA (Zu (Zy (Zb (Zc (Zc (Za (Lo u79 rfl ?_))))))))
 refine Lo u79 (W1p rfl rfl rfl rfl) ?_
 refine Lo u79 rfl ?_
 refine Lo u79 (Z4 (VVal.int .i64 0) (.inl rfl) rfl) ?_
 refine Zd (Zb (Zg (Zr (mk 79 602396874471059117572087) (env' := u79) rfl ?_)))
 refine Zw (fun (m : Nat) => p.rules.length - m) (fun (m : Nat) => [(70, iI (m : Nat))]) (fun (m : Nat) G => (m ≤ p.rules.length ∧ ∀ i, i < m → rck p.who.length (p.rules.getD i r0) = true) ∧ ∃ X, G = H ++ (.cells (pbB p) true :: X)) 0 rfl ?_ ?_
 ·refine ⟨?_, ⟨[], rfl⟩⟩
  exact ⟨Nat.zero_le _, fun i h => by omega⟩
 rintro m _ ⟨⟨hm, hr⟩, ⟨X, rfl⟩⟩
 refine ZL (env' := u79) rfl ?_
 refine Zc (Za (Lo u79 rfl ?_))
 refine Zd (Zb (Zc (Zi _ rfl (fun hc10 => ?_) (fun hc10 => ?_))))
 ·try simp only [qB, qN] at hc10
  refine Zh (Zb (Zc (Zg (Zc (Za (Lo u79 (W18 rfl rfl rfl rfl rfl rfl rfl) ?_))))))
  refine Lo u79 (W1t rfl rfl rfl rfl rfl) ?_
  refine Lo u79 (ZP rfl rfl) ?_
  refine Lo u79 (W13 rfl rfl rfl rfl rfl rfl rfl) ?_
  refine Zd (Zb (Zc (Za (Lm u79 ?_))))
  refine Lo u79 (W1t rfl rfl rfl rfl rfl) ?_
  refine Zs rfl rfl rfl (by exact Zbc _ _ _ (hp.s _ (Y3 (by omega)))) ?_
  rintro _ _ ⟨rfl, rfl⟩
  refine Le u79 ?_
  refine Lo u79 rfl ?_
  refine Zd (Zb (Zi _ rfl (fun hc11 => ?_) (fun hc11 => ?_)))
  ·try simp only [qB, qN] at hc11
   refine Zc (Za (Lk u79 (.int .i64 1) ?_))
   refine Zd (Zb (Zj (ZE (Zl (Ye (ZE (Zl (W10 (.inr rfl) (Zf rfl rfl) ?_))))))))
   exact W1q
  try simp only [qB, qN] at hc11
  refine Zh (Zq (Zb (Za (Lo u79 (W14 rfl rfl rfl) ?_))))
  refine Lm u79 ?_
  refine Zd (Zt (mk 79 602396874471059117572087) (env' := u79) rfl ⟨m + 1, ?_, rfl, ?_⟩)
  ·first | omega | (simp only []; omega)
  exact ⟨⟨by omega, fun i hi => by by_cases e : i = m; (subst e; exact rcE_eq.1 (by assumption)); exact hr i (by omega)⟩, ⟨_, rfl⟩⟩
 try simp only [qB, qN] at hc10
 refine Zz (ZA (Zu (Zy (Zb (Zc (Za (Lk u79 (.int .i64 0) ?_)))))))
 refine Zd (Zb (Zj (W10 (.inr rfl) (Zf rfl rfl) ?_)))
 exact W1q
abbrev u31 {a0 a1 a2 a3 a4 a5 a6 a7 a8 a9 a10 a11 a12 a13 a14 a15 a16 a17 a18 a19 a20 a21 a22 a23 a24 a25 a26 a27 a28 a29 a30 : VVal} : VEnv := a0 :: a1 :: a2 :: a3 :: a4 :: a5 :: a6 :: a7 :: a8 :: a9 :: a10 :: a11 :: a12 :: a13 :: a14 :: a15 :: a16 :: a17 :: a18 :: a19 :: a20 :: a21 :: a22 :: a23 :: a24 :: a25 :: a26 :: a27 :: a28 :: a29 :: a30 :: []
abbrev u42 {a0 a1 a2 a3 a4 a5 a6 a7 a8 a9 a10 a11 a12 a13 a14 a15 a16 a17 a18 a19 a20 a21 a22 a23 a24 a25 a26 a27 a28 a29 a30 a31 a32 a33 a34 a35 a36 a37 a38 a39 a40 a41 : VVal} : VEnv := a0 :: a1 :: a2 :: a3 :: a4 :: a5 :: a6 :: a7 :: a8 :: a9 :: a10 :: a11 :: a12 :: a13 :: a14 :: a15 :: a16 :: a17 :: a18 :: a19 :: a20 :: a21 :: a22 :: a23 :: a24 :: a25 :: a26 :: a27 :: a28 :: a29 :: a30 :: a31 :: a32 :: a33 :: a34 :: a35 :: a36 :: a37 :: a38 :: a39 :: a40 :: a41 :: []
abbrev u52 {a0 a1 a2 a3 a4 a5 a6 a7 a8 a9 a10 a11 a12 a13 a14 a15 a16 a17 a18 a19 a20 a21 a22 a23 a24 a25 a26 a27 a28 a29 a30 a31 a32 a33 a34 a35 a36 a37 a38 a39 a40 a41 a42 a43 a44 a45 a46 a47 a48 a49 a50 a51 : VVal} : VEnv := a0 :: a1 :: a2 :: a3 :: a4 :: a5 :: a6 :: a7 :: a8 :: a9 :: a10 :: a11 :: a12 :: a13 :: a14 :: a15 :: a16 :: a17 :: a18 :: a19 :: a20 :: a21 :: a22 :: a23 :: a24 :: a25 :: a26 :: a27 :: a28 :: a29 :: a30 :: a31 :: a32 :: a33 :: a34 :: a35 :: a36 :: a37 :: a38 :: a39 :: a40 :: a41 :: a42 :: a43 :: a44 :: a45 :: a46 :: a47 :: a48 :: a49 :: a50 :: a51 :: []
abbrev Zm {a0 a1 a2 a3 a4 a5 a6 a7 a8 a9 a10 a11 a12 a13 a14 a15 a16 a17 a18 a19 a20 a21 a22 a23 a24 a25 a26 a27 a28 a29 a30 a31 a32 a33 a34 a35 a36 a37 a38 a39 a40 a41 a42 a43 a44 a45 a46 a47 a48 a49 a50 a51 a52 a53 a54 a55 a56 a57 a58 a59 a60 a61 a62 a63 a64 a65 a66 a67 a68 a69 a70 a71 a72 a73 a74 a75 a76 a77 a78 a79 a80 a81 a82 a83 a84 a85 a86 a87 a88 a89 a90 a91 a92 a93 a94 a95 a96 a97 a98 a99 a100 a101 a102 a103 a104 a105 : VVal} : VEnv := a0 :: a1 :: a2 :: a3 :: a4 :: a5 :: a6 :: a7 :: a8 :: a9 :: a10 :: a11 :: a12 :: a13 :: a14 :: a15 :: a16 :: a17 :: a18 :: a19 :: a20 :: a21 :: a22 :: a23 :: a24 :: a25 :: a26 :: a27 :: a28 :: a29 :: a30 :: a31 :: a32 :: a33 :: a34 :: a35 :: a36 :: a37 :: a38 :: a39 :: a40 :: a41 :: a42 :: a43 :: a44 :: a45 :: a46 :: a47 :: a48 :: a49 :: a50 :: a51 :: a52 :: a53 :: a54 :: a55 :: a56 :: a57 :: a58 :: a59 :: a60 :: a61 :: a62 :: a63 :: a64 :: a65 :: a66 :: a67 :: a68 :: a69 :: a70 :: a71 :: a72 :: a73 :: a74 :: a75 :: a76 :: a77 :: a78 :: a79 :: a80 :: a81 :: a82 :: a83 :: a84 :: a85 :: a86 :: a87 :: a88 :: a89 :: a90 :: a91 :: a92 :: a93 :: a94 :: a95 :: a96 :: a97 :: a98 :: a99 :: a100 :: a101 :: a102 :: a103 :: a104 :: a105 :: []
theorem W1v {P : Prop} (h : P := by first | exact ⟨by rw [rck_fit (by omega)], rfl⟩ | exact ⟨by rw [rck_knd (knd_d (by omega))], rfl⟩ | exact ⟨by rw [rck_r (by omega) hrs, knd_f (by omega) (by omega) hl], rfl⟩ | exact ⟨by rw [rck_rise (rise_bad (k := k) (by omega) (by have h9 := lst1_m hr; first | omega | (have h8 := lst1_prev (l := r.steps) (k := k) (by omega) (by omega); omega)))], rfl⟩ | exact ⟨congrArg VVal.bool (by rw [rck_r (by omega) hrs, knd_a (by omega)]; first | exact decide_eq_decide.2 (by omega) | exact (decide_eq_false (by omega)).symm | exact (decide_eq_true (by omega)).symm), rfl⟩ | exact ⟨congrArg VVal.bool (by rw [rck_r (by omega) hrs, knd_b (by omega)]; first | exact decide_eq_decide.2 (by omega) | exact (decide_eq_false (by omega)).symm | exact (decide_eq_true (by omega)).symm), rfl⟩ | exact ⟨congrArg VVal.bool (by rw [rck_r (by omega) hrs, knd_c (by omega)]; first | exact decide_eq_decide.2 (by omega) | exact (decide_eq_false (by omega)).symm | exact (decide_eq_true (by omega)).symm), rfl⟩) : P := h
theorem W1w {T : TypeId → Option VTy} {H : Ze} {op : Op} {ρ : Operand → VVal} {t : TypeId} {a : Operand} {y : VTy} {p v : VVal} (ho : op = .load t a) (ha : ρ a = p) (hy : T t = some y) (hd : Zk y.desc = false) (h : LdOk H p v := by first | exact .inl ⟨_, _, rfl, by first | rfl | exact YT (α := Int) 0 (by omega) | exact fgetP (α := Int) 0 (by omega) (by omega)⟩ | exact .inr ⟨_, _, _, _, rfl, XH35, by first | rfl | exact YT (α := Int) 0 (by omega) | exact fgetP (α := Int) 0 (by omega) (by omega)⟩) : vop T ρ H op = some (v, H) := Yv ho ha hy hd h
theorem W1y {T : TypeId → Option VTy} {H : Ze} {op : Op} {ρ : Operand → VVal} {t ty : TypeId} {x y : Operand} {n m : Int} (ho : op = .binOp .sub t x y ty) (hx : ρ x = .int .i64 n) (hy : ρ y = .int .i64 m) (h : -9223372036854775808 ≤ n - m ∧ n - m < 9223372036854775808 := by exact XH51) : vop T ρ H op = some (.int .i64 (n - m), H) := v_subI ho hx hy h
theorem W20 {T : TypeId → Option VTy} {H : Ze} {op : Op} {ρ : Operand → VVal} {t e : TypeId} {x i : Operand} {y z : VTy} {k : IntKind} {n : Int} {p v : VVal} {es : Nat} (ho : op = .indexAddr t x i) (hx : ρ x = p) (hi : ρ i = .int k n) (hy : T t = some y) (hd : y.desc = .slice e) (hz : T e = some z) (hs : z.size = es) (h : IxOk p es n v := by first | exact .inl ⟨_, _, _, rfl, by first | assumption | omega | (split <;> omega), rfl⟩ | exact .inr ⟨_, _, _, _, _, rfl, by first | assumption | omega | (split <;> omega), rfl⟩) : vop T ρ H op = some (v, H) := v_ix ho hx hi hy hd hz hs h
theorem W21 {T : TypeId → Option VTy} {H : Ze} {op : Op} {ρ : Operand → VVal} {t : TypeId} {a : Operand} {y : VTy} {p v : VVal} (ho : op = .load t a) (ha : ρ a = p) (hy : T t = some y) (hd : Zk y.desc = false) (h : LdOk H p v := by first | exact .inl ⟨_, _, rfl, by first | rfl | exact YT (α := Int) 0 (by omega)⟩ | exact .inr ⟨_, _, _, _, rfl, XH35, by first | rfl | exact YT (α := Int) 0 (by omega)⟩) : vop T ρ H op = some (v, H) := Yv ho ha hy hd h
theorem W22 {T : TypeId → Option VTy} {H : Ze} {op : Op} {ρ : Operand → VVal} {t ty : TypeId} {x y : Operand} {n m : Int} (ho : op = .binOp .add t x y ty) (hx : ρ x = .int .i64 n) (hy : ρ y = .int .i64 m) (h : -9223372036854775808 ≤ n + m ∧ n + m < 9223372036854775808 := by first | assumption | omega | (split <;> omega)) : vop T ρ H op = some (.int .i64 (n + m), H) := Zab ho hx hy h
theorem W24 {P : Prop} (h : P := by first | exact ⟨by rw [kp1 (by assumption), beq_d]; exact dec_d (by rw [← uq_all]; omega), rfl⟩ | exact ⟨by rw [kp2 (by assumption)]; exact dec_d (by omega), rfl⟩ | exact ⟨by rw [kp3 (by assumption)], rfl⟩ | exact ⟨by rw [kp4 (by assumption)], rfl⟩ | exact ⟨by rw [kp5 (by assumption) (by assumption) (by assumption) (by assumption)], rfl⟩) : P := h
theorem W25 {T : TypeId → Option VTy} {H : Ze} {op : Op} {ρ : Operand → VVal} {t : TypeId} {a : Operand} {y : VTy} {p : VVal} {n : Nat} {vs : List VVal} (ho : op = .load t a) (ha : ρ a = p) (hy : T t = some y) (hd : Zk y.desc = true) (hn : y.size = n) (h : XF H p n vs := by first | exact .inl ⟨_, _, rfl, XH46⟩ | exact .inr ⟨_, _, _, _, rfl, XH35, XH46⟩) : vop T ρ H op = some (.agg vs, H) := XI ho ha hy hd hn h
theorem W26 {P : Prop} (h : P := by first | exact ⟨by unfold erl; rw [(by assumption : rck n r = false)]; rfl, rfl⟩ | exact ⟨by unfold erl; rw [decide_eq_false (by omega), Bool.false_and, Bool.and_false], rfl⟩ | exact ⟨by unfold erl; rw [hck, decide_eq_true (by omega), hA.1, hA.2]; rfl, rfl⟩) : P := h
theorem W27 {T : TypeId → Option VTy} {H : Ze} {op : Op} {ρ : Operand → VVal} {t : TypeId} {a : Operand} {y : VTy} {p v : VVal} (ho : op = .load t a) (ha : ρ a = p) (hy : T t = some y) (hd : Zk y.desc = false) (h : LdOk H p v := by first | exact .inl ⟨_, _, rfl, XH46⟩ | exact .inr ⟨_, _, _, _, rfl, XH35, XH46⟩) : vop T ρ H op = some (v, H) := Yv ho ha hy hd h
theorem fgetP {α : Type} {f : α → VVal} {l : List α} {k : Nat} (d : α) (h0 : 0 < k) (h : k ≤ l.length) : (l.map f)[((k : Int) - 1).toNat * 1]? = some (f (l.getD (k - 1) d)) := by
 have := YT (f := f) (l := l) (k := k - 1) d (by omega)
 rw [Int.toNat_natCast] at this
 rw [show ((k : Int) - 1).toNat = k - 1 by omega]; exact this
theorem lst1_prev {l : List Int} {k : Nat} (h0 : 0 < k) (h : k ≤ l.length) : J6 (-1) (l.take k) = l.getD (k - 1) 0 := by
 have := Zc0 (l := l) (k := k - 1) (by omega)
 rwa [show k - 1 + 1 = k by omega] at this
theorem lst1_0 {l : List Int} {k : Nat} (h0 : k = 0) : J6 (-1) (l.take k) = -1 := by subst h0; rfl
theorem lst1_m {n : Int} {l : List Int} (h : ZaN n l = true) : -1 ≤ J6 (-1) l := lst1_ge _ _ h
theorem rck_r {n : Int} {r : Rul} (h : 0 ≤ n ∧ n ≤ 12) (h2 : ZaN n r.steps = true) : rck n r = knd r := by unfold rck; rw [decide_eq_true h, h2]; rfl
theorem knd_f {r : Rul} (h : 3 ≤ r.kind ∧ r.kind ≤ 5) (h2 : r.k < 1 ∨ 999999999 < r.k ∨ r.steps.length < 1) (hl : r.steps.length ≤ 1000000) : knd r = false := by
 by_cases h5 : r.kind = 5
 ·rw [knd_c h5]; exact decide_eq_false (by omega)
 rw [knd_b (by omega)]; exact decide_eq_false (by omega)
theorem uq_step {l : List Int} {k : Nat} (h : k < l.length) : ((uq (l.take (k + 1)) : Nat) : Int) = (uq (l.take k) : Nat) + (if l.getD k 0 ∈ l.take k then (0 : Int) else 1) := by
 rw [Yf (d := 0) h, Zac]; split <;> simp
theorem mem_step {l : List Int} {k : Nat} {x : Int} (h : k < l.length) : (x ∈ l.take (k + 1)) ↔ (x ∈ l.take k ∨ l.getD k 0 = x) := by
 rw [Yf (d := 0) h, List.mem_append, List.mem_singleton]
 constructor
 ·rintro (h | h)
  ·exact .inl h
  exact .inr h.symm
 rintro (h | h)
 ·exact .inl h
 exact .inr h.symm
abbrev oftK (l : List Int) (k : Nat) : Nat := mxL ((l.take k).map fun y => l.count y)
theorem Zc5 {l : List Int} {k : Nat} (h : k < l.length) : oftK l (k + 1) = max (oftK l k) (l.count (l.getD k 0)) := by
 unfold oftK; rw [Yf (d := 0) h, List.map_append, List.map_singleton, mxL_app]
theorem oftK_all {l : List Int} {k : Nat} (h : l.length ≤ k) : oftK l k = oft l := by unfold oftK; rw [List.take_of_length_le h]; rfl
theorem cnt_step {l : List Int} {k : Nat} {x : Int} (h : k < l.length) : (l.take (k + 1)).count x = (l.take k).count x + if l.getD k 0 = x then 1 else 0 := by
 rw [Yf (d := 0) h, List.count_append, List.count_singleton]
 by_cases e : l.getD k 0 = x <;> simp [e]
theorem cnt_le {l : List Int} {k : Nat} {x : Int} : (l.take k).count x ≤ k := Nat.le_trans List.count_le_length (by rw [List.length_take]; omega)
theorem Zbg {x : SW} (H : Ze) (n : Int) (r : Rul) (hl : r.steps.length ≤ 1000000) : F (psys x) 137 [iI n, .agg (rlB r)] H fun v G => v = .bool (rck n r) ∧ G = H := by
 refine Zp Tryd.func137 rfl Zm rfl ?_
 refine Zc (Za (Lo Zm (ZJ rfl rfl rfl) ?_))
 refine Lk Zm (.bool false) ?_
 refine Zd (Zb (Zc (Zc (Za (Lm Zm ?_)))))
 refine Lo Zm rfl ?_
 refine Lm Zm ?_
 refine ZB 8 (env1 := Zm) (env2 := Zm) rfl rfl rfl (fun hg1 => ?_) (fun hg1 => ?_)
 ·try simp only [qB, qN] at hg1
  refine Lf Zm ?_
  refine Lf Zm ?_
  refine Lo Zm (ZF (VVal.bool true) rfl rfl rfl) ?_
  refine Lm Zm ?_
  refine Lf Zm ?_
  refine Lf Zm ?_
  refine Lf Zm ?_
  refine Lo Zm (ZF (VVal.bool true) rfl rfl rfl) ?_
  refine Lm Zm ?_
  refine Lf Zm ?_
  refine Lf Zm ?_
  refine Lf Zm ?_
  refine Lo Zm (ZF (VVal.bool true) rfl rfl rfl) ?_
  refine Zd (Zb (ZN rfl rfl ?_))
  refine Zc (Za (Lk Zm (.bool false) ?_))
  refine Zd (Zb (Zj (Zl (W10 (.inr rfl) (Zf rfl rfl) ?_))))
  exact W1v
 try simp only [qB, qN] at hg1
 refine Lm Zm ?_
 refine Lo Zm rfl ?_
 refine Lo Zm (ZY rfl rfl rfl) ?_
 refine Lm Zm ?_
 refine ZB 12 (env1 := Zm) (env2 := Zm) rfl rfl rfl (fun hg2 => ?_) (fun hg2 => ?_)
 ·try simp only [qB, qN] at hg2
  refine Lf Zm ?_
  refine Lf Zm ?_
  refine Lf Zm ?_
  refine Lo Zm (ZF (VVal.bool true) rfl rfl rfl) ?_
  refine Lm Zm ?_
  refine Lf Zm ?_
  refine Lf Zm ?_
  refine Lf Zm ?_
  refine Lo Zm (ZF (VVal.bool true) rfl rfl rfl) ?_
  refine Zd (Zb (ZN rfl rfl ?_))
  refine Zc (Za (Lk Zm (.bool false) ?_))
  refine Zd (Zb (Zj (Zl (W10 (.inr rfl) (Zf rfl rfl) ?_))))
  exact W1v
 try simp only [qB, qN] at hg2
 refine Lo Zm rfl ?_
 refine Lo Zm (W1w rfl rfl rfl rfl) ?_
 refine Lo Zm rfl ?_
 refine Lo Zm (ZY rfl rfl rfl) ?_
 refine Lm Zm ?_
 refine ZB 17 (env1 := Zm) (env2 := Zm) rfl rfl rfl (fun hg3 => ?_) (fun hg3 => ?_)
 ·try simp only [qB, qN] at hg3
  refine Lf Zm ?_
  refine Lf Zm ?_
  refine Lf Zm ?_
  refine Lo Zm (ZF (VVal.bool true) rfl rfl rfl) ?_
  refine Zd (Zb (ZN rfl rfl ?_))
  refine Zc (Za (Lk Zm (.bool false) ?_))
  refine Zd (Zb (Zj (Zl (W10 (.inr rfl) (Zf rfl rfl) ?_))))
  exact W1v
 try simp only [qB, qN] at hg3
 refine Lo Zm rfl ?_
 refine Lo Zm (W1w rfl rfl rfl rfl) ?_
 refine Lo Zm rfl ?_
 refine Lo Zm (ZY rfl rfl rfl) ?_
 refine Zd (Zb (Zi _ rfl (fun hc4 => ?_) (fun hc4 => ?_)))
 ·try simp only [qB, qN] at hc4
  refine Zc (Za (Lk Zm (.bool false) ?_))
  refine Zd (Zb (Zj (Zl (W10 (.inr rfl) (Zf rfl rfl) ?_))))
  exact W1v
 try simp only [qB, qN] at hc4
 refine Zh (Zb (Zc (Zc (Za (Lk Zm (.int .i64 0) ?_)))))
 refine Zd (Zb (Zg (Zr (mk 106 81129638414606681695789005144022) (env' := Zm) rfl ?_)))
 refine Zw (fun (k : Nat) => r.steps.length - k) (fun (k : Nat) => [(5, iI (k : Nat))]) (fun (k : Nat) G => (k ≤ r.steps.length ∧ ZaN n (r.steps.take k) = true) ∧ G = H ++ [.cells (rlB r) true]) 0 rfl ?_ ?_
 ·refine ⟨?_, rfl⟩
  exact ⟨Nat.zero_le _, rfl⟩
 rintro k _ ⟨⟨hk, hr⟩, rfl⟩
 refine ZL (env' := Zm) rfl ?_
 refine Zc (Zc (Za (Lm Zm ?_)))
 refine Lo Zm rfl ?_
 refine Lo Zm (W1w rfl rfl rfl rfl) ?_
 refine Lo Zm rfl ?_
 refine Lo Zm rfl ?_
 refine Zd (Zb (Zi _ rfl (fun hc5 => ?_) (fun hc5 => ?_)))
 ·try simp only [qB, qN] at hc5
  refine Zh (Zb (Zc (Zg (Zc (ZK [0, 1, 2, 3, 4, 5, 6, 7, 8, 9, 10, 11, 12, 13, 14, 15, 16, 17, 18, 19, 20, 21, 22, 23, 24, 25, 26, 27, 28, 29, 30, 31, 32] #[0, 1, 0, 7, 15, 31, 63, 127, 255, 127, 1023, 2047, 127, 8191, 16383, 32767, 65535, 131071, 262143, 524287, 1048575, 524287, 2621439, 8388607, 16777215, 524287, 34078719, 524287, 235405311, 503840767, 1073741823, 2147483647, 4294967295] XH3 XH3 XH3 ?_)))))
  refine Oc Zm rfl rfl ?_
  refine Ok Zm rfl (W1w rfl rfl rfl rfl) ?_
  refine Om Zm ?_
  refine Oc Zm rfl (W18 rfl rfl rfl rfl rfl rfl rfl) ?_
  refine Ok Zm rfl (W1w rfl rfl rfl rfl) ?_
  refine Oc Zm rfl rfl ?_
  refine Om Zm ?_
  refine Xi 35 (env1 := Zm) (env2 := Zm) rfl rfl rfl (fun hg6 => ?_) (fun hg6 => ?_)
  ·try simp only [qB, qN] at hg6
   refine Of Zm rfl ?_
   refine Of Zm rfl ?_
   refine Of Zm rfl ?_
   refine Of Zm rfl ?_
   refine Of Zm rfl ?_
   refine Of Zm rfl ?_
   refine Of Zm rfl ?_
   refine Oc Zm rfl (ZF (VVal.bool true) rfl rfl rfl) ?_
   refine Om Zm ?_
   refine Of Zm rfl ?_
   refine Of Zm rfl ?_
   refine Of Zm rfl ?_
   refine Of Zm rfl ?_
   refine Of Zm rfl ?_
   refine Of Zm rfl ?_
   refine Of Zm rfl ?_
   refine Of Zm rfl ?_
   refine Of Zm rfl ?_
   refine Of Zm rfl ?_
   refine Of Zm rfl ?_
   refine Of Zm rfl ?_
   refine Of Zm rfl ?_
   refine Of Zm rfl ?_
   refine Of Zm rfl ?_
   refine Of Zm rfl ?_
   refine Oc Zm rfl (ZF (VVal.bool true) rfl rfl rfl) ?_
   refine ZW [] XH3 (trivial) ?_
   refine Zb (ZN rfl rfl ?_)
   refine Zc (Za (Lk Zm (.bool false) ?_))
   refine Zd (Zb (Zj (ZE (Zl (Ye (ZE (Zl (W10 (.inr rfl) (Zf rfl rfl) ?_))))))))
   exact W1v
  try simp only [qB, qN] at hg6
  refine Oc Zm rfl rfl ?_
  refine Ok Zm rfl (W1w rfl rfl rfl rfl) ?_
  refine Om Zm ?_
  refine Oc Zm rfl (W18 rfl rfl rfl rfl rfl rfl rfl) ?_
  refine Ok Zm rfl (W1w rfl rfl rfl rfl) ?_
  refine Om Zm ?_
  refine Oc Zm rfl rfl ?_
  refine Oc Zm rfl (ZY rfl rfl rfl) ?_
  refine Om Zm ?_
  refine Xi 44 (env1 := Zm) (env2 := Zm) rfl rfl rfl (fun hg7 => ?_) (fun hg7 => ?_)
  ·try simp only [qB, qN] at hg7
   refine Of Zm rfl ?_
   refine Of Zm rfl ?_
   refine Of Zm rfl ?_
   refine Of Zm rfl ?_
   refine Of Zm rfl ?_
   refine Of Zm rfl ?_
   refine Of Zm rfl ?_
   refine Of Zm rfl ?_
   refine Of Zm rfl ?_
   refine Of Zm rfl ?_
   refine Of Zm rfl ?_
   refine Of Zm rfl ?_
   refine Of Zm rfl ?_
   refine Of Zm rfl ?_
   refine Of Zm rfl ?_
   refine Of Zm rfl ?_
   refine Oc Zm rfl (ZF (VVal.bool true) rfl rfl rfl) ?_
   refine ZW [] XH3 (trivial) ?_
   refine Zb (ZN rfl rfl ?_)
   refine Zc (Za (Lk Zm (.bool false) ?_))
   refine Zd (Zb (Zj (ZE (Zl (Ye (ZE (Zl (W10 (.inr rfl) (Zf rfl rfl) ?_))))))))
   exact W1v
  try simp only [qB, qN] at hg7
  refine Om Zm ?_
  refine Oc Zm rfl rfl ?_
  refine Om Zm ?_
  refine Xi 47 (env1 := Zm) (env2 := Zm) rfl rfl rfl (fun hg8 => ?_) (fun hg8 => ?_)
  ·try simp only [qB, qN] at hg8
   refine Oc Zm rfl rfl ?_
   refine Ok Zm rfl (W1w rfl rfl rfl rfl) ?_
   refine Om Zm ?_
   refine Oc Zm rfl (W1y rfl rfl rfl) ?_
   refine Oc Zm rfl (W18 rfl rfl rfl rfl rfl rfl rfl) ?_
   refine Ok Zm rfl (W1w rfl rfl rfl rfl) ?_
   refine Oc Zm rfl rfl ?_
   refine Ok Zm rfl (W1w rfl rfl rfl rfl) ?_
   refine Om Zm ?_
   refine Oc Zm rfl (W18 rfl rfl rfl rfl rfl rfl rfl) ?_
   refine Ok Zm rfl (W1w rfl rfl rfl rfl) ?_
   refine Oc Zm rfl rfl ?_
   refine Oc Zm rfl (ZM rfl rfl rfl) ?_
   refine Oc Zm rfl (ZY rfl rfl rfl) ?_
   refine ZW [] XH3 (trivial) ?_
   refine Zb (Zi _ rfl (fun hc9 => ?_) (fun hc9 => ?_))
   ·try simp only [qB, qN] at hc9
    refine Zc (Za (Lk Zm (.bool false) ?_))
    refine Zd (Zb (Zj (ZE (Zl (Ye (ZE (Zl (W10 (.inr rfl) (Zf rfl rfl) ?_))))))))
    exact W1v
   try simp only [qB, qN] at hc9
   refine Zh (Zq (Zb (Za (Lm Zm ?_))))
   refine Lo Zm (W14 rfl rfl rfl) ?_
   refine La Zm ?_
   refine Zd (Zt (mk 106 81129638414606681695789005144022) (env' := Zm) rfl ⟨k + 1, ?_, rfl, ?_⟩)
   ·first | omega | (simp only []; omega)
   exact ⟨⟨by omega, rise_ok (by omega) hr XH32 (by omega)⟩, rfl⟩
  try simp only [qB, qN] at hg8
  refine Of Zm rfl ?_
  refine Of Zm rfl ?_
  refine Of Zm rfl ?_
  refine Of Zm rfl ?_
  refine Of Zm rfl ?_
  refine Of Zm rfl ?_
  refine Of Zm rfl ?_
  refine Of Zm rfl ?_
  refine Of Zm rfl ?_
  refine Of Zm rfl ?_
  refine Of Zm rfl ?_
  refine Of Zm rfl ?_
  refine Oc Zm rfl (ZC (VVal.bool false) rfl rfl rfl) ?_
  refine Oc Zm rfl (ZY rfl rfl rfl) ?_
  refine ZW [] XH3 (trivial) ?_
  refine Zb (Yc rfl rfl ?_)
  refine Zh (Zq (Zb (Za (Lm Zm ?_))))
  refine Lo Zm (W14 rfl rfl rfl) ?_
  refine La Zm ?_
  refine Zd (Zt (mk 106 81129638414606681695789005144022) (env' := Zm) rfl ⟨k + 1, ?_, rfl, ?_⟩)
  ·first | omega | (simp only []; omega)
  exact ⟨⟨by omega, rise_ok (by omega) hr XH32 (by omega)⟩, rfl⟩
 try simp only [qB, qN] at hc5
 refine Zz (ZA (Zu (Zy (Zb (Zc (Zc ?_))))))
 have hrs : ZaN n r.steps = true := by rw [List.take_of_length_le (by omega)] at hr; exact hr
 refine Za (Lo Zm rfl ?_)
 refine Lo Zm (W1w rfl rfl rfl rfl) ?_
 refine Lo Zm rfl ?_
 refine Lm Zm ?_
 refine ZB 65 (env1 := Zm) (env2 := Zm) rfl rfl rfl (fun hg10 => ?_) (fun hg10 => ?_)
 ·try simp only [qB, qN] at hg10
  refine Lf Zm ?_
  refine Lf Zm ?_
  refine Lf Zm ?_
  refine Lo Zm (ZF (VVal.bool true) rfl rfl rfl) ?_
  refine Zd (Zb (ZN rfl rfl ?_))
  refine Zc (Za (Lo Zm rfl ?_))
  refine Lo Zm (W1w rfl rfl rfl rfl) ?_
  refine Lo Zm rfl ?_
  refine Lm Zm ?_
  refine ZB 73 (env1 := Zm) (env2 := Zm) rfl rfl rfl (fun hg11 => ?_) (fun hg11 => ?_)
  ·try simp only [qB, qN] at hg11
   refine Lo Zm rfl ?_
   refine Lo Zm (W1w rfl rfl rfl rfl) ?_
   refine Lo Zm rfl ?_
   refine Lo Zm rfl ?_
   refine Lo Zm (ZM rfl rfl rfl) ?_
   refine La Zm ?_
   refine Zd (Zb (Zj (Zl (W10 (.inr rfl) (Zf rfl rfl) ?_))))
   exact W1v
  try simp only [qB, qN] at hg11
  refine Lf Zm ?_
  refine Lf Zm ?_
  refine Lf Zm ?_
  refine Lf Zm ?_
  refine Lo Zm (ZC (VVal.bool false) rfl rfl rfl) ?_
  refine La Zm ?_
  refine Zd (Zb (Zj (Zl (W10 (.inr rfl) (Zf rfl rfl) ?_))))
  exact W1v
 try simp only [qB, qN] at hg10
 refine Lo Zm rfl ?_
 refine Lo Zm (W1w rfl rfl rfl rfl) ?_
 refine Lo Zm rfl ?_
 refine Lo Zm (ZY rfl rfl rfl) ?_
 refine Zd (Zb (Zi _ rfl (fun hc12 => ?_) (fun hc12 => ?_)))
 ·try simp only [qB, qN] at hc12
  refine Zc (Za (Lo Zm rfl ?_))
  refine Lo Zm (W1w rfl rfl rfl rfl) ?_
  refine Lo Zm rfl ?_
  refine Lm Zm ?_
  refine ZB 73 (env1 := Zm) (env2 := Zm) rfl rfl rfl (fun hg13 => ?_) (fun hg13 => ?_)
  ·try simp only [qB, qN] at hg13
   refine Lo Zm rfl ?_
   refine Lo Zm (W1w rfl rfl rfl rfl) ?_
   refine Lo Zm rfl ?_
   refine Lo Zm rfl ?_
   refine Lo Zm (ZM rfl rfl rfl) ?_
   refine La Zm ?_
   refine Zd (Zb (Zj (Zl (W10 (.inr rfl) (Zf rfl rfl) ?_))))
   exact W1v
  try simp only [qB, qN] at hg13
  refine Lf Zm ?_
  refine Lf Zm ?_
  refine Lf Zm ?_
  refine Lf Zm ?_
  refine Lo Zm (ZC (VVal.bool false) rfl rfl rfl) ?_
  refine La Zm ?_
  refine Zd (Zb (Zj (Zl (W10 (.inr rfl) (Zf rfl rfl) ?_))))
  exact W1v
 try simp only [qB, qN] at hc12
 refine Zh (Zb (Zc (Za (Lo Zm rfl ?_))))
 refine Lo Zm (W1w rfl rfl rfl rfl) ?_
 refine Lo Zm rfl ?_
 refine Lm Zm ?_
 refine ZB 82 (env1 := Zm) (env2 := Zm) rfl rfl rfl (fun hg14 => ?_) (fun hg14 => ?_)
 rotate_left
 ·try simp only [qB, qN] at hg14
  refine Lf Zm ?_
  refine Lf Zm ?_
  refine Lf Zm ?_
  refine Lo Zm (ZC (VVal.bool false) rfl rfl rfl) ?_
  refine Lm Zm ?_
  refine Lf Zm ?_
  refine Lf Zm ?_
  refine Lf Zm ?_
  refine Lf Zm ?_
  refine Lo Zm (ZC (VVal.bool false) rfl rfl rfl) ?_
  refine Lm Zm ?_
  refine Lf Zm ?_
  refine Lf Zm ?_
  refine Lf Zm ?_
  refine Lf Zm ?_
  refine Lf Zm ?_
  refine Lf Zm ?_
  refine Lf Zm ?_
  refine Lf Zm ?_
  refine Lf Zm ?_
  refine Lf Zm ?_
  refine Lf Zm ?_
  refine Lo Zm (ZC (VVal.bool false) rfl rfl rfl) ?_
  refine La Zm ?_
  refine Zd (Zb (Zj (W10 (.inr rfl) (Zf rfl rfl) ?_)))
  exact W1v
 try simp only [qB, qN] at hg14
 refine Lo Zm rfl ?_
 refine Lo Zm (W1w rfl rfl rfl rfl) ?_
 refine Lo Zm rfl ?_
 refine Lo Zm (ZM rfl rfl rfl) ?_
 refine Lm Zm ?_
 refine ZB 87 (env1 := Zm) (env2 := Zm) rfl rfl rfl (fun hg15 => ?_) (fun hg15 => ?_)
 rotate_left
 ·try simp only [qB, qN] at hg15
  refine Lf Zm ?_
  refine Lf Zm ?_
  refine Lf Zm ?_
  refine Lf Zm ?_
  refine Lo Zm (ZC (VVal.bool false) rfl rfl rfl) ?_
  refine Lm Zm ?_
  refine Lf Zm ?_
  refine Lf Zm ?_
  refine Lf Zm ?_
  refine Lf Zm ?_
  refine Lf Zm ?_
  refine Lf Zm ?_
  refine Lf Zm ?_
  refine Lf Zm ?_
  refine Lf Zm ?_
  refine Lf Zm ?_
  refine Lf Zm ?_
  refine Lo Zm (ZC (VVal.bool false) rfl rfl rfl) ?_
  refine La Zm ?_
  refine Zd (Zb (Zj (W10 (.inr rfl) (Zf rfl rfl) ?_)))
  exact W1v
 try simp only [qB, qN] at hg15
 refine Lo Zm rfl ?_
 refine Lo Zm (W1w rfl rfl rfl rfl) ?_
 refine Lo Zm rfl ?_
 refine Lo Zm rfl ?_
 refine Lo Zm (ZM rfl rfl rfl) ?_
 refine Lm Zm ?_
 refine ZB 93 (env1 := Zm) (env2 := Zm) rfl rfl rfl (fun hg16 => ?_) (fun hg16 => ?_)
 ·try simp only [qB, qN] at hg16
  refine Lo Zm rfl ?_
  refine Lo Zm (W1w rfl rfl rfl rfl) ?_
  refine Lo Zm rfl ?_
  refine Lm Zm ?_
  refine ZB 97 (env1 := Zm) (env2 := Zm) rfl rfl rfl (fun hg17 => ?_) (fun hg17 => ?_)
  ·try simp only [qB, qN] at hg17
   refine Lf Zm ?_
   refine Lf Zm ?_
   refine Lf Zm ?_
   refine Lf Zm ?_
   refine Lf Zm ?_
   refine Lf Zm ?_
   refine Lo Zm (ZF (VVal.bool true) rfl rfl rfl) ?_
   refine Lo Zm (ZM rfl rfl rfl) ?_
   refine La Zm ?_
   refine Zd (Zb (Zj (W10 (.inr rfl) (Zf rfl rfl) ?_)))
   exact W1v
  try simp only [qB, qN] at hg17
  refine Lo Zm rfl ?_
  refine Lo Zm (W1w rfl rfl rfl rfl) ?_
  refine Lo Zm rfl ?_
  refine Lo Zm (W1w rfl rfl rfl rfl) ?_
  refine Lo Zm rfl ?_
  refine Lo Zm rfl ?_
  refine Lo Zm (ZY rfl rfl rfl) ?_
  refine Lo Zm (ZM rfl rfl rfl) ?_
  refine La Zm ?_
  refine Zd (Zb (Zj (W10 (.inr rfl) (Zf rfl rfl) ?_)))
  exact W1v
 try simp only [qB, qN] at hg16
 refine Lf Zm ?_
 refine Lf Zm ?_
 refine Lf Zm ?_
 refine Lf Zm ?_
 refine Lf Zm ?_
 refine Lf Zm ?_
 refine Lf Zm ?_
 refine Lf Zm ?_
 refine Lf Zm ?_
 refine Lf Zm ?_
 refine Lf Zm ?_
 refine Lo Zm (ZC (VVal.bool false) rfl rfl rfl) ?_
 refine La Zm ?_
 refine Zd (Zb (Zj (W10 (.inr rfl) (Zf rfl rfl) ?_)))
 exact W1v
theorem X6 {x : SW} (H : Ze) (l : List Int) (hl : l.length ≤ 1000000) : F (psys x) 167 [fzI l] H fun v G => v = iI (uq l : Nat) ∧ G = H := by
 refine Zp Tryd.func167 rfl u31 rfl ?_
 refine Zc (Za (Lk u31 (.int .i64 0) ?_))
 refine Zd (Zb (Zc (Za (Lk u31 (.int .i64 0) ?_))))
 refine Zd (Zb (Zc (Zc (Za (Lk u31 (.int .i64 0) ?_)))))
 refine Zd (Zb (Zg (Zr (mk 31 2147483622) (env' := u31) rfl ?_)))
 refine Zw (fun (i : Nat) => l.length - i) (fun (i : Nat) => [(3, iI (uq (l.take i) : Nat)), (4, iI (i : Nat))]) (fun (i : Nat) G => (i ≤ l.length) ∧ G = H ++ []) 0 rfl ?_ ?_
 ·refine ⟨?_, rfl⟩
  exact Nat.zero_le _
 rintro i _ ⟨hi, rfl⟩
 refine ZL (env' := u31) rfl ?_
 refine Zc (Zc (Za (Lm u31 ?_)))
 refine Lm u31 ?_
 refine Lo u31 rfl ?_
 refine Lo u31 rfl ?_
 refine Zd (Zb (Zi _ rfl (fun hc1 => ?_) (fun hc1 => ?_)))
 ·try simp only [qB, qN] at hc1
  refine Zh (Zb (Zc (Zg (Zc (Za (Lk u31 (.int .i64 1) ?_))))))
  refine Zd (Zb (Zc (Zc (Za (Lk u31 (.int .i64 0) ?_)))))
  refine Zd (Zb (Zg (Zr (mk 31 2147483526) (env' := u31) rfl ?_)))
  have hul := uq_le (l.take i)
  rw [List.length_take] at hul
  refine Zw (fun (k : Nat) => i - k) (fun (k : Nat) => [(5, iI (if l.getD i 0 ∈ l.take k then 0 else 1)), (6, iI (k : Nat))]) (fun (k : Nat) G => (k ≤ i) ∧ G = H ++ []) 0 rfl ?_ ?_
  ·refine ⟨?_, rfl⟩
   exact Nat.zero_le _
  rintro k _ ⟨hk, rfl⟩
  refine ZL (env' := u31) rfl ?_
  refine Zc (Zc (Za (Lm u31 ?_)))
  refine Lm u31 ?_
  refine Lo u31 rfl ?_
  refine Zd (Zb (Zi _ rfl (fun hc2 => ?_) (fun hc2 => ?_)))
  ·try simp only [qB, qN] at hc2
   refine Zh (Zb (Zc (Zg (Zc (ZK [0, 1, 2, 3, 4, 5, 6, 7, 8] #[0, 0, 3, 7, 0, 0, 48, 112, 255] XH3 XH3 XH3 ?_)))))
   refine Om u31 ?_
   refine Om u31 ?_
   refine Oc u31 rfl (W20 rfl rfl rfl rfl rfl rfl rfl) ?_
   refine Ok u31 rfl (W21 rfl rfl rfl rfl) ?_
   refine Om u31 ?_
   refine Om u31 ?_
   refine Oc u31 rfl (W20 rfl rfl rfl rfl rfl rfl rfl) ?_
   refine Ok u31 rfl (W21 rfl rfl rfl rfl) ?_
   refine Oc u31 rfl rfl ?_
   refine ZW [] XH3 (trivial) ?_
   refine Zb (Zi _ rfl (fun hc3 => ?_) (fun hc3 => ?_))
   ·try simp only [qB, qN] at hc3
    refine Za (Lk u31 (.int .i64 0) ?_)
    refine Zd (Zq (Zb (Za (Lm u31 ?_))))
    refine Lo u31 (W22 rfl rfl rfl) ?_
    refine La u31 ?_
    refine Zd ?_
    have hs := mem_step (l := l) (k := k) (x := l.getD i 0) (by omega)
    refine Zt (mk 31 2147483526) (env' := u31) rfl ⟨k + 1, ?_, XH25, ?_⟩
    ·first | omega | (simp only []; omega)
    exact ⟨by omega, rfl⟩
   try simp only [qB, qN] at hc3
   refine Zh (Zq (Zb (Za (Lm u31 ?_))))
   refine Lo u31 (W22 rfl rfl rfl) ?_
   refine La u31 ?_
   refine Zd ?_
   have hs := mem_step (l := l) (k := k) (x := l.getD i 0) (by omega)
   refine Zt (mk 31 2147483526) (env' := u31) rfl ⟨k + 1, ?_, XH25, ?_⟩
   ·first | omega | (simp only []; omega)
   exact ⟨by omega, rfl⟩
  try simp only [qB, qN] at hc2
  refine Zz (ZA (Zu (Zy (Zb (Za (Lm u31 ?_))))))
  refine Lm u31 ?_
  refine Lo u31 (W22 rfl rfl rfl) ?_
  refine La u31 ?_
  refine Zd (Zq (Zb (Za (Lm u31 ?_))))
  refine Lo u31 (W22 rfl rfl rfl) ?_
  refine La u31 ?_
  refine Zd ?_
  obtain rfl : i = k := by omega
  have hu := uq_step (l := l) (k := i) (by omega)
  refine Zt (mk 31 2147483622) (env' := u31) rfl ⟨i + 1, ?_, (by rw [hu]; rfl), ?_⟩
  ·first | omega | (simp only []; omega)
  exact ⟨by omega, rfl⟩
 try simp only [qB, qN] at hc1
 refine Zz (ZA (Zu (Zy (Zb (Zc (Za (Lm u31 ?_)))))))
 refine La u31 ?_
 refine Zd (Zb (Zj (W10 (.inr rfl) (Zf rfl rfl) ?_)))
 obtain rfl : i = l.length := by omega
 rw [List.take_of_length_le (Nat.le_refl _)]
 exact ⟨rfl, rfl⟩
theorem often_spec {x : SW} (H : Ze) (l : List Int) (hl : l.length ≤ 1000000) : F (psys x) 168 [fzI l] H fun v G => v = iI (oft l : Nat) ∧ G = H := by
 refine Zp Tryd.func168 rfl u35 rfl ?_
 refine Zc (Za (Lk u35 (.int .i64 0) ?_))
 refine Zd (Zb (Zc (Za (Lk u35 (.int .i64 0) ?_))))
 refine Zd (Zb (Zc (Zc (Za (Lk u35 (.int .i64 0) ?_)))))
 refine Zd (Zb (Zg (Zr (mk 35 34359738342) (env' := u35) rfl ?_)))
 refine Zw (fun (i : Nat) => l.length - i) (fun (i : Nat) => [(3, iI (oftK l i : Nat)), (4, iI (i : Nat))]) (fun (i : Nat) G => (i ≤ l.length) ∧ G = H ++ []) 0 rfl ?_ ?_
 ·refine ⟨?_, rfl⟩
  exact Nat.zero_le _
 rintro i _ ⟨hi, rfl⟩
 refine ZL (env' := u35) rfl ?_
 refine Zc (Zc (Za (Lm u35 ?_)))
 refine Lm u35 ?_
 refine Lo u35 rfl ?_
 refine Lo u35 rfl ?_
 refine Zd (Zb (Zi _ rfl (fun hc1 => ?_) (fun hc1 => ?_)))
 ·try simp only [qB, qN] at hc1
  refine Zh (Zb (Zc (Zg (Zc (Za (Lk u35 (.int .i64 0) ?_))))))
  refine Zd (Zb (Zc (Zc (Za (Lk u35 (.int .i64 0) ?_)))))
  refine Zd (Zb (Zg (Zr (mk 35 34359738246) (env' := u35) rfl ?_)))
  refine Zw (fun (k : Nat) => l.length - k) (fun (k : Nat) => [(5, iI ((l.take k).count (l.getD i 0) : Nat)), (6, iI (k : Nat))]) (fun (k : Nat) G => (k ≤ l.length) ∧ G = H ++ []) 0 rfl ?_ ?_
  ·refine ⟨?_, rfl⟩
   exact Nat.zero_le _
  rintro k _ ⟨hk, rfl⟩
  refine ZL (env' := u35) rfl ?_
  refine Zc (Zc (Za (Lm u35 ?_)))
  refine Lm u35 ?_
  refine Lo u35 rfl ?_
  refine Lo u35 rfl ?_
  refine Zd (Zb (Zi _ rfl (fun hc2 => ?_) (fun hc2 => ?_)))
  ·try simp only [qB, qN] at hc2
   refine Zh (Zb (Zc (Zg (Zc (ZK [0, 1, 2, 3, 4, 5, 6, 7, 8] #[0, 0, 3, 7, 0, 0, 48, 112, 255] XH3 XH3 XH3 ?_)))))
   refine Om u35 ?_
   refine Om u35 ?_
   refine Oc u35 rfl (W18 rfl rfl rfl rfl rfl rfl rfl) ?_
   refine Ok u35 rfl (W21 rfl rfl rfl rfl) ?_
   refine Om u35 ?_
   refine Om u35 ?_
   refine Oc u35 rfl (W18 rfl rfl rfl rfl rfl rfl rfl) ?_
   refine Ok u35 rfl (W21 rfl rfl rfl rfl) ?_
   refine Oc u35 rfl rfl ?_
   refine ZW [] XH3 (trivial) ?_
   refine Zb (Zi _ rfl (fun hc3 => ?_) (fun hc3 => ?_))
   ·try simp only [qB, qN] at hc3
    have hcl := cnt_le (l := l) (k := k) (x := l.getD i 0)
    refine Za (Lm u35 ?_)
    refine Lo u35 (W14 rfl rfl rfl) ?_
    refine La u35 ?_
    refine Zd (Zq (Zb (Za (Lm u35 ?_))))
    refine Lo u35 (W14 rfl rfl rfl) ?_
    refine La u35 ?_
    refine Zd ?_
    have hs := cnt_step (l := l) (k := k) (x := l.getD i 0) (by omega)
    have hcl := cnt_le (l := l) (k := k) (x := l.getD i 0)
    refine Zt (mk 35 34359738246) (env' := u35) rfl ⟨k + 1, ?_, (by rw [hs]; first | rw [if_pos (by assumption)]; rfl | rw [if_neg (by assumption)]; rfl), ?_⟩
    ·first | omega | (simp only []; omega)
    exact ⟨by omega, rfl⟩
   try simp only [qB, qN] at hc3
   refine Zh (Zq (Zb (Za (Lm u35 ?_))))
   refine Lo u35 (W14 rfl rfl rfl) ?_
   refine La u35 ?_
   refine Zd ?_
   have hs := cnt_step (l := l) (k := k) (x := l.getD i 0) (by omega)
   have hcl := cnt_le (l := l) (k := k) (x := l.getD i 0)
   refine Zt (mk 35 34359738246) (env' := u35) rfl ⟨k + 1, ?_, (by rw [hs]; first | rw [if_pos (by assumption)]; rfl | rw [if_neg (by assumption)]; rfl), ?_⟩
   ·first | omega | (simp only []; omega)
   exact ⟨by omega, rfl⟩
  try simp only [qB, qN] at hc2
  refine Zz (ZA (Zu (Zy (Zb (Zc (Za (Lm u35 ?_)))))))
  refine Lm u35 ?_
  refine Lo u35 rfl ?_
  refine Zd (Zb (Zi _ rfl (fun hc4 => ?_) (fun hc4 => ?_)))
  ·try simp only [qB, qN] at hc4
   refine Za (Lm u35 ?_)
   refine La u35 ?_
   refine Zd (Zq (Zb (Za (Lm u35 ?_))))
   refine Lo u35 (W14 rfl rfl rfl) ?_
   refine La u35 ?_
   refine Zd ?_
   obtain rfl : k = l.length := by omega
   have hu := Zc5 (l := l) (k := i) (by omega)
   rw [List.take_of_length_le (Nat.le_refl _)] at *
   refine Zt (mk 35 34359738342) (env' := u35) rfl ⟨i + 1, ?_, (by rw [hu]; first | (rw [Nat.max_eq_right (by omega)]; rfl) | (rw [Nat.max_eq_left (by omega)]; rfl)), ?_⟩
   ·first | omega | (simp only []; omega)
   exact ⟨by omega, rfl⟩
  try simp only [qB, qN] at hc4
  refine Zh (Zq (Zb (Za (Lm u35 ?_))))
  refine Lo u35 (W14 rfl rfl rfl) ?_
  refine La u35 ?_
  refine Zd ?_
  obtain rfl : k = l.length := by omega
  have hu := Zc5 (l := l) (k := i) (by omega)
  rw [List.take_of_length_le (Nat.le_refl _)] at *
  refine Zt (mk 35 34359738342) (env' := u35) rfl ⟨i + 1, ?_, (by rw [hu]; first | (rw [Nat.max_eq_right (by omega)]; rfl) | (rw [Nat.max_eq_left (by omega)]; rfl)), ?_⟩
  ·first | omega | (simp only []; omega)
  exact ⟨by omega, rfl⟩
 try simp only [qB, qN] at hc1
 refine Zz (ZA (Zu (Zy (Zb (Zc (Za (Lm u35 ?_)))))))
 refine La u35 ?_
 refine Zd (Zb (Zj (W10 (.inr rfl) (Zf rfl rfl) ?_)))
 rw [oftK_all (by omega)]
 exact ⟨rfl, rfl⟩
theorem dec_d {p q : Prop} [Decidable p] [Decidable q] (h : p ↔ q) : VVal.bool (decide p) = .bool (decide q) := congrArg VVal.bool (decide_eq_decide.2 h)
theorem kp1 {r : Rul} {L : List Int} {f : Nat} (h : r.kind = 1) : kp r L f = decide (oft L ≤ 1) := if_pos h
theorem kp2 {r : Rul} {L : List Int} {f : Nat} (h : r.kind = 2) : kp r L f = decide (uq L ≤ 1) := by unfold kp; rw [if_neg (by omega), if_pos h]
theorem kp3 {r : Rul} {L : List Int} {f : Nat} (h : r.kind = 3) : kp r L f = decide ((oft L : Int) ≤ r.k) := by unfold kp; rw [if_neg (by omega), if_neg (by omega), if_pos h]
theorem kp4 {r : Rul} {L : List Int} {f : Nat} (h : r.kind = 4) : kp r L f = decide ((uq L : Int) ≤ r.k) := by unfold kp; rw [if_neg (by omega), if_neg (by omega), if_neg (by omega), if_pos h]
theorem kp5 {r : Rul} {L : List Int} {f : Nat} (h1 : ¬ r.kind = 1) (h2 : ¬ r.kind = 2) (h3 : ¬ r.kind = 3) (h4 : ¬ r.kind = 4) : kp r L f = decide (r.k ≤ uq L + f) := by unfold kp; rw [if_neg h1, if_neg h2, if_neg h3, if_neg h4]
theorem beq_d (a b : Int) : (a == b) = decide (a = b) := by rw [Bool.eq_iff_iff, beq_iff_eq, decide_eq_true_eq]
theorem fkeeps_spec {x : SW} (H : Ze) (r : Rul) (l : List Int) (f : Nat) (hl : l.length ≤ 1000000) (hf : f ≤ 1000000) : F (psys x) 160 [.agg (rlB r), fzI l, iI (f : Nat)] H fun v G => v = .bool (kp r l f) ∧ G = H := by
 have h9 := uq_le l
 refine Zp Tryd.func160 rfl u42 rfl ?_
 refine Zc (Za (Lo u42 (ZJ rfl rfl rfl) ?_))
 refine Lk u42 (.bool false) ?_
 refine Zd (Zb (Zc (Zc (Za (Lo u42 rfl ?_)))))
 refine Lo u42 (W12 rfl rfl rfl rfl) ?_
 refine Zd (Zb (Zg (Zc (Za (Lo u42 rfl ?_)))))
 refine La u42 ?_
 refine Zd (Zb (Zi _ rfl (fun hc1 => ?_) (fun hc1 => ?_)))
 ·try simp only [qB] at hc1
  refine Zc (Za (Lm u42 ?_))
  refine Zs rfl rfl rfl (by exact X6 _ _ (by omega)) ?_
  rintro _ _ ⟨rfl, rfl⟩
  refine Le u42 ?_
  refine Lm u42 ?_
  refine Lo u42 rfl ?_
  refine Lo u42 rfl ?_
  refine La u42 ?_
  refine Zd (Zb (Zj (ZE (Zl (W10 (.inr rfl) (Zf rfl rfl) ?_)))))
  exact W24
 try simp only [qB] at hc1
 refine Zc (Za (Lo u42 rfl ?_))
 refine La u42 ?_
 refine Zd (Zb (Zi _ rfl (fun hc2 => ?_) (fun hc2 => ?_)))
 ·try simp only [qB] at hc2
  refine Zc (Za (Lm u42 ?_))
  refine Zs rfl rfl rfl (by exact X6 _ _ (by omega)) ?_
  rintro _ _ ⟨rfl, rfl⟩
  refine Le u42 ?_
  refine Lo u42 rfl ?_
  refine La u42 ?_
  refine Zd (Zb (Zj (ZE (Zl (W10 (.inr rfl) (Zf rfl rfl) ?_)))))
  exact W24
 try simp only [qB] at hc2
 refine Zc (Za (Lo u42 rfl ?_))
 refine La u42 ?_
 refine Zd (Zb (Zi _ rfl (fun hc3 => ?_) (fun hc3 => ?_)))
 ·try simp only [qB] at hc3
  refine Zc (ZK [0, 2, 3, 1, 4, 5] #[0, 1, 0, 4, 15, 31] XH3 XH3 XH3 ?_)
  refine Om u42 ?_
  refine Oc u42 rfl rfl ?_
  refine Yb (env' := u42) (x := .look _ _) rfl rfl rfl (W12 rfl rfl rfl rfl) rfl rfl rfl ?_
  refine Yd (env' := u42) rfl rfl rfl rfl rfl (by exact often_spec _ _ (by omega)) XH8 rfl rfl ?_
  refine Oc u42 rfl rfl ?_
  refine Oc u42 rfl (Yo (.inr rfl) rfl) ?_
  refine ZW [_] (by rfl) (And.intro (And.intro (W12 rfl rfl rfl rfl) (W12 rfl rfl rfl rfl)) trivial) ?_
  refine Zb (Zj (ZE (Zl (W10 (.inr rfl) (Zf rfl rfl) ?_))))
  exact W24
 try simp only [qB] at hc3
 refine Zc (Za (Lo u42 rfl ?_))
 refine La u42 ?_
 refine Zd (Zb (Zi _ rfl (fun hc4 => ?_) (fun hc4 => ?_)))
 ·try simp only [qB] at hc4
  refine Zc (ZK [0, 2, 3, 1, 4, 5] #[0, 1, 0, 4, 15, 31] XH3 XH3 XH3 ?_)
  refine Om u42 ?_
  refine Oc u42 rfl rfl ?_
  refine Yb (env' := u42) (x := .look _ _) rfl rfl rfl (W12 rfl rfl rfl rfl) rfl rfl rfl ?_
  refine Yd (env' := u42) rfl rfl rfl rfl rfl (by exact X6 _ _ (by omega)) XH8 rfl rfl ?_
  refine Oc u42 rfl rfl ?_
  refine Oc u42 rfl (Yo (.inr rfl) rfl) ?_
  refine ZW [_] (by rfl) (And.intro (And.intro (W12 rfl rfl rfl rfl) (W12 rfl rfl rfl rfl)) trivial) ?_
  refine Zb (Zj (ZE (Zl (W10 (.inr rfl) (Zf rfl rfl) ?_))))
  exact W24
 try simp only [qB] at hc4
 refine Zh (Zq (Zb (Zc (ZK [0, 2, 4, 5, 1, 3, 6, 7] #[0, 1, 0, 7, 0, 16, 63, 127] XH3 XH3 XH3 ?_))))
 refine Om u42 ?_
 refine Om u42 ?_
 refine Oc u42 rfl rfl ?_
 refine Yb (env' := u42) (x := .look _ _) rfl rfl rfl (W12 rfl rfl rfl rfl) rfl rfl rfl ?_
 refine Yd (env' := u42) rfl rfl rfl rfl rfl (by exact X6 _ _ (by omega)) XH8 rfl rfl ?_
 refine Oc u42 rfl (W14 rfl rfl rfl) ?_
 refine Oc u42 rfl rfl ?_
 refine Oc u42 rfl (Yo (.inr rfl) rfl) ?_
 refine ZW [_] (by rfl) (And.intro (And.intro (W12 rfl rfl rfl rfl) (W12 rfl rfl rfl rfl)) trivial) ?_
 refine Zb (Zj (W10 (.inr rfl) (Zf rfl rfl) ?_))
 exact W24
theorem fEarly_spec {x : SW} (H : Ze) (r : Rul) (n : Int) (l : List Int) (hl : r.steps.length ≤ 1000000) : F (psys x) 138 [.agg (rlB r), iI n, fzI l] H fun v G => v = .bool (erl r n l) ∧ G = H := by
 refine Zp Tryd.func138 rfl u52 rfl ?_
 refine Zc (Za (Lo u52 (ZJ rfl rfl rfl) ?_))
 refine Lk u52 (.bool false) ?_
 refine Zd (Zb (Zc (Zc (Za (Lm u52 ?_)))))
 refine Lo u52 (W25 rfl rfl rfl rfl rfl) ?_
 refine Zs rfl rfl rfl (by exact Zbg _ _ _ (by omega)) ?_
 rintro _ _ ⟨rfl, rfl⟩
 refine Le u52 ?_
 refine Lo u52 rfl ?_
 refine Lm u52 ?_
 refine ZB 14 (env1 := u52) (env2 := u52) rfl rfl rfl (fun hg1 => ?_) (fun hg1 => ?_)
 ·try simp only [qB, qN] at hg1
  refine Lf u52 ?_
  refine Lf u52 ?_
  refine Lf u52 ?_
  refine Lf u52 ?_
  refine Lo u52 (ZF (VVal.bool true) rfl rfl rfl) ?_
  refine Zd (Zb (ZN rfl rfl ?_))
  refine Zc (Za (Lk u52 (.bool false) ?_))
  refine Zd (Zb (Zj (Zl (W10 (.inr rfl) (Zf rfl rfl) ?_))))
  exact W26
 try simp only [qB, qN] at hg1
 refine Lm u52 ?_
 refine Lo u52 rfl ?_
 refine Lm u52 ?_
 refine Lo u52 rfl ?_
 refine Lo u52 (ZY rfl rfl rfl) ?_
 refine Zd (Zb (Zi _ rfl (fun hc2 => ?_) (fun hc2 => ?_)))
 ·try simp only [qB, qN] at hc2
  refine Zc (Za (Lk u52 (.bool false) ?_))
  refine Zd (Zb (Zj (Zl (W10 (.inr rfl) (Zf rfl rfl) ?_))))
  exact W26
 try simp only [qB, qN] at hc2
 refine Zh (Zb (Zc ?_))
 have hck : rck n r = true := by assumption
 have hpos := rck_pos hck
 refine Za (Lk u52 (.slice none 0 0 true 0) ?_)
 refine Zd (Zb (Zc (Za (Lk u52 (.int .i64 0) ?_))))
 refine Zd (Zb (Zc (Zc (Za (Lk u52 (.int .i64 0) ?_)))))
 refine Zd (Zb (Zg (Zr (mk 52 4503599627369587) (env' := u52) rfl ?_)))
 refine Zw (fun (⟨k, lv⟩ : Nat × VVal) => r.steps.length - k) (fun (⟨k, lv⟩ : Nat × VVal) => [(7, lv), (8, iI (lfK r l k : Nat)), (9, iI (k : Nat))]) (fun (⟨k, lv⟩ : Nat × VVal) G => (k ≤ r.steps.length) ∧ ∃ X, G = (H ++ [VBlk.cells (rlB r) true]) ++ X ∧ LV (H ++ [VBlk.cells (rlB r) true]).length 1 X lv ((lbK r l k).map iI) (lbK r l k).length) ⟨0, _⟩ rfl ?_ ?_
 ·refine ⟨?_, ⟨[], (by simp), LV.nil _ _ _⟩⟩
  exact Nat.zero_le _
 rintro ⟨k, lv⟩ _ ⟨hk, ⟨X, rfl, hl2⟩⟩
 refine ZL (env' := u52) rfl ?_
 refine Zc (Zc (Za (Lm u52 ?_)))
 refine Lo u52 rfl ?_
 refine Lo u52 (W27 rfl rfl rfl rfl) ?_
 refine Lo u52 rfl ?_
 refine Lo u52 rfl ?_
 refine Zd (Zb (Zi _ rfl (fun hc3 => ?_) (fun hc3 => ?_)))
 ·try simp only [qB, qN] at hc3
  refine Zh (Zb (Zc (Zg (Zc (Za (Lo u52 rfl ?_))))))
  refine Lo u52 (W27 rfl rfl rfl rfl) ?_
  refine Lm u52 ?_
  refine Lo u52 (W18 rfl rfl rfl rfl rfl rfl rfl) ?_
  refine Lo u52 (W27 rfl rfl rfl rfl) ?_
  refine Lm u52 ?_
  refine Lo u52 rfl ?_
  refine Lo u52 rfl ?_
  refine Zd (Zb (Zi _ rfl (fun hc4 => ?_) (fun hc4 => ?_)))
  ·try simp only [qB, qN] at hc4
   have hlk := ZaJ (r := r) (l := l) hk
   have hps : 0 ≤ r.steps.getD k 0 := hpos _ (Jd (by omega))
   have hE := lbK_lt (r := r) (l := l) (k := k) (by omega) (by omega)
   refine Za (Lm u52 ?_)
   refine Lm u52 ?_
   refine Lo u52 rfl ?_
   refine Lo u52 (W27 rfl rfl rfl rfl) ?_
   refine Lm u52 ?_
   refine Lo u52 (W18 rfl rfl rfl rfl rfl rfl rfl) ?_
   refine Lo u52 (W27 rfl rfl rfl rfl) ?_
   refine Lo u52 (W18 rfl rfl rfl rfl rfl rfl rfl) ?_
   refine Lo u52 (W27 rfl rfl rfl rfl) ?_
   refine Lo u52 (Zv rfl rfl (by decide) rfl) ?_
   refine X7 rfl rfl (Jx rfl rfl rfl rfl rfl rfl rfl hl2 rfl rfl (by decide) (by show (_ + 1) * 8 ≤ _ ∧ _ + 1 ≤ _; omega) (by decide)) ?_
   rintro _ _ ⟨Y1, rfl, rfl, hY1, hY2, hY3⟩
   refine Le u52 ?_
   refine La u52 ?_
   refine Zd (Zq (Zb (Za (Lm u52 ?_))))
   refine Lo u52 (W14 rfl rfl rfl) ?_
   refine La u52 ?_
   refine Zd ?_
   first | rw [show ((lfK r l k : Nat) : Int) + 1 = (lfK r l (k + 1) : Nat) by rw [hE.2]; rfl] | rw [← hE.2]
   refine Zt (mk 52 4503599627369587) (env' := u52) rfl ⟨⟨k + 1, _⟩, ?_, rfl, ?_⟩
   ·first | omega | (simp only []; omega)
   first | exact ⟨by omega, _, rfl, by rw [hE.1]; exact hl2⟩ | exact ⟨by omega, _, rfl, by rw [hE.1]; exact LV.pushI hY3⟩
  try simp only [qB, qN] at hc4
  have hlk := ZaJ (r := r) (l := l) hk
  have hE := lbK_ge (r := r) (l := l) (k := k) (by omega) (by omega)
  refine Za (Lm u52 ?_)
  refine Lo u52 (W14 rfl rfl rfl) ?_
  refine La u52 ?_
  refine Zd (Zq (Zb (Za (Lm u52 ?_))))
  refine Lo u52 (W14 rfl rfl rfl) ?_
  refine La u52 ?_
  refine Zd ?_
  first | rw [show ((lfK r l k : Nat) : Int) + 1 = (lfK r l (k + 1) : Nat) by rw [hE.2]; rfl] | rw [← hE.2]
  refine Zt (mk 52 4503599627369587) (env' := u52) rfl ⟨⟨k + 1, _⟩, ?_, rfl, ?_⟩
  ·first | omega | (simp only []; omega)
  first | exact ⟨by omega, _, rfl, by rw [hE.1]; exact hl2⟩ | exact ⟨by omega, _, rfl, by rw [hE.1]; exact LV.pushI hY3⟩
 try simp only [qB, qN] at hc3
 refine Zz (ZA (Zu (Zy (Zb (Zc ?_)))))
 have hlk := ZaJ (r := r) (l := l) hk
 have hA := lbK_all (r := r) (l := l) (k := k) (by omega)
 refine B_ghLV (env' := u52) 7 hl2 rfl rfl fun X2 hX2 _ => ?_
 refine YS (List.append_assoc _ _ _) ?_
 refine Za (Lo u52 (W25 rfl rfl rfl rfl rfl) ?_)
 refine Lm u52 ?_
 refine Lm u52 ?_
 refine Zs rfl rfl rfl (by exact fkeeps_spec _ r (lbK r l k) (lfK r l k) (by omega) (by omega)) ?_
 rintro _ _ ⟨rfl, rfl⟩
 refine Le u52 ?_
 refine La u52 ?_
 refine Zd (Zb (Zj (W10 (.inr rfl) (Zf rfl rfl) ?_)))
 exact W26
theorem W29 {P : Prop} (h : P := by first | exact ⟨by rw [rgt_fit (by omega)], rfl⟩ | exact ⟨by rw [rgt_bad (i := m) (by omega) (Zah (by assumption))], rfl⟩ | exact ⟨by rw [rgt_bad (i := m) (by omega) (by assumption)], rfl⟩ | exact ⟨by rw [rgt_ok (by omega) (all_at fun i hi => hr i (by omega))], rfl⟩) : P := h
theorem W2b {T : TypeId → Option VTy} {H : Ze} {op : Op} {ρ : Operand → VVal} {t : TypeId} {a : Operand} {y : VTy} {p : VVal} {n : Nat} {vs : List VVal} (ho : op = .load t a) (ha : ρ a = p) (hy : T t = some y) (hd : Zk y.desc = true) (hn : y.size = n) (h : XF H p n vs := by first | exact .inl ⟨_, _, rfl, by first | rfl | exact rul_at (by omega)⟩ | exact .inr ⟨_, _, _, _, rfl, XH35, by first | rfl | exact rul_at (by omega)⟩) : vop T ρ H op = some (.agg vs, H) := XI ho ha hy hd hn h
theorem W2d {T : TypeId → Option VTy} {H : Ze} {op : Op} {ρ : Operand → VVal} {t : TypeId} {a : Operand} {y : VTy} {p v : VVal} (ho : op = .load t a) (ha : ρ a = p) (hy : T t = some y) (hd : Zk y.desc = false) (h : LdOk H p v := by first | exact .inl ⟨_, _, rfl, by first | rfl | assumption | exact YT (α := BitVec 64) 0 (by omega) | exact YT (α := Int) 0 (by omega)⟩ | exact .inr ⟨_, _, _, _, rfl, XH35, by first | rfl | assumption | exact YT (α := BitVec 64) 0 (by omega) | exact YT (α := Int) 0 (by omega)⟩) : vop T ρ H op = some (v, H) := Yv ho ha hy hd h
theorem W2e {P : Prop} (h : P := by first | exact ⟨by rw [pck_2 (by omega)], rfl⟩ | exact ⟨by rw [pck_1 (by omega) (by omega)], rfl⟩ | exact ⟨by rw [pck_1g (by omega) (Zah (by assumption))], rfl⟩ | exact ⟨by rw [pck_1g (by omega) (by assumption)], rfl⟩ | exact ⟨by rw [pck_1w (i := k) hn1 hn2 (by omega) (okW_no2 (by omega))], rfl⟩ | exact ⟨by rw [pck_1w (i := k) hn1 hn2 (by omega) (okW_no (by assumption))], rfl⟩ | exact ⟨by rw [pck_0 hn1 hn2 (fun i hi => hw i (by omega)) (fun i hi => (rgt_iff.1 hgt).2 _ (Y3 hi))], rfl⟩) : P := h
def rgt (n : Int) (rs : List Rul) : Bool := decide (0 ≤ n ∧ n ≤ 12) && rs.all (rck n)
theorem rgt_fit {n : Int} {rs : List Rul} (h : ¬ (0 ≤ n ∧ n ≤ 12)) : rgt n rs = false := by unfold rgt; rw [decide_eq_false h, Bool.false_and]
theorem rgt_bad {n : Int} {rs : List Rul} {i : Nat} (hi : i < rs.length) (h : rck n (rs.getD i r0) = false) : rgt n rs = false := by
 unfold rgt
 rw [Bool.and_eq_false_iff]; right
 rw [List.all_eq_false]
 exact ⟨_, Y3 hi, by rw [h]; decide⟩
theorem rgt_ok {n : Int} {rs : List Rul} (h : 0 ≤ n ∧ n ≤ 12) (h2 : ∀ r, r ∈ rs → rck n r = true) : rgt n rs = true := by
 unfold rgt; rw [decide_eq_true h, Bool.true_and, List.all_eq_true]; exact h2
theorem rgt_iff {n : Int} {rs : List Rul} : rgt n rs = true ↔ (0 ≤ n ∧ n ≤ 12) ∧ ∀ r, r ∈ rs → rck n r = true := by
 unfold rgt; rw [Bool.and_eq_true, decide_eq_true_eq, List.all_eq_true]
theorem fRight_spec {x : SW} (H : Ze) (n : Int) (rs : List Rul) (hR : ∀ r, r ∈ rs → r.steps.length ≤ 1000000) (hn : rs.length ≤ 1000000) : F (psys x) 105 [iI n, fzR rs] H fun v G => v = .bool (rgt n rs) ∧ G = H := by
 refine Zp Tryd.func105 rfl u25 rfl ?_
 refine Zc (Za (Lk u25 (.bool false) ?_))
 refine Zd (Zb (Zc (Zc (Za (Lm u25 ?_)))))
 refine Lo u25 rfl ?_
 refine Lm u25 ?_
 refine ZB 8 (env1 := u25) (env2 := u25) rfl rfl rfl (fun hg1 => ?_) (fun hg1 => ?_)
 ·try simp only [qB, qN] at hg1
  refine Lf u25 ?_
  refine Lf u25 ?_
  refine Lo u25 (ZF (VVal.bool true) rfl rfl rfl) ?_
  refine Zd (Zb (ZN rfl rfl ?_))
  refine Zc (Za (Lk u25 (.bool false) ?_))
  refine Zd (Zb (Zj (Zl (W10 (.inr rfl) (Zf rfl rfl) ?_))))
  exact W29
 try simp only [qB, qN] at hg1
 refine Lm u25 ?_
 refine Lo u25 rfl ?_
 refine Lo u25 (ZY rfl rfl rfl) ?_
 refine Zd (Zb (Zi _ rfl (fun hc2 => ?_) (fun hc2 => ?_)))
 ·try simp only [qB, qN] at hc2
  refine Zc (Za (Lk u25 (.bool false) ?_))
  refine Zd (Zb (Zj (Zl (W10 (.inr rfl) (Zf rfl rfl) ?_))))
  exact W29
 try simp only [qB, qN] at hc2
 refine Zh (Zb (Zc (Zc (Za (Lk u25 (.int .i64 0) ?_)))))
 refine Zd (Zb (Zg (Zr (mk 25 33554396) (env' := u25) rfl ?_)))
 refine Zw (fun (m : Nat) => rs.length - m) (fun (m : Nat) => [(5, iI (m : Nat))]) (fun (m : Nat) G => (m ≤ rs.length ∧ ∀ i, i < m → rck n (rs.getD i r0) = true) ∧ G = H ++ []) 0 rfl ?_ ?_
 ·refine ⟨?_, rfl⟩
  exact ⟨Nat.zero_le _, fun i h => by omega⟩
 rintro m _ ⟨⟨hm, hr⟩, rfl⟩
 refine ZL (env' := u25) rfl ?_
 refine Zc (Zc (Za (Lm u25 ?_)))
 refine Lm u25 ?_
 refine Lo u25 rfl ?_
 refine Lo u25 rfl ?_
 refine Zd (Zb (Zi _ rfl (fun hc3 => ?_) (fun hc3 => ?_)))
 ·try simp only [qB, qN] at hc3
  refine Zh (Zb (Zc (Zg (Zc (Za (Lm u25 ?_))))))
  refine Lm u25 ?_
  refine Lm u25 ?_
  refine Lo u25 (W18 rfl rfl rfl rfl rfl rfl rfl) ?_
  refine Lo u25 (W2b rfl rfl rfl rfl rfl) ?_
  refine Zs rfl rfl rfl (by exact Zbg _ _ _ (hR _ (Y3 (by omega)))) ?_
  rintro _ _ ⟨rfl, rfl⟩
  refine Le u25 ?_
  refine Lo u25 rfl ?_
  refine Zd (Zb (Zi _ rfl (fun hc4 => ?_) (fun hc4 => ?_)))
  ·try simp only [qB, qN] at hc4
   refine Zc (Za (Lk u25 (.bool false) ?_))
   refine Zd (Zb (Zj (ZE (Zl (Ye (ZE (Zl (W10 (.inr rfl) (Zf rfl rfl) ?_))))))))
   exact W29
  try simp only [qB, qN] at hc4
  refine Zh (Zq (Zb (Za (Lm u25 ?_))))
  refine Lo u25 (W14 rfl rfl rfl) ?_
  refine La u25 ?_
  refine Zd (Zt (mk 25 33554396) (env' := u25) rfl ⟨m + 1, ?_, rfl, ?_⟩)
  ·first | omega | (simp only []; omega)
  exact ⟨⟨by omega, fun i hi => by by_cases e : i = m; (subst e; assumption); exact hr i (by omega)⟩, rfl⟩
 try simp only [qB, qN] at hc3
 refine Zz (ZA (Zu (Zy (Zb (Zc (Za (Lk u25 (.bool true) ?_)))))))
 refine Zd (Zb (Zj (W10 (.inr rfl) (Zf rfl rfl) ?_)))
 exact W29
theorem pck_1g {p : Pb} (h : ¬ (12 < p.who.length ∨ 64 < p.users ∨ 32 < p.rules.length)) (h2 : rgt p.who.length p.rules = false) : pck p = 1 := by
 unfold pck; rw [if_neg h]
 split
 ·rfl
 rw [if_neg]
 intro e
 rw [Bool.and_eq_true, List.all_eq_true (l := p.rules)] at e
 have := rgt_ok (n := p.who.length) (rs := p.rules) (by omega) e.2
 rw [h2] at this; cases this
theorem shr_64 (w : BitVec 64) : w >>> 64 = 0#64 := by
 rw [← BitVec.toNat_inj, BitVec.toNat_ushiftRight, Nat.shiftRight_eq_div_pow]
 exact Nat.div_eq_of_lt w.isLt
theorem okW_no {u f : Int} {w : BitVec 64} (h : ¬ w >>> u.toNat = 0#64) : okW u f w = false := by unfold okW; rw [decide_eq_false h, Bool.and_false]
theorem okW_no2 {u f : Int} {w : BitVec 64} (h : f < -1 ∨ u ≤ f) : okW u f w = false := by unfold okW; rw [decide_eq_false (by omega), Bool.false_and]
theorem okW_yes {u f : Int} {w : BitVec 64} (h1 : -1 ≤ f) (h2 : f < u) (h : w >>> u.toNat = 0#64) : okW u f w = true := by unfold okW; rw [decide_eq_true ⟨h1, h2⟩, decide_eq_true h]; rfl
theorem QE {x : SW} (H : Ze) (p : Pb) (hp : PbL p) : F (psys x) 62 [.agg (pbB p)] H fun v G => v = iI (pck p) ∧ G = H := by
 have hp1 := hp.u; have hp2 := hp.w; have hp3 := hp.f; have hp4 := hp.r
 refine Zp Tryd.func62 rfl u75 rfl ?_
 refine Zc (Za (Lo u75 (ZJ rfl rfl rfl) ?_))
 refine Lk u75 (.int .i64 0) ?_
 refine Zd (Zb (Zc (Za (Lo u75 rfl ?_))))
 refine Lo u75 (W2d rfl rfl rfl rfl) ?_
 refine Lo u75 rfl ?_
 refine La u75 ?_
 refine Zd (Zb (Zc (Zc (Za (Lm u75 ?_)))))
 refine Lo u75 rfl ?_
 refine Lm u75 ?_
 refine ZB 10 (env1 := u75) (env2 := u75) rfl rfl rfl (fun hg1 => ?_) (fun hg1 => ?_)
 ·try simp only [qB, qN] at hg1
  refine Lf u75 ?_
  refine Lf u75 ?_
  refine Lf u75 ?_
  refine Lo u75 (ZF (VVal.bool true) rfl rfl rfl) ?_
  refine Lm u75 ?_
  refine Lf u75 ?_
  refine Lf u75 ?_
  refine Lf u75 ?_
  refine Lf u75 ?_
  refine Lo u75 (ZF (VVal.bool true) rfl rfl rfl) ?_
  refine Zd (Zb (ZN rfl rfl ?_))
  refine Zc (Za (Lk u75 (.int .i64 2) ?_))
  refine Zd (Zb (Zj (Zl (W10 (.inr rfl) (Zf rfl rfl) ?_))))
  exact W2e
 try simp only [qB, qN] at hg1
 refine Lo u75 rfl ?_
 refine Lo u75 (W2d rfl rfl rfl rfl) ?_
 refine Lo u75 rfl ?_
 refine Lo u75 (ZY rfl rfl rfl) ?_
 refine Lm u75 ?_
 refine ZB 15 (env1 := u75) (env2 := u75) rfl rfl rfl (fun hg2 => ?_) (fun hg2 => ?_)
 ·try simp only [qB, qN] at hg2
  refine Lf u75 ?_
  refine Lf u75 ?_
  refine Lf u75 ?_
  refine Lf u75 ?_
  refine Lo u75 (ZF (VVal.bool true) rfl rfl rfl) ?_
  refine Zd (Zb (ZN rfl rfl ?_))
  refine Zc (Za (Lk u75 (.int .i64 2) ?_))
  refine Zd (Zb (Zj (Zl (W10 (.inr rfl) (Zf rfl rfl) ?_))))
  exact W2e
 try simp only [qB, qN] at hg2
 refine Lo u75 rfl ?_
 refine Lo u75 (W2d rfl rfl rfl rfl) ?_
 refine Lo u75 rfl ?_
 refine Lo u75 rfl ?_
 refine Lo u75 (ZY rfl rfl rfl) ?_
 refine Zd (Zb (Zi _ rfl (fun hc3 => ?_) (fun hc3 => ?_)))
 ·try simp only [qB, qN] at hc3
  refine Zc (Za (Lk u75 (.int .i64 2) ?_))
  refine Zd (Zb (Zj (Zl (W10 (.inr rfl) (Zf rfl rfl) ?_))))
  exact W2e
 try simp only [qB, qN] at hc3
 refine Zh (Zb (Zc (Zc (Za (Lo u75 rfl ?_)))))
 refine Lo u75 (W2d rfl rfl rfl rfl) ?_
 refine Lo u75 rfl ?_
 refine Lm u75 ?_
 refine ZB 24 (env1 := u75) (env2 := u75) rfl rfl rfl (fun hg4 => ?_) (fun hg4 => ?_)
 ·try simp only [qB, qN] at hg4
  refine Lf u75 ?_
  refine Lf u75 ?_
  refine Lf u75 ?_
  refine Lf u75 ?_
  refine Lf u75 ?_
  refine Lo u75 (ZF (VVal.bool true) rfl rfl rfl) ?_
  refine Lm u75 ?_
  refine Lf u75 ?_
  refine Lf u75 ?_
  refine Lf u75 ?_
  refine Lf u75 ?_
  refine Lf u75 ?_
  refine Lo u75 (ZF (VVal.bool true) rfl rfl rfl) ?_
  refine Zd (Zb (ZN rfl rfl ?_))
  refine Zc (Za (Lk u75 (.int .i64 1) ?_))
  refine Zd (Zb (Zj (Zl (W10 (.inr rfl) (Zf rfl rfl) ?_))))
  exact W2e
 try simp only [qB, qN] at hg4
 refine Lo u75 rfl ?_
 refine Lo u75 (W2d rfl rfl rfl rfl) ?_
 refine Lo u75 rfl ?_
 refine Lm u75 ?_
 refine Lo u75 rfl ?_
 refine Lo u75 (ZY rfl rfl rfl) ?_
 refine Lm u75 ?_
 refine ZB 31 (env1 := u75) (env2 := u75) rfl rfl rfl (fun hg5 => ?_) (fun hg5 => ?_)
 ·try simp only [qB, qN] at hg5
  refine Lf u75 ?_
  refine Lf u75 ?_
  refine Lf u75 ?_
  refine Lf u75 ?_
  refine Lf u75 ?_
  refine Lo u75 (ZF (VVal.bool true) rfl rfl rfl) ?_
  refine Zd (Zb (ZN rfl rfl ?_))
  refine Zc (Za (Lk u75 (.int .i64 1) ?_))
  refine Zd (Zb (Zj (Zl (W10 (.inr rfl) (Zf rfl rfl) ?_))))
  exact W2e
 try simp only [qB, qN] at hg5
 refine Lm u75 ?_
 refine Lo u75 rfl ?_
 refine Lo u75 (W2d rfl rfl rfl rfl) ?_
 refine Zs rfl rfl rfl (by exact fRight_spec _ _ _ hp.s hp4) ?_
 rintro _ _ ⟨rfl, rfl⟩
 refine Le u75 ?_
 refine Lo u75 rfl ?_
 refine Lo u75 (ZY rfl rfl rfl) ?_
 refine Zd (Zb (Zi _ rfl (fun hc6 => ?_) (fun hc6 => ?_)))
 ·try simp only [qB, qN] at hc6
  refine Zc (Za (Lk u75 (.int .i64 1) ?_))
  refine Zd (Zb (Zj (Zl (W10 (.inr rfl) (Zf rfl rfl) ?_))))
  exact W2e
 try simp only [qB, qN] at hc6
 refine Zh (Zb (Zc (Zc ?_)))
 have hn1 : ¬ (12 < p.who.length ∨ 64 < p.users ∨ 32 < p.rules.length) := by omega
 have hn2 : ¬ (p.users < 0 ∨ p.fixed.length ≠ p.who.length) := by omega
 have hgt : rgt p.who.length p.rules = true := by assumption
 refine Za (Lk u75 (.int .i64 0) ?_)
 refine Zd (Zb (Zg (Zr (mk 75 37778931862957161709541) (env' := u75) rfl ?_)))
 refine Zw (fun (k : Nat) => p.who.length - k) (fun (k : Nat) => [(4, iI (k : Nat))]) (fun (k : Nat) G => (k ≤ p.who.length ∧ ∀ i, i < k → okW p.users (p.fixed.getD i 0) (p.who.getD i 0) = true) ∧ G = H ++ [.cells (pbB p) true]) 0 rfl ?_ ?_
 ·refine ⟨?_, rfl⟩
  exact ⟨Nat.zero_le _, fun i h => by omega⟩
 rintro k _ ⟨⟨hk, hw⟩, rfl⟩
 refine ZL (env' := u75) rfl ?_
 refine Zc (Zc (Za (Lm u75 ?_)))
 refine Lm u75 ?_
 refine Lo u75 rfl ?_
 refine Zd (Zb (Zi _ rfl (fun hc7 => ?_) (fun hc7 => ?_)))
 ·try simp only [qB, qN] at hc7
  refine Zh (Zb (Zc (Zg (Zc (ZK [0, 1, 2, 3, 4, 5, 6, 7, 8, 9, 10, 11, 12, 13, 14, 15, 16, 17, 18, 19, 20, 21, 22, 23, 24, 25, 26, 27, 28, 29, 30, 31] #[0, 1, 0, 7, 15, 31, 63, 127, 255, 127, 1023, 2047, 127, 4223, 16383, 32767, 65535, 131071, 262143, 524287, 1048575, 2097151, 4194303, 2097151, 16777215, 33554431, 2097151, 69206015, 268435455, 536870911, 1073741823, 2147483647] XH3 XH3 XH3 ?_)))))
  refine Oc u75 rfl rfl ?_
  refine Ok u75 rfl (W2d rfl rfl rfl rfl) ?_
  refine Om u75 ?_
  refine Oc u75 rfl (W18 rfl rfl rfl rfl rfl rfl rfl) ?_
  refine Ok u75 rfl (W2d rfl rfl rfl rfl) ?_
  refine Oc u75 rfl rfl ?_
  refine Om u75 ?_
  refine Xi 49 (env1 := u75) (env2 := u75) rfl rfl rfl (fun hg8 => ?_) (fun hg8 => ?_)
  ·try simp only [qB, qN] at hg8
   refine Of u75 rfl ?_
   refine Of u75 rfl ?_
   refine Of u75 rfl ?_
   refine Of u75 rfl ?_
   refine Of u75 rfl ?_
   refine Of u75 rfl ?_
   refine Of u75 rfl ?_
   refine Of u75 rfl ?_
   refine Oc u75 rfl (ZF (VVal.bool true) rfl rfl rfl) ?_
   refine Om u75 ?_
   refine Of u75 rfl ?_
   refine Of u75 rfl ?_
   refine Of u75 rfl ?_
   refine Of u75 rfl ?_
   refine Of u75 rfl ?_
   refine Of u75 rfl ?_
   refine Of u75 rfl ?_
   refine Of u75 rfl ?_
   refine Of u75 rfl ?_
   refine Of u75 rfl ?_
   refine Of u75 rfl ?_
   refine Of u75 rfl ?_
   refine Of u75 rfl ?_
   refine Of u75 rfl ?_
   refine Oc u75 rfl (ZF (VVal.bool true) rfl rfl rfl) ?_
   refine ZW [] XH3 (trivial) ?_
   refine Zb (ZN rfl rfl ?_)
   refine Zc (Za (Lk u75 (.int .i64 1) ?_))
   refine Zd (Zb (Zj (ZE (Zl (Ye (ZE (Zl (W10 (.inr rfl) (Zf rfl rfl) ?_))))))))
   exact W2e
  try simp only [qB, qN] at hg8
  refine Oc u75 rfl rfl ?_
  refine Ok u75 rfl (W2d rfl rfl rfl rfl) ?_
  refine Om u75 ?_
  refine Oc u75 rfl (W18 rfl rfl rfl rfl rfl rfl rfl) ?_
  refine Ok u75 rfl (W2d rfl rfl rfl rfl) ?_
  refine Oc u75 rfl rfl ?_
  refine Ok u75 rfl (W2d rfl rfl rfl rfl) ?_
  refine Oc u75 rfl rfl ?_
  refine Oc u75 rfl (ZY rfl rfl rfl) ?_
  refine Om u75 ?_
  refine Xi 59 (env1 := u75) (env2 := u75) rfl rfl rfl (fun hg9 => ?_) (fun hg9 => ?_)
  ·try simp only [qB, qN] at hg9
   refine Of u75 rfl ?_
   refine Of u75 rfl ?_
   refine Of u75 rfl ?_
   refine Of u75 rfl ?_
   refine Of u75 rfl ?_
   refine Of u75 rfl ?_
   refine Of u75 rfl ?_
   refine Of u75 rfl ?_
   refine Of u75 rfl ?_
   refine Of u75 rfl ?_
   refine Of u75 rfl ?_
   refine Of u75 rfl ?_
   refine Of u75 rfl ?_
   refine Of u75 rfl ?_
   refine Oc u75 rfl (ZF (VVal.bool true) rfl rfl rfl) ?_
   refine ZW [] XH3 (trivial) ?_
   refine Zb (ZN rfl rfl ?_)
   refine Zc (Za (Lk u75 (.int .i64 1) ?_))
   refine Zd (Zb (Zj (ZE (Zl (Ye (ZE (Zl (W10 (.inr rfl) (Zf rfl rfl) ?_))))))))
   exact W2e
  try simp only [qB, qN] at hg9
  refine Oc u75 rfl rfl ?_
  refine Ok u75 rfl (W2d rfl rfl rfl rfl) ?_
  refine Oc u75 rfl rfl ?_
  refine Om u75 ?_
  refine Xi 63 (env1 := u75) (env2 := u75) rfl rfl rfl (fun hg10 => ?_) (fun hg10 => ?_)
  ·try simp only [qB, qN] at hg10
   refine Oc u75 rfl rfl ?_
   refine Ok u75 rfl (W2d rfl rfl rfl rfl) ?_
   refine Om u75 ?_
   refine Oc u75 rfl (W18 rfl rfl rfl rfl rfl rfl rfl) ?_
   refine Ok u75 rfl (W2d rfl rfl rfl rfl) ?_
   refine Oc u75 rfl rfl ?_
   refine Ok u75 rfl (W2d rfl rfl rfl rfl) ?_
   refine Oc u75 rfl (Xd rfl rfl rfl XH4) ?_
   refine Oc u75 rfl rfl ?_
   refine Oc u75 rfl (ZM rfl rfl rfl) ?_
   refine Oc u75 rfl (ZY rfl rfl rfl) ?_
   refine ZW [] XH3 (trivial) ?_
   refine Zb (Zi _ rfl (fun hc11 => ?_) (fun hc11 => ?_))
   ·try simp only [qB, qN] at hc11
    refine Zc (Za (Lk u75 (.int .i64 1) ?_))
    refine Zd (Zb (Zj (ZE (Zl (Ye (ZE (Zl (W10 (.inr rfl) (Zf rfl rfl) ?_))))))))
    exact W2e
   try simp only [qB, qN] at hc11
   refine Zh (Zq (Zb (Za (Lm u75 ?_))))
   refine Lo u75 (W14 rfl rfl rfl) ?_
   refine La u75 ?_
   refine Zd (Zt (mk 75 37778931862957161709541) (env' := u75) rfl ⟨k + 1, ?_, rfl, ?_⟩)
   ·first | omega | (simp only []; omega)
   exact ⟨⟨by omega, fun i hi => by by_cases e : i = k; (subst e; exact okW_yes (by omega) (by omega) (by first | assumption | (have e64 : p.users = 64 := by omega); rw [e64]; exact shr_64 _)); exact hw i (by omega)⟩, rfl⟩
  try simp only [qB, qN] at hg10
  refine Of u75 rfl ?_
  refine Of u75 rfl ?_
  refine Of u75 rfl ?_
  refine Of u75 rfl ?_
  refine Of u75 rfl ?_
  refine Of u75 rfl ?_
  refine Of u75 rfl ?_
  refine Of u75 rfl ?_
  refine Of u75 rfl ?_
  refine Oc u75 rfl (ZC (VVal.bool false) rfl rfl rfl) ?_
  refine Oc u75 rfl (ZY rfl rfl rfl) ?_
  refine ZW [] XH3 (trivial) ?_
  refine Zb (Yc rfl rfl ?_)
  refine Zh (Zq (Zb (Za (Lm u75 ?_))))
  refine Lo u75 (W14 rfl rfl rfl) ?_
  refine La u75 ?_
  refine Zd (Zt (mk 75 37778931862957161709541) (env' := u75) rfl ⟨k + 1, ?_, rfl, ?_⟩)
  ·first | omega | (simp only []; omega)
  exact ⟨⟨by omega, fun i hi => by by_cases e : i = k; (subst e; exact okW_yes (by omega) (by omega) (by first | assumption | (have e64 : p.users = 64 := by omega); rw [e64]; exact shr_64 _)); exact hw i (by omega)⟩, rfl⟩
 try simp only [qB, qN] at hc7
 refine Zz (ZA (Zu (Zy (Zb (Zc (Za (Lk u75 (.int .i64 0) ?_)))))))
 refine Zd (Zb (Zj (W10 (.inr rfl) (Zf rfl rfl) ?_)))
 exact W2e
theorem W2i {P : Prop} (h : P := by first | exact ⟨by rw [wrd_f (by assumption)], rfl⟩ | exact ⟨by rw [wrd_w (by omega)], rfl⟩) : P := h
theorem flk_2 {u f x : Int} {w : BitVec 64} (h : x < 0 ∨ u ≤ x) : flk u f w x = 2 := if_pos h
theorem flk_3 {u f x : Int} {w : BitVec 64} (h : ¬ (x < 0 ∨ u ≤ x)) (h2 : 0 ≤ f) (h3 : ¬ f = x) : flk u f w x = 3 := by unfold flk; rw [if_neg h, if_pos ⟨h2, h3⟩]
theorem flk_4 {u f x : Int} {w : BitVec 64} (h : ¬ (x < 0 ∨ u ≤ x)) (h2 : f < 0) (h3 : w.getLsbD x.toNat = false) : flk u f w x = 4 := by unfold flk; rw [if_neg h, if_neg (by omega), if_pos ⟨h2, h3⟩]
theorem flk_0a {u f x : Int} {w : BitVec 64} (h : ¬ (x < 0 ∨ u ≤ x)) (h2 : 0 ≤ f) (h3 : f = x) : flk u f w x = 0 := by unfold flk; rw [if_neg h, if_neg (by omega), if_neg (by omega)]
theorem flk_0b {u f x : Int} {w : BitVec 64} (h : ¬ (x < 0 ∨ u ≤ x)) (h2 : f < 0) (h3 : w.getLsbD x.toNat = true) : flk u f w x = 0 := by unfold flk; rw [if_neg h, if_neg (by omega), if_neg (by rw [h3]; simp)]
theorem flw_len {p : Pb} {l : List Int} (h : ¬ l.length = p.who.length) : flw p l = [(1, 0, 0)] := if_pos h
theorem flw_in {p : Pb} {l : List Int} (h : l.length = p.who.length) : flw p l = flU p l l.length ++ flR (brk p.rules l) := if_neg (by simpa using h)
section
variable {T : TypeId → Option VTy} {ρ : Operand → VVal} {H : Ze} {op : Op}
end
def wrd (p : Pb) (i : Nat) : BitVec 64 := if 0 ≤ p.fixed.getD i 0 then 1#64 <<< (p.fixed.getD i 0).toNat else p.who.getD i 0
theorem wrd_f {p : Pb} {i : Nat} (h : 0 ≤ p.fixed.getD i 0) : wrd p i = 1#64 <<< (p.fixed.getD i 0).toNat := if_pos h
theorem wrd_w {p : Pb} {i : Nat} (h : p.fixed.getD i 0 < 0) : wrd p i = p.who.getD i 0 := if_neg (by omega)
theorem one_shl {n k : Nat} : (1#64 <<< n).getLsbD k = (decide (k = n) && decide (k < 64)) := by
 rw [BitVec.getLsbD_shiftLeft, BitVec.getLsbD_one]
 by_cases h : k = n
 ·subst h; simp
 by_cases h2 : k < n
 ·simp [h, h2]
 have : ¬ k - n = 0 := by omega
 simp [h, this]
theorem high_bit {w : BitVec 64} {u k : Nat} (h : w >>> u = 0#64) (hk : u ≤ k) : w.getLsbD k = false := by
 have : (w >>> u).getLsbD (k - u) = false := by rw [h]; simp
 rw [BitVec.getLsbD_ushiftRight] at this
 rwa [show u + (k - u) = k by omega] at this
theorem has_flk {p : Pb} {i : Nat} {u : Int} (g : Go.V.Good p) (hi : i < p.who.length) : (decide (0 ≤ u ∧ u < 64) && (wrd p i).getLsbD u.toNat) = decide (flk p.users (p.fixed.getD i 0) (p.who.getD i 0) u = 0) := by
 have hok := g.ok i hi
 unfold okW at hok
 rw [Bool.and_eq_true, decide_eq_true_eq, decide_eq_true_eq] at hok
 have g2 := g.u64; have g4 := g.u0
 by_cases hu : u < 0 ∨ p.users ≤ u
 ·rw [flk_2 hu, show decide ((2 : Int) = 0) = false from rfl]
  by_cases h0 : 0 ≤ u ∧ u < 64
  ·rw [decide_eq_true h0, Bool.true_and]
   by_cases hf : 0 ≤ p.fixed.getD i 0
   ·rw [wrd_f hf, one_shl, decide_eq_false (by omega), Bool.false_and]
   rw [wrd_w (by omega)]
   exact high_bit hok.2 (by omega)
  rw [decide_eq_false h0, Bool.false_and]
 rw [decide_eq_true (by omega : 0 ≤ u ∧ u < 64), Bool.true_and]
 by_cases hf : 0 ≤ p.fixed.getD i 0
 ·rw [wrd_f hf, one_shl, show decide (u.toNat < 64) = true from decide_eq_true (by omega), Bool.and_true]
  by_cases e : p.fixed.getD i 0 = u
  ·rw [flk_0a hu hf e, decide_eq_true (by omega)]; rfl
  rw [flk_3 hu hf e, decide_eq_false (by omega)]; rfl
 rw [wrd_w (by omega)]
 cases hb : (p.who.getD i 0).getLsbD u.toNat with
 | true => rw [flk_0b hu (by omega) hb]; rfl
 | false => rw [flk_4 hu (by omega) hb]; rfl
def hds (p : Pb) (us : List Int) : Bool := decide (pck p = 0) && decide (flw p us = [])
theorem Zdl {x : SW} (H : Ze) (p : Pb) (i : Nat) (h1 : i < p.fixed.length) (h2 : i < p.who.length) : F (psys x) 64 [.agg (pbB p), iI (i : Nat)] H fun v G => v = iW (wrd p i) ∧ G = H := by
 refine Zp Tryd.func64 rfl u20 rfl ?_
 refine Zc (Za (Lo u20 (ZJ rfl rfl rfl) ?_))
 refine Lk u20 (.int .u64 0) ?_
 refine Zd (Zb (Zc (Zc (Za (Lo u20 rfl ?_)))))
 refine Lo u20 (W2d rfl rfl rfl rfl) ?_
 refine Lm u20 ?_
 refine Lo u20 (W18 rfl rfl rfl rfl rfl rfl rfl) ?_
 refine Lo u20 (W2d rfl rfl rfl rfl) ?_
 refine La u20 ?_
 refine Zd (Zb (Zc (Za (Lm u20 ?_))))
 refine Lo u20 rfl ?_
 refine Zd (Zb (Zi _ rfl (fun hc1 => ?_) (fun hc1 => ?_)))
 ·try simp only [qB, qN] at hc1
  refine Zc (Za (Lm u20 ?_))
  refine Lo u20 (Qh rfl rfl rfl XH4) ?_
  refine La u20 ?_
  refine Zd (Zb (Zj (Zl (W10 (.inr rfl) (Zf rfl rfl) ?_))))
  exact W2i
 try simp only [qB, qN] at hc1
 refine Zh (Zb (Zc (Za (Lo u20 rfl ?_))))
 refine Lo u20 (W2d rfl rfl rfl rfl) ?_
 refine Lm u20 ?_
 refine Lo u20 (W18 rfl rfl rfl rfl rfl rfl rfl) ?_
 refine Lo u20 (W2d rfl rfl rfl rfl) ?_
 refine La u20 ?_
 refine Zd (Zb (Zj (W10 (.inr rfl) (Zf rfl rfl) ?_)))
 exact W2i
abbrev ZD {a0 a1 a2 a3 a4 a5 a6 a7 a8 a9 a10 a11 a12 a13 a14 a15 a16 a17 a18 a19 a20 a21 a22 a23 a24 a25 a26 a27 a28 a29 a30 a31 a32 a33 a34 a35 a36 a37 a38 a39 a40 a41 a42 a43 a44 a45 a46 a47 a48 a49 a50 a51 a52 a53 a54 a55 a56 a57 a58 a59 a60 a61 a62 a63 a64 a65 a66 a67 a68 a69 a70 a71 a72 a73 a74 a75 a76 a77 a78 a79 a80 a81 a82 a83 a84 a85 a86 a87 a88 a89 a90 a91 a92 a93 a94 a95 a96 a97 a98 a99 a100 a101 : VVal} : VEnv := a0 :: a1 :: a2 :: a3 :: a4 :: a5 :: a6 :: a7 :: a8 :: a9 :: a10 :: a11 :: a12 :: a13 :: a14 :: a15 :: a16 :: a17 :: a18 :: a19 :: a20 :: a21 :: a22 :: a23 :: a24 :: a25 :: a26 :: a27 :: a28 :: a29 :: a30 :: a31 :: a32 :: a33 :: a34 :: a35 :: a36 :: a37 :: a38 :: a39 :: a40 :: a41 :: a42 :: a43 :: a44 :: a45 :: a46 :: a47 :: a48 :: a49 :: a50 :: a51 :: a52 :: a53 :: a54 :: a55 :: a56 :: a57 :: a58 :: a59 :: a60 :: a61 :: a62 :: a63 :: a64 :: a65 :: a66 :: a67 :: a68 :: a69 :: a70 :: a71 :: a72 :: a73 :: a74 :: a75 :: a76 :: a77 :: a78 :: a79 :: a80 :: a81 :: a82 :: a83 :: a84 :: a85 :: a86 :: a87 :: a88 :: a89 :: a90 :: a91 :: a92 :: a93 :: a94 :: a95 :: a96 :: a97 :: a98 :: a99 :: a100 :: a101 :: []
theorem W2o {S : V.Sys} {H : Ze} {fn : Func} {ex : Exit} {env : VEnv} {B L : Ze} {v : VVal} {R : VVal → Ze → Prop} (hx : ex = .normal ∨ ex = .ret) (hv : ZX S.C.T env (B ++ L) fn.results = some v) (h : R v B) (hB : BaseOk H B := by exact XH41) (hu : v.under H.length = true := by first | rfl | exact Jb (p := cutP p)) : fnK S fn H R ex env (B ++ L) := Xk hx hv hB hu h
abbrev Yj : VVal := .slice none 0 0 true 0
abbrev pqB (u : Int) (a b c : VVal) : VBlk := .cells [iI u, a, b, c] true
def Zbu (r : Rul) : Rul := (r.kind, r.k, r.steps.take 20, ())
def cutP (p : Pb) : Pb := (p.users, p.who.take 20, p.fixed.take 20, (p.rules.take 40).map Zbu, ())
theorem Xy {α : Type} {l : List α} {k m : Nat} (h1 : k ≤ m) (h2 : ¬ (k < l.length ∧ k < m)) : l.take k = l.take m := by
 by_cases h : k = m
 ·rw [h]
 rw [List.take_of_length_le (by omega), List.take_of_length_le (by omega)]
theorem Zdi {l : List Rul} {m : Nat} (h : m < l.length) : (l.take (m + 1)).map Zbu = (l.take m).map Zbu ++ [Zbu (l.getD m r0)] := by rw [Yf (d := r0) h, List.map_append]; rfl
theorem cutP_L {p : Pb} (h : -9223372036854775808 ≤ p.users ∧ p.users < 9223372036854775808) : PbL (cutP p) :=
 ⟨h, by show (List.take 20 _).length ≤ _; rw [List.length_take]; omega, by show (List.take 20 _).length ≤ _; rw [List.length_take]; omega, by show ((List.take 40 _).map Zbu).length ≤ _; rw [List.length_map, List.length_take]; omega,
  fun r hr => by
   obtain ⟨r1, _, rfl⟩ := List.mem_map.1 hr
   show (List.take 20 _).length ≤ _
   rw [List.length_take]; omega⟩
theorem Cut_spec {x : SW} (H : Ze) (p : Pb) : F (psys x) 19 [.agg (pbB p)] H fun v G => v = .agg (pbB (cutP p)) ∧ G = H := by
 refine Zp Tryd.func19 rfl ZD rfl ?_
 refine Zc (Za (Lo ZD (ZJ rfl rfl rfl) ?_))
 refine Lo ZD (ZP rfl rfl) ?_
 refine Zd (Zb (Zc (Za (L_gh (Gh.freezePtrL (cs := pbB p) 1 0 rfl rfl rfl) ?_))))
 refine Lo ZD rfl ?_
 refine Lo ZD (W1p rfl rfl rfl rfl) ?_
 refine Lo ZD rfl ?_
 refine Lo ZD (ZP rfl rfl) ?_
 refine Lo ZD (W13 rfl rfl rfl rfl rfl rfl rfl) ?_
 refine Zd (Zb (ZcC (mk 102 5070602400912917605986812821489) (fun (u0 : Unit) => []) (fun (u0 : Unit) G => (True) ∧ ∃ lv X, G = (H ++ [VBlk.dead, pqB 0 Yj Yj Yj, pqB p.users lv Yj Yj]) ++ X ∧ LV (H.length + 3) 1 X lv ((p.who.take 20).map iW) (p.who.take 20).length) ?_ ?_))
 ·skip
  refine Zc (Za (Lk ZD (.int .i64 0) ?_))
  refine Zd (Zb (Zg (Zr (mk 102 5070602400912917605986812821473) (env' := ZD) rfl ?_)))
  refine Zw (fun (k : Nat) => p.who.length - k) (fun (k : Nat) => [(4, iI (k : Nat))]) (fun (k : Nat) G => (k ≤ p.who.length ∧ k ≤ 20) ∧ ∃ lv X, G = (H ++ [VBlk.dead, pqB 0 Yj Yj Yj, pqB p.users lv Yj Yj]) ++ X ∧ LV (H.length + 3) 1 X lv (((p.who).take k).map iW) ((p.who).take k).length) 0 rfl ?_ ?_
  ·refine ⟨?_, ⟨_, [], (List.append_nil _).symm, LV.nil _ _ _⟩⟩
   exact ⟨Nat.zero_le _, Nat.zero_le _⟩
  rintro k _ ⟨⟨hk1, hk2⟩, ⟨lv, X, rfl, hl⟩⟩
  refine ZL (env' := ZD) rfl ?_
  refine Zc (Zc (Za (Lm ZD ?_)))
  refine Lo ZD rfl ?_
  refine Lo ZD (W1p rfl rfl rfl rfl) ?_
  refine Lo ZD rfl ?_
  refine Lo ZD rfl ?_
  refine Lm ZD ?_
  refine ZB 18 (env1 := ZD) (env2 := ZD) rfl rfl rfl (fun hg1 => ?_) (fun hg1 => ?_)
  rotate_left
  ·try simp only [qB, qN] at hg1
   refine Lf ZD ?_
   refine Lf ZD ?_
   refine Lo ZD (ZC (VVal.bool false) rfl rfl rfl) ?_
   refine Zd (Zb (Yc rfl rfl ?_))
   refine Zz (ZA (Zu (Zy (Zt (mk 102 5070602400912917605986812821489) (env' := ZD) rfl ⟨(), rfl, ?_⟩))))
   exact ⟨trivial, _, _, rfl, by rw [← Xy (m := 20) hk2 (by omega)]; exact hl⟩
  try simp only [qB, qN] at hg1
  refine Lm ZD ?_
  refine Lo ZD rfl ?_
  refine Lo ZD (ZM rfl rfl rfl) ?_
  refine Zd (Zb (Zi _ rfl (fun hc2 => ?_) (fun hc2 => ?_)))
  ·try simp only [qB, qN] at hc2
   refine Zh (Zb (Zc (Zg (ZK [0, 1, 2, 3, 4, 5, 6, 7, 8, 9, 10] #[0, 1, 0, 4, 0, 28, 60, 124, 255, 511, 1023] XH3 XH3 XH3 ?_))))
   refine Oc ZD rfl rfl ?_
   refine Ok ZD rfl (W1p rfl rfl rfl rfl) ?_
   refine Oc ZD rfl rfl ?_
   refine Ok ZD rfl (W1p rfl rfl rfl rfl) ?_
   refine Om ZD ?_
   refine Oc ZD rfl (W18 rfl rfl rfl rfl rfl rfl rfl) ?_
   refine Ok ZD rfl (W1p rfl rfl rfl rfl) ?_
   refine Oo ZD .grow rfl (Zv rfl rfl (by decide) rfl) ?_
   refine O_opX .turn rfl rfl rfl (Xt rfl rfl rfl rfl rfl rfl rfl (by simp) hl rfl rfl (by decide) XH22 (by decide)) rfl rfl ?_
   rintro _ _ ⟨Y1, rfl, rfl, hY1, hY2, hY3⟩
   refine Zbr (env' := ZD) rfl ?_
   refine Oc ZD rfl rfl ?_
   refine Oo ZD .turn rfl (W13 rfl rfl rfl rfl rfl rfl rfl) ?_
   refine ZW [] XH3 (trivial) ?_
   refine Zq (Zb (Za (Lm ZD ?_)))
   refine Lo ZD (W14 rfl rfl rfl) ?_
   refine La ZD ?_
   refine Zd (Zt (mk 102 5070602400912917605986812821473) (env' := ZD) rfl ⟨k + 1, ?_, rfl, ?_⟩)
   ·first | omega | (simp only []; omega)
   exact ⟨⟨by omega, by omega⟩, _, _, rfl, by rw [Yf (d := 0) (by omega)]; exact LV.pushW hY3⟩
  try simp only [qB, qN] at hc2
  refine Zz (ZA (Zu (Zy (Zt (mk 102 5070602400912917605986812821489) (env' := ZD) rfl ⟨(), rfl, ?_⟩))))
  exact ⟨trivial, _, _, rfl, by rw [← Xy (m := 20) hk2 (by omega)]; exact hl⟩
 rintro u0 _ ⟨_, ⟨lv, X, rfl, hl⟩⟩
 refine ZL (env' := ZD) rfl ?_
 refine ZcC (mk 102 5070602400912917605986812821489) (fun (u0 : Unit) => []) (fun (u0 : Unit) G => (True) ∧ ∃ lv X, G = (H ++ [VBlk.dead, pqB 0 Yj Yj Yj, pqB p.users (fzW (p.who.take 20)) lv Yj]) ++ X ∧ LV (H.length + 3) 1 X lv ((p.fixed.take 20).map iI) (p.fixed.take 20).length) ?_ ?_
 ·skip
  refine Zc (Ji 2 1 hl rfl rfl (by simp) fun X1 _ _ => ?_)
  refine Za (Lk ZD (.int .i64 0) ?_)
  refine Zd (Zb (Zg (Zr (mk 102 5070602400912917605986812821457) (env' := ZD) rfl ?_)))
  refine Zw (fun (j : Nat) => p.fixed.length - j) (fun (j : Nat) => [(5, iI (j : Nat))]) (fun (j : Nat) G => (j ≤ p.fixed.length ∧ j ≤ 20) ∧ ∃ lv X, G = (H ++ [VBlk.dead, pqB 0 Yj Yj Yj, pqB p.users (fzW (p.who.take 20)) lv Yj]) ++ X ∧ LV (H.length + 3) 1 X lv (((p.fixed).take j).map iI) ((p.fixed).take j).length) 0 rfl ?_ ?_
  ·refine ⟨?_, ⟨_, X1, rfl, LV.nil _ _ _⟩⟩
   exact ⟨Nat.zero_le _, Nat.zero_le _⟩
  rintro j _ ⟨⟨hj1, hj2⟩, ⟨lv, X, rfl, hl⟩⟩
  refine ZL (env' := ZD) rfl ?_
  refine Zc (Zc (Za (Lm ZD ?_)))
  refine Lo ZD rfl ?_
  refine Lo ZD (W1p rfl rfl rfl rfl) ?_
  refine Lo ZD rfl ?_
  refine Lo ZD rfl ?_
  refine Lm ZD ?_
  refine ZB 39 (env1 := ZD) (env2 := ZD) rfl rfl rfl (fun hg3 => ?_) (fun hg3 => ?_)
  rotate_left
  ·try simp only [qB, qN] at hg3
   refine Lf ZD ?_
   refine Lf ZD ?_
   refine Lo ZD (ZC (VVal.bool false) rfl rfl rfl) ?_
   refine Zd (Zb (Yc rfl rfl ?_))
   refine Zz (ZA (Zu (Zy (Zt (mk 102 5070602400912917605986812821489) (env' := ZD) rfl ⟨(), rfl, ?_⟩))))
   exact ⟨trivial, _, _, rfl, by rw [← Xy (m := 20) hj2 (by omega)]; exact hl⟩
  try simp only [qB, qN] at hg3
  refine Lm ZD ?_
  refine Lo ZD rfl ?_
  refine Lo ZD (ZM rfl rfl rfl) ?_
  refine Zd (Zb (Zi _ rfl (fun hc4 => ?_) (fun hc4 => ?_)))
  ·try simp only [qB, qN] at hc4
   refine Zh (Zb (Zc (Zg (ZK [0, 1, 2, 3, 4, 5, 6, 7, 8, 9, 10] #[0, 1, 0, 4, 0, 28, 60, 124, 255, 511, 1023] XH3 XH3 XH3 ?_))))
   refine Oc ZD rfl rfl ?_
   refine Ok ZD rfl (W1p rfl rfl rfl rfl) ?_
   refine Oc ZD rfl rfl ?_
   refine Ok ZD rfl (W1p rfl rfl rfl rfl) ?_
   refine Om ZD ?_
   refine Oc ZD rfl (W18 rfl rfl rfl rfl rfl rfl rfl) ?_
   refine Ok ZD rfl (W1p rfl rfl rfl rfl) ?_
   refine Oo ZD .grow rfl (Zv rfl rfl (by decide) rfl) ?_
   refine O_opX .turn rfl rfl rfl (Xt rfl rfl rfl rfl rfl rfl rfl (by simp) hl rfl rfl (by decide) XH22 (by decide)) rfl rfl ?_
   rintro _ _ ⟨Y1, rfl, rfl, hY1, hY2, hY3⟩
   refine Zbr (env' := ZD) rfl ?_
   refine Oc ZD rfl rfl ?_
   refine Oo ZD .turn rfl (W13 rfl rfl rfl rfl rfl rfl rfl) ?_
   refine ZW [] XH3 (trivial) ?_
   refine Zq (Zb (Za (Lm ZD ?_)))
   refine Lo ZD (W14 rfl rfl rfl) ?_
   refine La ZD ?_
   refine Zd (Zt (mk 102 5070602400912917605986812821457) (env' := ZD) rfl ⟨j + 1, ?_, rfl, ?_⟩)
   ·first | omega | (simp only []; omega)
   exact ⟨⟨by omega, by omega⟩, _, _, rfl, by rw [Yf (d := 0) (by omega)]; exact LV.pushI hY3⟩
  try simp only [qB, qN] at hc4
  refine Zz (ZA (Zu (Zy (Zt (mk 102 5070602400912917605986812821489) (env' := ZD) rfl ⟨(), rfl, ?_⟩))))
  exact ⟨trivial, _, _, rfl, by rw [← Xy (m := 20) hj2 (by omega)]; exact hl⟩
 rintro u0 _ ⟨_, ⟨lv, X, rfl, hl⟩⟩
 refine ZL (env' := ZD) rfl ?_
 refine ZcC (mk 102 5070602400912917605986812821491) (fun (u0 : Unit) => []) (fun (u0 : Unit) G => (True) ∧ ∃ lv X, G = (H ++ [VBlk.dead, pqB 0 Yj Yj Yj, pqB p.users (fzW (p.who.take 20)) (fzI (p.fixed.take 20)) lv]) ++ X ∧ LV (H.length + 3) 3 X lv (((p.rules.take 40).map Zbu).flatMap rlB) ((p.rules.take 40).map Zbu).length) ?_ ?_
 ·skip
  refine Zc (Ji 2 2 hl rfl rfl (by simp) fun X2 _ _ => ?_)
  refine Za (Lk ZD (.int .i64 0) ?_)
  refine Zd (Zb (Zg (Zr (mk 102 5070602400912917605986812821425) (env' := ZD) rfl ?_)))
  refine Zw (fun (m : Nat) => p.rules.length - m) (fun (m : Nat) => [(6, iI (m : Nat))]) (fun (m : Nat) G => (m ≤ p.rules.length ∧ m ≤ 40) ∧ ∃ lv X, G = (H ++ [VBlk.dead, pqB 0 Yj Yj Yj, pqB p.users (fzW (p.who.take 20)) (fzI (p.fixed.take 20)) lv]) ++ X ∧ LV (H.length + 3) 3 X lv (((p.rules.take m).map Zbu).flatMap rlB) ((p.rules.take m).map Zbu).length) 0 rfl ?_ ?_
  ·refine ⟨?_, ⟨_, X2, rfl, LV.nil _ _ _⟩⟩
   exact ⟨Nat.zero_le _, Nat.zero_le _⟩
  rintro m _ ⟨⟨hm1, hm2⟩, ⟨lv, X, rfl, hl⟩⟩
  refine ZL (env' := ZD) rfl ?_
  refine Zc (Zc (Za (Lm ZD ?_)))
  refine Lo ZD rfl ?_
  refine Lo ZD (W1p rfl rfl rfl rfl) ?_
  refine Lo ZD rfl ?_
  refine Lo ZD rfl ?_
  refine Lm ZD ?_
  refine ZB 60 (env1 := ZD) (env2 := ZD) rfl rfl rfl (fun hg5 => ?_) (fun hg5 => ?_)
  rotate_left
  ·try simp only [qB, qN] at hg5
   refine Lf ZD ?_
   refine Lf ZD ?_
   refine Lo ZD (ZC (VVal.bool false) rfl rfl rfl) ?_
   refine Zd (Zb (Yc rfl rfl ?_))
   refine Zz (ZA (Zu (Zy (Zt (mk 102 5070602400912917605986812821491) (env' := ZD) rfl ⟨(), rfl, ?_⟩))))
   exact ⟨trivial, _, _, rfl, by rw [← Xy (m := 40) hm2 (by omega)]; exact hl⟩
  try simp only [qB, qN] at hg5
  refine Lm ZD ?_
  refine Lo ZD rfl ?_
  refine Lo ZD (ZM rfl rfl rfl) ?_
  refine Zd (Zb (Zi _ rfl (fun hc6 => ?_) (fun hc6 => ?_)))
  ·try simp only [qB, qN] at hc6
   refine Zh (Zb (Zc (Zg (Zc (Za (Lo ZD rfl ?_))))))
   refine Lo ZD (W1p rfl rfl rfl rfl) ?_
   refine Lm ZD ?_
   refine Lo ZD (W18 rfl rfl rfl rfl rfl rfl rfl) ?_
   refine Lo ZD (W1t rfl rfl rfl rfl rfl) ?_
   refine Lo ZD (ZP rfl rfl) ?_
   refine Lo ZD (W13 rfl rfl rfl rfl rfl rfl rfl) ?_
   refine Zd (Zb (Zc (Ym (Gh.freezeEnd (cs := rlB (p.rules.getD m r0)) 7 rfl rfl) ?_)))
   refine Za (Lk ZD (.slice none 0 0 true 0) ?_)
   refine Zd (Zb (Zc (Zc (Za (Lk ZD (.int .i64 0) ?_)))))
   refine Zd (Zb (Zg (Zr (mk 102 5070602400912917605986812820529) (env' := ZD) rfl ?_)))
   refine Zw (fun (⟨k, sv⟩ : Nat × VVal) => (p.rules.getD m r0).steps.length - k) (fun (⟨k, sv⟩ : Nat × VVal) => [(8, sv), (9, iI (k : Nat))]) (fun (⟨k, sv⟩ : Nat × VVal) G => (k ≤ (p.rules.getD m r0).steps.length ∧ k ≤ 20) ∧ ∃ X, G = (H ++ [VBlk.dead, pqB 0 Yj Yj Yj, pqB p.users (fzW (p.who.take 20)) (fzI (p.fixed.take 20)) lv]) ++ X ∧ LV (H.length + 3) 3 X lv (((p.rules.take m).map Zbu).flatMap rlB) ((p.rules.take m).map Zbu).length ∧ LV (H.length + 3) 1 X sv (((p.rules.getD m r0).steps.take k).map iI) ((p.rules.getD m r0).steps.take k).length ∧ ∀ n, ZV lv = some n → ZV sv ≠ some n) ⟨0, _⟩ rfl ?_ ?_
   ·refine ⟨?_, ⟨X ++ [.dead], rfl, LV.app hl _, LV.nil _ _ _, fun n _ e => by cases e⟩⟩
    exact ⟨Nat.zero_le _, Nat.zero_le _⟩
   rintro ⟨k, sv⟩ _ ⟨⟨hk1, hk2⟩, ⟨X3, rfl, hl3, hs, hd⟩⟩
   refine ZL (env' := ZD) rfl ?_
   refine Zc (Zc (Za (Lm ZD ?_)))
   refine Lo ZD rfl ?_
   refine Lo ZD (W1p rfl rfl rfl rfl) ?_
   refine Lo ZD rfl ?_
   refine Lo ZD rfl ?_
   refine Lm ZD ?_
   refine ZB 76 (env1 := ZD) (env2 := ZD) rfl rfl rfl (fun hg7 => ?_) (fun hg7 => ?_)
   ·try simp only [qB, qN] at hg7
    refine Lm ZD ?_
    refine Lo ZD rfl ?_
    refine Lo ZD (ZM rfl rfl rfl) ?_
    refine Zd (Zb (Zi _ rfl (fun hc8 => ?_) (fun hc8 => ?_)))
    ·try simp only [qB, qN] at hc8
     refine Zh (Zb (Zc (Zg (Za (Lm ZD ?_)))))
     refine Lo ZD rfl ?_
     refine Lo ZD (W1p rfl rfl rfl rfl) ?_
     refine Lm ZD ?_
     refine Lo ZD (W18 rfl rfl rfl rfl rfl rfl rfl) ?_
     refine Lo ZD (W1p rfl rfl rfl rfl) ?_
     refine Lo ZD (Zv rfl rfl (by decide) rfl) ?_
     refine X7 rfl rfl (Xt rfl rfl rfl rfl rfl rfl rfl (by simp) hs rfl rfl (by decide) XH22 (by decide)) ?_
     rintro _ _ ⟨Y1, rfl, rfl, hY1, hY2, hY3⟩
     refine Le ZD ?_
     refine La ZD ?_
     refine Zd (Zq (Zb (Za (Lm ZD ?_))))
     refine Lo ZD (W14 rfl rfl rfl) ?_
     refine La ZD ?_
     refine Zd (Zt (mk 102 5070602400912917605986812820529) (env' := ZD) rfl ⟨⟨k + 1, _⟩, ?_, rfl, ?_⟩)
     ·first | omega | (simp only []; omega)
     exact ⟨⟨by omega, by omega⟩, _, rfl, LV.app (LV.keep hl3 hd hY2) _, by rw [Yf (d := 0) (by omega)]; exact LV.pushI hY3, LV.far hl3 (Nat.le_succ _)⟩
    try simp only [qB, qN] at hc8
    refine Zz (ZA (Zu (Zy (Zb ?_))))
    rw [Xy (m := 20) hk2 (by omega)] at hs
    refine B_ghLVh (env' := ZD) 8 hs (by simp) rfl rfl fun X4 hX4 hF4 => ?_
    have hl4 := LV.keep hl3 hd hF4
    refine Za (Lo ZD rfl ?_)
    refine Lo ZD (W1p rfl rfl rfl rfl) ?_
    refine Lo ZD rfl ?_
    refine Lo ZD (W1p rfl rfl rfl rfl) ?_
    refine Lo ZD rfl ?_
    refine Lo ZD (W1p rfl rfl rfl rfl) ?_
    refine Lm ZD ?_
    refine Lo ZD rfl ?_
    refine Lo ZD (Zv rfl rfl (by decide) rfl) ?_
    refine X7 rfl rfl (Xt rfl rfl rfl rfl rfl rfl rfl (by simp) hl4 rfl rfl (by decide) (by rw [List.length_map, List.length_take]; show (_ + 1) * 40 ≤ _ ∧ _ + 1 ≤ _; omega) (by decide)) ?_
    rintro _ _ ⟨Y1, rfl, rfl, hY1, hY2, hY3⟩
    refine Le ZD ?_
    refine Lo ZD rfl ?_
    refine Lo ZD (W13 rfl rfl rfl rfl rfl rfl rfl) ?_
    refine Zd (Zq (Zb (Za (Lm ZD ?_))))
    refine Lo ZD (W14 rfl rfl rfl) ?_
    refine La ZD ?_
    refine Zd (Zt (mk 102 5070602400912917605986812821425) (env' := ZD) rfl ⟨m + 1, ?_, rfl, ?_⟩)
    ·first | omega | (simp only []; omega)
    exact ⟨⟨by omega, by omega⟩, _, _, rfl, by rw [Zdi (by omega)]; exact LV.pushF hY3⟩
   try simp only [qB, qN] at hg7
   refine Lf ZD ?_
   refine Lf ZD ?_
   refine Lo ZD (ZC (VVal.bool false) rfl rfl rfl) ?_
   refine Zd (Zb (Yc rfl rfl ?_))
   refine Zz (ZA (Zu (Zy (Zb ?_))))
   rw [Xy (m := 20) hk2 (by omega)] at hs
   refine B_ghLVh (env' := ZD) 8 hs (by simp) rfl rfl fun X4 hX4 hF4 => ?_
   have hl4 := LV.keep hl3 hd hF4
   refine Za (Lo ZD rfl ?_)
   refine Lo ZD (W1p rfl rfl rfl rfl) ?_
   refine Lo ZD rfl ?_
   refine Lo ZD (W1p rfl rfl rfl rfl) ?_
   refine Lo ZD rfl ?_
   refine Lo ZD (W1p rfl rfl rfl rfl) ?_
   refine Lm ZD ?_
   refine Lo ZD rfl ?_
   refine Lo ZD (Zv rfl rfl (by decide) rfl) ?_
   refine X7 rfl rfl (Xt rfl rfl rfl rfl rfl rfl rfl (by simp) hl4 rfl rfl (by decide) (by rw [List.length_map, List.length_take]; show (_ + 1) * 40 ≤ _ ∧ _ + 1 ≤ _; omega) (by decide)) ?_
   rintro _ _ ⟨Y1, rfl, rfl, hY1, hY2, hY3⟩
   refine Le ZD ?_
   refine Lo ZD rfl ?_
   refine Lo ZD (W13 rfl rfl rfl rfl rfl rfl rfl) ?_
   refine Zd (Zq (Zb (Za (Lm ZD ?_))))
   refine Lo ZD (W14 rfl rfl rfl) ?_
   refine La ZD ?_
   refine Zd (Zt (mk 102 5070602400912917605986812821425) (env' := ZD) rfl ⟨m + 1, ?_, rfl, ?_⟩)
   ·first | omega | (simp only []; omega)
   exact ⟨⟨by omega, by omega⟩, _, _, rfl, by rw [Zdi (by omega)]; exact LV.pushF hY3⟩
  try simp only [qB, qN] at hc6
  refine Zz (ZA (Zu (Zy (Zt (mk 102 5070602400912917605986812821491) (env' := ZD) rfl ⟨(), rfl, ?_⟩))))
  exact ⟨trivial, _, _, rfl, by rw [← Xy (m := 40) hm2 (by omega)]; exact hl⟩
 rintro u0 _ ⟨_, ⟨lv, X, rfl, hl⟩⟩
 refine ZL (env' := ZD) rfl ?_
 refine Zc (Ji 2 3 hl rfl rfl (by simp) fun X5 _ _ => ?_)
 refine YS (List.append_assoc _ _ _) ?_
 refine Za (Lo ZD (W1t rfl rfl rfl rfl rfl) ?_)
 refine Lo ZD (W13 rfl rfl rfl rfl rfl rfl rfl) ?_
 refine Zd (Zb (Zj (W2o (.inr rfl) (YV rfl rfl rfl rfl XH0 (by first | rfl | assumption | exact YT (α := BitVec 64) 0 (by omega) | exact YT (α := Int) 0 (by omega) | exact rul_at (by omega))) ?_)))
 exact ⟨rfl, rfl⟩
end Go.Proofs.YtccgigdjkghieaaDoor.VT
