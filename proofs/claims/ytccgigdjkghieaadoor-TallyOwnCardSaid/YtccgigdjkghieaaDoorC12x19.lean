/- Proved: Rows.TallyOwnCardSaid, the statement TallyOwn with its card, of the given program at the commit; no conditions beyond those in the statement. -/
import Derived.Test.YtccgigdjkghieaaDoorC12x18
import Derived.Test.YtccgigdjkghieaaDoorRows
import Derived.LaidMore
import Derived.Stop.Joined
set_option autoImplicit false
set_option linter.unusedVariables false
set_option maxRecDepth 100000
namespace Go.Proofs.YtccgigdjkghieaaDoor.VT
open Go Go.V Go.RowKit Go.Shelf Go.ChangeShapes Go.WideShapes Go.ChangeAt Go.WideMaps Go.WideElems
theorem own : ownKnob Tryd.prog.godebug = none := by kernel_rfl
theorem laidOut : laidOutB Tryd.prog = true := by kernel_rfl
theorem gTab : Tryd.prog.globalNamed "math/bits.deBruijn64tab" = some 0 := by kernel_rfl
theorem tTab : (Tryd.prog.globals[0]?).map (·.type) = some 177 := by kernel_rfl
abbrev laidL : List (String × DataW Unit) := [("math/bits.deBruijn64tab", Rows.laid_math_bits_deBruijn64tab)]
theorem door_met (os : Os) (args : Array Value) : laidMetH Tryd.prog laidL ((World.doorLaid Tryd.prog 400 os).forCall (fun _ _ => 0) ⟨#[], args, []⟩).memory :=
 laidMetH_of_parts3 (fuel := 8) (laidMet_of_run' 8 XH3 XH3) XH3 XH3
theorem laid_tab : (Rows.laid_math_bits_deBruijn64tab : DataW Unit) = .agg (Lib.deBruijn64tab.map fun n : Nat => .lit (.int .u8 (n : Int))) := by kernel_rfl
theorem of_laid {W : World} (h : laidMetH Tryd.prog laidL W) : 0 < W.heap.size ∧ TabAt 0 Lib.deBruijn64tab W := by
 rw [MakeChecks.laidMetH_plain _ _ _ XH3] at h
 obtain ⟨ps, ⟨g0, t0, cs0, f0, p0, q0, hg0, ht0, hv0, hd0, _, _⟩, _, _⟩ := h
 obtain rfl := Option.some.inj (gTab.symm.trans hg0)
 obtain rfl := Option.some.inj (tTab.symm.trans ht0)
 obtain ⟨xs, m, rfl, hx, hlen, hn, hel⟩ := DataW.trod_array Tryd.underlying177 hd0
 have c5 : Tryd.prog.cellsOf 5 = 1 := by kernel_rfl
 rw [c5] at hel
 simp only [Prod.mk.injEq] at hx
 have hx1 := hx.1
 rw [laid_tab] at hx1
 simp only [DataW.agg.injEq] at hx1
 have key : TabAt 0 Lib.deBruijn64tab W := by
  intro j hj
  have hj' : j < 64 := hj
  have h1 := hel j hj'
  have hxl : j < xs.length := by rw [hn]; exact hj'
  have hxj : xs[j]? = some xs[j] := by simp [hxl]
  rw [hxj] at h1
  obtain ⟨n, e1, e2, _⟩ := DataW.trod_int Tryd.underlying5 h1
  have h2 : (xs.map (·.1))[j]? = (Lib.deBruijn64tab.map fun n : Nat => (DataW.lit (.int .u8 (n : Int)) : DataW Unit))[j]? := by rw [← hx1]
  rw [List.getElem?_map, List.getElem?_map, hxj] at h2
  have hjl : j < Lib.deBruijn64tab.length := hj
  rw [List.getElem?_eq_getElem hjl] at h2
  simp only [Option.map_some, Option.some.injEq] at h2
  rw [e2] at h2
  simp only [DataW.lit.injEq, Lit.int.injEq, true_and] at h2
  have h3 := World.var?_cell hg0 hv0 j
  have h4 : cs0[j]? = some (.int .u8 n) := by
   have : cs0.toList[j]? = some (.int .u8 n) := by
    rw [← List.head?_drop]
    rw [Nat.mul_one] at e1
    cases hd : cs0.toList.drop j with
    | nil => rw [hd] at e1; simp at e1
    | cons c r => rw [hd] at e1; simp at e1; rw [e1]; rfl
   simpa using this
  rw [h4] at h3
  rw [h3, h2]
  simp [List.getD_eq_getElem?_getD, hjl]
 refine ⟨?_, key⟩
 have h0 := key 0 (by decide)
 simp only [World.cell?] at h0
 split at h0
 ·rename_i hh; exact (Array.getElem?_eq_some_iff.1 hh).1
 cases h0
def sw {W : World} (h : laidMetH Tryd.prog laidL W) : SW := ⟨W, (of_laid h).1, (of_laid h).2⟩
open Go Go.V Go.RowKit Go.ChangeShapes
abbrev T3 : Type := Int
abbrev e3 : T3 → List VVal := fun x => [iI x]
abbrev k3 : T3 → Prop := fun n => -9223372036854775808 ≤ n ∧ n < 9223372036854775808
theorem op3 : Opens Tryd.prog 3 T3 e3 k3 := Opens.int Tryd.underlying3 XH3
abbrev T35 : Type := BitVec 64
abbrev e35 : T35 → List VVal := fun x => [iW x]
abbrev k35 : T35 → Prop := fun _ => True
theorem op35 : Opens Tryd.prog 35 T35 e35 k35 := Opens.word Tryd.underlying35 XH3
abbrev T22 : Type := List T35
abbrev e22 : T22 → List VVal := fun x => [(fun l : List T35 => VVal.fsl (l.map iW) l.length 1 false) x]
abbrev k22 : T22 → Prop := fun l => l.length * 8 ≤ 140737488351232 ∧ ∀ x, x ∈ l → k35 x
theorem op22 : Opens Tryd.prog 22 T22 e22 k22 := Opens.slice1 (g := iW) 8 op35 Tryd.underlying22 XH3 XH3 XH3
abbrev T23 : Type := List T3
abbrev e23 : T23 → List VVal := fun x => [(fun l : List T3 => VVal.fsl (l.map iI) l.length 1 false) x]
abbrev k23 : T23 → Prop := fun l => l.length * 8 ≤ 140737488351232 ∧ ∀ x, x ∈ l → k3 x
theorem op23 : Opens Tryd.prog 23 T23 e23 k23 := Opens.slice1 (g := iI) 8 op3 Tryd.underlying23 XH3 XH3 XH3
abbrev T65 : Type := T3 × T3 × T23 × Unit
abbrev e65 : T65 → List VVal := fun x => e3 (x.1) ++ (e3 (x.2.1) ++ (e23 (x.2.2.1) ++ ([])))
abbrev k65 : T65 → Prop := fun x => k3 (x.1) ∧ (k3 (x.2.1) ∧ (k23 (x.2.2.1) ∧ (True)))
theorem op65 : Opens Tryd.prog 65 T65 e65 k65 := Opens.struct Tryd.underlying65 (.cons op3 XH3 (.cons op3 XH3 (.cons op23 XH3 (.nil _)))) (fun a => by kernel_rfl)
abbrev T24 : Type := List T65
abbrev e24 : T24 → List VVal := fun x => [(fun l : List T65 => VVal.fsl (l.flatMap e65) l.length 3 false) x]
abbrev k24 : T24 → Prop := fun l => l.length * 40 ≤ 140737488351232 ∧ ∀ x, x ∈ l → k65 x
theorem op24 : Opens Tryd.prog 24 T24 e24 k24 := Opens.slice 3 40 op65 Tryd.underlying24 XH3 XH3 XH3 (by decide)
abbrev T26 : Type := T3 × T22 × T23 × T24 × Unit
abbrev e26 : T26 → List VVal := fun x => e3 (x.1) ++ (e22 (x.2.1) ++ (e23 (x.2.2.1) ++ (e24 (x.2.2.2.1) ++ ([]))))
abbrev k26 : T26 → Prop := fun x => k3 (x.1) ∧ (k22 (x.2.1) ∧ (k23 (x.2.2.1) ∧ (k24 (x.2.2.2.1) ∧ (True))))
theorem op26 : Opens Tryd.prog 26 T26 e26 k26 := Opens.struct Tryd.underlying26 (.cons op3 XH3 (.cons op22 XH3 (.cons op23 XH3 (.cons op24 XH3 (.nil _))))) (fun a => by kernel_rfl)
set_option linter.unusedSimpArgs false
set_option maxHeartbeats 4000000
open Go Go.V Go.RowKit
abbrev u95 {a0 a1 a2 a3 a4 a5 a6 a7 a8 a9 a10 a11 a12 a13 a14 a15 a16 a17 a18 a19 a20 a21 a22 a23 a24 a25 a26 a27 a28 a29 a30 a31 a32 a33 a34 a35 a36 a37 a38 a39 a40 a41 a42 a43 a44 a45 a46 a47 a48 a49 a50 a51 a52 a53 a54 a55 a56 a57 a58 a59 a60 a61 a62 a63 a64 a65 a66 a67 a68 a69 a70 a71 a72 a73 a74 a75 a76 a77 a78 a79 a80 a81 a82 a83 a84 a85 a86 a87 a88 a89 a90 a91 a92 a93 a94 : VVal} : VEnv := a0 :: a1 :: a2 :: a3 :: a4 :: a5 :: a6 :: a7 :: a8 :: a9 :: a10 :: a11 :: a12 :: a13 :: a14 :: a15 :: a16 :: a17 :: a18 :: a19 :: a20 :: a21 :: a22 :: a23 :: a24 :: a25 :: a26 :: a27 :: a28 :: a29 :: a30 :: a31 :: a32 :: a33 :: a34 :: a35 :: a36 :: a37 :: a38 :: a39 :: a40 :: a41 :: a42 :: a43 :: a44 :: a45 :: a46 :: a47 :: a48 :: a49 :: a50 :: a51 :: a52 :: a53 :: a54 :: a55 :: a56 :: a57 :: a58 :: a59 :: a60 :: a61 :: a62 :: a63 :: a64 :: a65 :: a66 :: a67 :: a68 :: a69 :: a70 :: a71 :: a72 :: a73 :: a74 :: a75 :: a76 :: a77 :: a78 :: a79 :: a80 :: a81 :: a82 :: a83 :: a84 :: a85 :: a86 :: a87 :: a88 :: a89 :: a90 :: a91 :: a92 :: a93 :: a94 :: []
theorem W9h {T : TypeId → Option VTy} {H : Ze} {op : Op} {ρ : VEnv} {H' : Ze} {t : TypeId} {a : Operand} {i : Nat} {v : VVal} {y : VTy} {b off : Nat} {cs new : List VVal} (ho : op = .store t a (.tmp i)) (hv : ρ[i]? = some v) (ha : ρ.eval a = .ptr (some (b, off))) (hy : T t = some y) (hx : v.cells = some new) (hn : new.length = y.size) (h1 : new.all VVal.one = true) (hb : H[b]? = some (.cells cs true) := by exact hx9) (hl : off + new.length ≤ cs.length := by exact Nat.le_of_ble_eq_true rfl) (hH : H.set b (.cells (Zx cs off new) true) = H' := by rfl) : vop T ρ.eval H op = some (.skip, H') := Z3 ho hv ha hy hx hn h1 hb hl hH
theorem W9i {T : TypeId → Option VTy} {H : Ze} {op : Op} {ρ : Operand → VVal} {t : TypeId} {a : Operand} {y : VTy} {p v : VVal} (ho : op = .load t a) (ha : ρ a = p) (hy : T t = some y) (hd : Zk y.desc = false) (h : LdOk H p v := by first | exact .inl ⟨_, _, rfl, XH37⟩ | exact .inr ⟨_, _, _, _, rfl, by first | exact hT.xb | exact Zn cx7, XH37⟩) : vop T ρ H op = some (v, H) := Yv ho ha hy hd h
theorem W9k {T : TypeId → Option VTy} {H : Ze} {op : Op} {ρ : VEnv} {H' : Ze} {t : TypeId} {a : Operand} {i : Nat} {v : VVal} {y : VTy} {b off : Nat} {cs new : List VVal} (ho : op = .store t a (.tmp i)) (hv : ρ[i]? = some v) (ha : ρ.eval a = .ptr (some (b, off))) (hy : T t = some y) (hx : v.cells = some new) (hn : new.length = y.size) (h1 : new.all VVal.one = true) (hb : H[b]? = some (.cells cs true) := by exact Zn ((QO (fun e => (hT.rvn _ e).2.2.2.2.2 rfl)).trans cx7)) (hl : off + new.length ≤ cs.length := by exact Nat.le_of_ble_eq_true rfl) (hH : H.set b (.cells (Zx cs off new) true) = H' := by exact Yl (by rw [Xj]; exact ZG cx7)) : vop T ρ.eval H op = some (.skip, H') := Z3 ho hv ha hy hx hn h1 hb hl hH
theorem W9m {T : TypeId → Option VTy} {H : Ze} {op : Op} {ρ : Operand → VVal} {t : TypeId} {a : Operand} {y : VTy} {p : VVal} {n : Nat} {vs : List VVal} (ho : op = .load t a) (ha : ρ a = p) (hy : T t = some y) (hd : Zk y.desc = true) (hn : y.size = n) (h : XF H p n vs := by first | exact .inl ⟨_, _, rfl, XH37⟩ | exact .inr ⟨_, _, _, _, rfl, by exact hT.xb, XH37⟩) : vop T ρ H op = some (.agg vs, H) := XI ho ha hy hd hn h
theorem W9n {T : TypeId → Option VTy} {H : Ze} {op : Op} {ρ : Operand → VVal} {t : TypeId} {a : Operand} {y : VTy} {p : VVal} {n : Nat} {vs : List VVal} (ho : op = .load t a) (ha : ρ a = p) (hy : T t = some y) (hd : Zk y.desc = true) (hn : y.size = n) (h : XF H p n vs := by first | exact .inl ⟨_, _, rfl, XH37⟩ | exact .inr ⟨_, _, _, _, rfl, by exact hT1.xb, XH37⟩) : vop T ρ H op = some (.agg vs, H) := XI ho ha hy hd hn h
theorem W9o {T : TypeId → Option VTy} {H : Ze} {op : Op} {ρ : Operand → VVal} {t : TypeId} {a : Operand} {y : VTy} {p : VVal} {n : Nat} {vs : List VVal} (ho : op = .load t a) (ha : ρ a = p) (hy : T t = some y) (hd : Zk y.desc = true) (hn : y.size = n) (h : XF H p n vs := by first | exact .inl ⟨_, _, rfl, XH37⟩ | exact .inr ⟨_, _, _, _, rfl, by exact hT2.xb, XH37⟩) : vop T ρ H op = some (.agg vs, H) := XI ho ha hy hd hn h
theorem W9p {T : TypeId → Option VTy} {H : Ze} {op : Op} {ρ : Operand → VVal} {t : TypeId} {a : Operand} {y : VTy} {p v : VVal} (ho : op = .load t a) (ha : ρ a = p) (hy : T t = some y) (hd : Zk y.desc = false) (h : LdOk H p v := by first | exact .inl ⟨_, _, rfl, XH37⟩ | exact .inr ⟨_, _, _, _, rfl, by exact hT8.xb, XH37⟩) : vop T ρ H op = some (v, H) := Yv ho ha hy hd h
theorem ZcP {x : SW} (H : Ze) (hH : Nz H) (p : Pb) (hu : -9223372036854775808 ≤ p.users ∧ p.users < 9223372036854775808) : F (psys x) 11 [.agg (pbB p)] H fun v G => v = .bool true := by
 have hL := fewP_L (m := 8) hu
 have h40 : (YD p 8).rules.length ≤ 40 := by show ((List.filter _ _)).length ≤ 40; refine Nat.le_trans (List.length_filter_le _ _) ?_; show ((List.take 40 _).map Zbu).length ≤ _; rw [List.length_map, List.length_take]; omega
 have hlA : (liA (YD p 8)).length ≤ 1000000 := by
  by_cases h9 : pck (YD p 8) = 0
  ·rw [ZbD h9]; exact hL.w
  rw [liA_no h9]; exact Nat.zero_le _
 refine Zp Tryd.func11 rfl u95 rfl ?_
 refine Zc (Za (Lo u95 (ZJ rfl rfl rfl) ?_))
 refine Lk u95 (.bool false) ?_
 refine Zd (Zb (Zc (Ym (Gh.freezePtrL (cs := pbB p) 1 0 rfl rfl rfl) ?_)))
 refine Za (Lo u95 (W2p rfl rfl rfl rfl rfl) ?_)
 refine Zs rfl rfl rfl (by exact Few_spec _ p 8 hu) ?_
 rintro _ _ ⟨rfl, rfl⟩
 refine Le u95 ?_
 refine Lo u95 (ZP rfl rfl) ?_
 refine Lo u95 (W13 rfl rfl rfl rfl rfl rfl rfl) ?_
 refine Zd (Zb (Zc (Ym (Gh.freezePtrL (cs := pbB (YD p 8)) 3 1 rfl rfl rfl) ?_)))
 refine Za (Lo u95 rfl ?_)
 refine Lo u95 (ZJ rfl rfl rfl) ?_
 refine La u95 ?_
 refine Zd (Zb (Zc (ZK [0, 1, 2, 3, 4, 6, 7, 8, 11, 5, 9, 10, 12] #[0, 1, 0, 0, 8, 28, 0, 0, 128, 508, 1023, 0, 4095] XH3 XH3 XH3 ?_)))
 refine Oc u95 rfl rfl ?_
 refine Yb (env' := u95) (x := .look _ _) rfl rfl rfl (W2r rfl rfl rfl rfl) rfl rfl rfl ?_
 refine Om u95 ?_
 refine Oc u95 rfl rfl ?_
 refine Ok u95 rfl (W2r rfl rfl rfl rfl) ?_
 refine Om u95 ?_
 refine Oc u95 rfl rfl ?_
 refine Yb (env' := u95) (x := .look _ _) rfl rfl rfl (W2r rfl rfl rfl rfl) rfl rfl rfl ?_
 refine Yb (env' := u95) (x := .grow _) rfl rfl rfl (ZP rfl rfl) rfl rfl rfl ?_
 obtain ⟨G5, r2, r3, eW, hF5, ok5, hw5, hl5, hz5, ho5⟩ := LoanRows (x := x) loan0 (nz0 hH (k := pqB 0 Yj Yj Yj) rfl) (YD p 8).who hL.w (by simp)
 refine Yd (env' := u95) rfl rfl rfl rfl rfl (by exact hF5) XH27 rfl rfl ?_
 obtain ⟨G9, s0, s1, eF, hF9, ok9, hf9, hl9, hz9, ho9⟩ := LoanInts (x := x) ok5 hz5 (YD p 8).fixed hL.f (by simp)
 have hl5b : H.length + 4 ≤ G5.length := by rw [List.length_append] at hl5; exact hl5
 have hx5 : G5[(H.length + 3)]? = some (pqB 0 Yj Yj Yj) := (ho5 (H.length + 3) (by simp) (by omega) (fun e => by cases e) (fun e => by cases e)).trans (ZI rfl rfl)
 have hx9 : G9[(H.length + 3)]? = some (pqB 0 Yj Yj Yj) := (ho9 (H.length + 3) (by omega) (by omega) (fun e => by cases e) (fun e => by cases e)).trans hx5
 refine Yd (env' := u95) rfl rfl rfl rfl rfl (by exact hF9) XH27 rfl rfl ?_
 refine Oc u95 rfl rfl ?_
 refine Oo u95 .turn rfl (W9h rfl rfl rfl rfl rfl rfl rfl) ?_
 refine Jz [(1, 9), (1, 10), (7, 9), (8, 9), (8, 10)] XH3 (And.intro ⟨_, _, _, _, ⟨(gA (gA (gA (gA (gA (gA (gA (gA (gA (gA (gA (gL XH3)))))))))))), (gA (gA (gA (gL XH3)))), And.intro (W2r rfl rfl rfl rfl) (W2r rfl rfl rfl rfl)⟩⟩ (And.intro ⟨_, _, _, _, ⟨(gA (gA (gA (gA (gA (gA (gA (gA (gA (gA (gA (gL XH3)))))))))))), (gA (gA (gL XH3))), And.intro (W2r rfl rfl rfl rfl) (W2r rfl rfl rfl rfl)⟩⟩ (And.intro ⟨_, _, _, _, ⟨(gA (gA (gA (gA (gA (gL XH3)))))), (gA (gA (gA (gL XH3)))), And.intro (W2r rfl rfl rfl rfl) (W2r rfl rfl rfl rfl)⟩⟩ (And.intro ⟨_, _, _, _, ⟨(gA (gA (gA (gA (gL XH3))))), (gA (gA (gA (gL XH3)))), (by show _ = _; rw [List.length_append]; exact ho5 (H.length + 3) (by simp) (by omega) (fun e => by cases e) (fun e => by cases e))⟩⟩ (And.intro ⟨_, _, _, _, ⟨(gA (gA (gA (gA (gL XH3))))), (gA (gA (gL XH3))), (by show _ = _; rw [List.length_append]; exact ho9 (H.length + 3) (by omega) (by omega) (fun e => by cases e) (fun e => by cases e))⟩⟩ (trivial)))))) ?_
 refine Zb (Zc (Zc (YS (H' := G9.set (H.length + 3) (.cells [iI (YD p 8).users, .slice (some (eW.f, 0)) (YD p 8).who.length ((YD p 8).who.length + 4) false 1, .slice (some (eF.f, 0)) (YD p 8).fixed.length ((YD p 8).fixed.length + 4) false 1, Yj] true)) rfl ?_)))
 have hT : TI (G9.set (H.length + 3) (.cells [iI (YD p 8).users, .slice (some (eW.f, 0)) (YD p 8).who.length ((YD p 8).who.length + 4) false 1, .slice (some (eF.f, 0)) (YD p 8).fixed.length ((YD p 8).fixed.length + 4) false 1, Yj] true)) (YD p 8) (H.length + 2) (H.length + 4) (H.length + 3) 0 s0 s1 r2 r3 eF eW [] Yj := TI.init ok9 hx9 ⟨by omega, by omega⟩ hz9 hw5 hf9
 generalize G9.set (H.length + 3) (.cells [iI (YD p 8).users, .slice (some (eW.f, 0)) (YD p 8).who.length ((YD p 8).who.length + 4) false 1, .slice (some (eF.f, 0)) (YD p 8).fixed.length ((YD p 8).fixed.length + 4) false 1, Yj] true) = Gt at hT ⊢
 refine Za (Lk u95 (.int .i64 0) ?_)
 refine Zd (Zb (Zg (Zr (mk 95 39614081257132168796771975047) (env' := u95) rfl ?_)))
 refine Zw (fun (k : Nat) => (YD p 8).rules.length - k) (fun (k : Nat) => [(6, iI (k : Nat))]) (fun (k : Nat) G => (k ≤ (YD p 8).rules.length) ∧ ∃ a0 a1 rv E, TI G (YD p 8) (H.length + 2) (H.length + 4) (H.length + 3) k a0 a1 r2 r3 eF eW E rv) 0 rfl ?_ ?_
 ·refine ⟨?_, ⟨_, _, _, _, hT⟩⟩
  exact Nat.zero_le _
 rintro k _ ⟨hk, ⟨a0, a1, rv, E, hT⟩⟩
 refine ZL (env' := u95) rfl ?_
 refine Zc (Zc (Za (Lm u95 ?_)))
 refine Lo u95 rfl ?_
 refine Lo u95 (W2r rfl rfl rfl rfl) ?_
 refine Lo u95 rfl ?_
 refine Lo u95 rfl ?_
 refine Zd (Zb (Zi _ rfl (fun hc1 => ?_) (fun hc1 => ?_)))
 ·try simp only [qB, qN] at hc1
  refine Zh (Zb (Zc (Zg (ZK [0, 1, 2, 3, 4, 5, 6, 7, 8, 9, 10, 11, 12, 13, 14, 15, 16, 17, 18, 19, 20, 21, 22, 23, 24, 25, 26] #[0, 1, 0, 4, 0, 28, 60, 124, 0, 256, 0, 1792, 3840, 7936, 0, 0, 32768, 0, 229376, 491520, 1015808, 2080768, 4194300, 8388604, 16777215, 33554431, 67108863] XH3 XH3 XH3 ?_))))
  refine Oc u95 rfl rfl ?_
  refine Yb (env' := u95) (x := .look _ _) rfl rfl rfl (W9i rfl rfl rfl rfl) rfl rfl rfl ?_
  refine Oc u95 rfl rfl ?_
  refine Yb (env' := u95) (x := .look _ _) rfl rfl rfl (W2r rfl rfl rfl rfl) rfl rfl rfl ?_
  refine Om u95 ?_
  refine Oc u95 rfl (W18 rfl rfl rfl rfl rfl rfl rfl) ?_
  refine Oc u95 rfl rfl ?_
  refine Yb (env' := u95) (x := .look _ _) rfl rfl rfl (W2r rfl rfl rfl rfl) rfl rfl rfl ?_
  refine Oc u95 rfl rfl ?_
  refine Yb (env' := u95) (x := .look _ _) rfl rfl rfl (W2r rfl rfl rfl rfl) rfl rfl rfl ?_
  refine Om u95 ?_
  refine Oc u95 rfl (W18 rfl rfl rfl rfl rfl rfl rfl) ?_
  refine Oc u95 rfl rfl ?_
  refine Yb (env' := u95) (x := .look _ _) rfl rfl rfl (W2r rfl rfl rfl rfl) rfl rfl rfl ?_
  refine Om u95 ?_
  refine Oc u95 rfl rfl ?_
  refine Ok u95 rfl (W2r rfl rfl rfl rfl) ?_
  refine Om u95 ?_
  refine Oc u95 rfl (W18 rfl rfl rfl rfl rfl rfl rfl) ?_
  refine Oc u95 rfl rfl ?_
  refine Ok u95 rfl (W2r rfl rfl rfl rfl) ?_
  obtain ⟨G7, b0, b1, e7, hF7, ok7, he7, hl7, hz7, ho7⟩ := LoanInts (x := x) hT.lo hT.nz ((YD p 8).rules.getD k r0).steps (hL.s _ (Y3 (by omega))) (by have := hT.len; rw [List.length_take] at this; rw [List.length_cons]; omega)
  obtain ⟨cx7, rl7⟩ := hT.at9 ho7
  rw [← List.append_nil G7] at hF7
  refine Yd (env' := u95) rfl rfl rfl rfl rfl (by exact hF7) XH27 rfl rfl ?_
  refine Oc u95 rfl rfl ?_
  refine Oo u95 .grow rfl (Zv rfl rfl (by decide) rfl) ?_
  refine Oo u95 .turn rfl (Zcw rfl rfl rfl rfl rfl rfl rfl rfl rfl rl7 rfl rfl (by decide) (by show (_ + 1) * 40 ≤ _ ∧ _; omega) (by decide)) ?_
  refine Oc u95 rfl rfl ?_
  refine Oo u95 .turn rfl (W9k rfl rfl rfl rfl rfl rfl rfl) ?_
  refine Jz [(1, 21), (3, 21), (7, 21), (9, 21), (13, 21)] XH3 (And.intro ⟨_, _, _, _, ⟨(gA (gA (gA (gA (gA (gA (gA (gA (gA (gA (gA (gA (gA (gA (gA (gA (gA (gA (gA (gA (gA (gA (gA (gA (gA (gL XH3)))))))))))))))))))))))))), (gA (gA (gA (gA (gA (gL XH3)))))), And.intro (W9i rfl rfl rfl rfl) (W9i rfl rfl rfl rfl)⟩⟩ (And.intro ⟨_, _, _, _, ⟨(gA (gA (gA (gA (gA (gA (gA (gA (gA (gA (gA (gA (gA (gA (gA (gA (gA (gA (gA (gA (gA (gA (gA (gL XH3)))))))))))))))))))))))), (gA (gA (gA (gA (gA (gL XH3)))))), And.intro (W2r rfl rfl rfl rfl) (W2r rfl rfl rfl rfl)⟩⟩ (And.intro ⟨_, _, _, _, ⟨(gA (gA (gA (gA (gA (gA (gA (gA (gA (gA (gA (gA (gA (gA (gA (gA (gA (gA (gA (gL XH3)))))))))))))))))))), (gA (gA (gA (gA (gA (gL XH3)))))), And.intro (W2r rfl rfl rfl rfl) (W2r rfl rfl rfl rfl)⟩⟩ (And.intro ⟨_, _, _, _, ⟨(gA (gA (gA (gA (gA (gA (gA (gA (gA (gA (gA (gA (gA (gA (gA (gA (gA (gL XH3)))))))))))))))))), (gA (gA (gA (gA (gA (gL XH3)))))), And.intro (W2r rfl rfl rfl rfl) (W2r rfl rfl rfl rfl)⟩⟩ (And.intro ⟨_, _, _, _, ⟨(gA (gA (gA (gA (gA (gA (gA (gA (gA (gA (gA (gA (gA (gL XH3)))))))))))))), (gA (gA (gA (gA (gA (gL XH3)))))), And.intro (W2r rfl rfl rfl rfl) (W2r rfl rfl rfl rfl)⟩⟩ (trivial)))))) ?_
  refine Zq (Zb (Za (Lm u95 ?_)))
  refine Lo u95 (W14 rfl rfl rfl) ?_
  refine La u95 ?_
  refine Zd (Zt (mk 95 39614081257132168796771975047) (env' := u95) rfl ⟨k + 1, ?_, rfl, ?_⟩)
  ·first | omega | (simp only []; omega)
  exact ⟨by omega, _, _, _, _, hT.next (by omega) ok7 he7 hz7 hl7 ho7 rfl rfl⟩
 try simp only [qB, qN] at hc1
 refine Zz (ZA (Zu (Zy (Zb (Zc ?_)))))
 obtain rfl : k = (YD p 8).rules.length := by omega
 rename_i G8
 refine Za (Lo u95 (W9m rfl rfl rfl rfl rfl) ?_)
 refine Zs rfl rfl rfl (by obtain ⟨H1, bs, z, hbs⟩ := hT.frzn (S := psys x); exact Zc9 z hbs hT.nz (tLive_L H1 (YD p 8) hL)) ?_
 rintro av _ ⟨Y1, rfl, hy1, hav⟩; have hT1 := hT.app hy1
 refine Le u95 ?_
 refine La u95 ?_
 refine Zd (Zb (Zc (Za (Lo u95 (W9n rfl rfl rfl rfl rfl) ?_))))
 refine Zs rfl rfl rfl (by obtain ⟨H1, bs, z, hbs⟩ := hT1.frzn (S := psys x); exact Zc9 z hbs hT1.nz (tLive_L H1 (YD p 8) hL)) ?_
 rintro bv _ ⟨Y2, rfl, hy2, hbv⟩; have hT2 := hT1.app hy2
 refine Le u95 ?_
 refine La u95 ?_
 refine Zd (Zb (Zc (Za (Lo u95 (W9o rfl rfl rfl rfl rfl) ?_))))
 refine Zs rfl rfl rfl (by obtain ⟨H1, bs, z, hbs⟩ := hT2.frzn (S := psys x); exact Jn (z.frame [] [iW 50#64]) hbs hT2.nz rfl (Za6 H1 (YD p 8) hL _)) ?_
 rintro _ _ ⟨rfl, rfl⟩
 refine Le u95 ?_
 refine Zd (Zb (Zc (Za (Lo u95 (W9o rfl rfl rfl rfl rfl) ?_))))
 refine Zs rfl rfl rfl (by obtain ⟨H1, bs, z, hbs⟩ := hT2.frzn (S := psys x); exact Jn z hbs hT2.nz rfl (tSizes_spec H1 (YD p 8) hL)) ?_
 rintro _ _ ⟨rfl, rfl⟩
 refine Le u95 ?_
 refine Zd (Zb (Zc (Za (Lo u95 (W9o rfl rfl rfl rfl rfl) ?_))))
 refine Zs rfl rfl rfl (by obtain ⟨H1, bs, z, hbs⟩ := hT2.frzn (S := psys x); exact Jn z hbs hT2.nz rfl (tLoad_any H1 (YD p 8) hL)) ?_
 rintro _ _ ⟨rfl, rfl⟩
 refine Le u95 ?_
 refine Zd (Zb (Zc (Zc (YS (List.append_assoc _ _ _) ?_))))
 obtain ⟨ha, hb, hd⟩ := two_lists hav hbv List.length_append
 have hy : ∀ k, k ∈ Y1 ++ Y2 → k.nofz = true := fun k hk => (List.mem_append.1 hk).elim (hy1 k) (hy2 k)
 generalize Y1 ++ Y2 = Y at ha hb hy ⊢
 refine Za (Lk u95 (.int .i64 0) ?_)
 refine Zd (Zb (Zg (Zr (mk 95 39614081257132168796771974215) (env' := u95) rfl ?_)))
 refine Zw (fun (k : Nat) => (liA (YD p 8)).length - k) (fun (k : Nat) => [(9, iI (k : Nat))]) (fun (k : Nat) G => (k ≤ (liA (YD p 8)).length) ∧ ∃ Y cs8, G = G8 ++ Y ∧ (∀ k, k ∈ Y → k.nofz = true) ∧ LV G8.length 1 Y av cs8 (liA (YD p 8)).length ∧ VVal.nofzL cs8 = true ∧ LV G8.length 1 Y bv ((liA (YD p 8)).map iW) (liA (YD p 8)).length) 0 rfl ?_ ?_
 ·refine ⟨?_, ⟨_, _, rfl, hy, ha, VVal.nofzL_map (fun _ => rfl), hb⟩⟩
  exact Nat.zero_le _
 rintro k _ ⟨hk, ⟨Y, cs8, rfl, hy, ha, hz, hb⟩⟩
 refine ZL (env' := u95) rfl ?_
 refine Zc (Zc (Za (Lm u95 ?_)))
 refine Lm u95 ?_
 refine Lo u95 (v_len rfl rfl rfl rfl ha) ?_
 refine Lo u95 rfl ?_
 refine Zd (Zb (Zi _ rfl (fun hc2 => ?_) (fun hc2 => ?_)))
 ·try simp only [qB, qN] at hc2
  refine Zh (Zb (Zc (Zg ?_)))
  obtain ⟨b6, hb6, h6⟩ := LV_pos ha (by omega)
  subst hb6
  refine Za (Lm u95 ?_)
  refine Lm u95 ?_
  refine Lo u95 (W18 rfl rfl rfl rfl rfl rfl rfl) ?_
  refine Lo u95 (Ya (VVal.int .u64 99) rfl rfl rfl rfl rfl rfl rfl (by exact ZI rfl h6) (by show 0 + k * 1 + 1 ≤ cs8.length; have := ha.1; omega) (by exact ZO rfl)) ?_
  refine Zd (Zq (Zb (Za (Lm u95 ?_))))
  refine Lo u95 (W14 rfl rfl rfl) ?_
  refine La u95 ?_
  refine Zd (Zt (mk 95 39614081257132168796771974215) (env' := u95) rfl ⟨k + 1, ?_, rfl, ?_⟩)
  ·first | omega | (simp only []; omega)
  exact ⟨by omega, _, _, rfl, (Zav hb (hd _ rfl) h6 ha.1 (by omega) (show k < _ by omega) hy hz rfl rfl).2.2.1, (Zav hb (hd _ rfl) h6 ha.1 (by omega) (show k < _ by omega) hy hz rfl rfl).1, (Zav hb (hd _ rfl) h6 ha.1 (by omega) (show k < _ by omega) hy hz rfl rfl).2.2.2, (Zav hb (hd _ rfl) h6 ha.1 (by omega) (show k < _ by omega) hy hz rfl rfl).2.1⟩
 try simp only [qB, qN] at hc2
 refine Zz (ZA (Zu (Zy (Zb (Zc (B_frzB (env' := u95) 8 hb rfl rfl hy fun Y5 hy5 => ?_))))))
 have hT8 := hT.app hy5
 refine Za (Lo u95 rfl ?_)
 refine Lo u95 (W9p rfl rfl rfl rfl) ?_
 refine Lo u95 rfl ?_
 refine Lo u95 (W2r rfl rfl rfl rfl) ?_
 refine Zs rfl rfl rfl (by obtain ⟨H1, bs, z, hbs, _, _⟩ := hT8.frznR (S := psys x); exact Jn (z.frame [] [fzR (YD p 8).rules]) hbs hT8.nz rfl (kRules_spec H1 (YD p 8).rules (YD p 8).rules hL.r hL.s)) ?_
 rintro v _ ⟨hv, rfl⟩; obtain rfl : v = .bool true := hv.trans (by simp)
 refine Le u95 ?_
 refine Lm u95 ?_
 refine Lm u95 ?_
 refine Zs rfl rfl rfl (by exact loBack_walk _ _ _ _ _ _ _ _ _ _ hT8.lo (hT8.hei hL) (hT8.her hL) (by have := hT8.len; rw [List.length_take] at this; rw [List.length_cons]; omega) (by simp)) ?_
 rintro _ G6 ⟨rfl, hw6⟩
 refine Le u95 ?_
 refine Lo u95 (ZM rfl rfl rfl) ?_
 refine Lm u95 ?_
 refine Lm u95 ?_
 refine Lo u95 (W2p rfl rfl rfl rfl rfl) ?_
 refine Zs rfl rfl rfl (by exact fLive_spec _ (YD p 8) hL) ?_
 rintro _ _ ⟨rfl, rfl⟩
 refine Le u95 ?_
 refine Zs rfl rfl rfl (by exact kRows_spec _ (liA (YD p 8)) (liA (YD p 8)) hlA) ?_
 rintro v _ ⟨hv, rfl⟩; obtain rfl : v = .bool true := hv.trans (by simp)
 refine Le u95 ?_
 refine Lo u95 (ZM rfl rfl rfl) ?_
 refine Lm u95 ?_
 refine Zs rfl rfl rfl (by exact twakes_spec _) ?_
 rintro _ _ ⟨rfl, rfl⟩
 refine Le u95 ?_
 refine Lo u95 (ZM rfl rfl rfl) ?_
 refine La u95 ?_
 refine Zd (Zb (Zj (YQ (.inr rfl) (Zf rfl rfl) ?_)))
 exact rfl
theorem TallyOwn_law {x : SW} (p : Pb) (hu : -9223372036854775808 ≤ p.users ∧ p.users < 9223372036854775808) : F (psys x) 11 [.agg (pbB p)] [] fun v G => v = .bool true := ZcP [] (fun b k h => by cases h) p hu
end Go.Proofs.YtccgigdjkghieaaDoor.VT
