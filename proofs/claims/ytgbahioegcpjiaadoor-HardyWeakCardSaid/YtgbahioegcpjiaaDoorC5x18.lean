/- Proved: Rows.HardyWeakCardSaid, the statement HardyWeak with its card, of the given program at the commit; no conditions beyond those in the statement. -/
import Derived.Test.YtgbahioegcpjiaaDoorC5x17
import Derived.Test.YtgbahioegcpjiaaDoorRows
import Derived.LaidMore
import Derived.Stop.Joined
set_option autoImplicit false
set_option linter.unusedVariables false
set_option maxRecDepth 100000
namespace Go.Proofs.YtgbahioegcpjiaaDoor.VT
open Go Go.V Go.RowKit Go.Shelf Go.ChangeShapes Go.WideShapes Go.ChangeAt Go.WideMaps Go.WideElems
theorem own : ownKnob Tryd.prog.godebug = none := by kernel_rfl
theorem laidOut : laidOutB Tryd.prog = true := by kernel_rfl
theorem gTab : Tryd.prog.globalNamed "math/bits.deBruijn64tab" = some 0 := by kernel_rfl
theorem tTab : (Tryd.prog.globals[0]?).map (·.type) = some 180 := by kernel_rfl
abbrev laidL : List (String × DataW Unit) := [("math/bits.deBruijn64tab", Rows.laid_math_bits_deBruijn64tab)]
theorem door_met (os : Os) (args : Array Value) : laidMetH Tryd.prog laidL ((World.doorLaid Tryd.prog 400 os).forCall (fun _ _ => 0) ⟨#[], args, []⟩).memory :=
  laidMetH_of_parts3 (fuel := 8) (laidMet_of_run' 8 XH1 XH1) XH1 XH1
theorem laid_tab : (Rows.laid_math_bits_deBruijn64tab : DataW Unit) = .agg (Lib.deBruijn64tab.map fun n : Nat => .lit (.int .u8 (n : Int))) := by kernel_rfl
theorem of_laid {W : World} (h : laidMetH Tryd.prog laidL W) : 0 < W.heap.size ∧ TabAt 0 Lib.deBruijn64tab W := by
  rw [MakeChecks.laidMetH_plain _ _ _ XH1] at h
  obtain ⟨ps, ⟨g0, t0, cs0, f0, p0, q0, hg0, ht0, hv0, hd0, _, _⟩, _, _⟩ := h
  obtain rfl := Option.some.inj (gTab.symm.trans hg0)
  obtain rfl := Option.some.inj (tTab.symm.trans ht0)
  obtain ⟨xs, m, rfl, hx, hlen, hn, hel⟩ := DataW.trod_array Tryd.underlying180 hd0
  have c5 : Tryd.prog.cellsOf 5 = 1 := by kernel_rfl
  rw [c5] at hel
  simp only [Prod.mk.injEq] at hx
  have hx1 := hx.1
  rw [laid_tab] at hx1
  simp only [DataW.agg.injEq] at hx1
  have key : TabAt 0 Lib.deBruijn64tab W := by
    intro j hj
    have hj' : j < 64 := hj
    have h1 := hel j hj'
    have hxl : j < xs.length := by rw [hn]; exact hj'
    have hxj : xs[j]? = some xs[j] := by simp [hxl]
    rw [hxj] at h1
    obtain ⟨n, e1, e2, _⟩ := DataW.trod_int Tryd.underlying5 h1
    have h2 : (xs.map (·.1))[j]? = (Lib.deBruijn64tab.map fun n : Nat => (DataW.lit (.int .u8 (n : Int)) : DataW Unit))[j]? := by rw [← hx1]
    rw [List.getElem?_map, List.getElem?_map, hxj] at h2
    have hjl : j < Lib.deBruijn64tab.length := hj
    rw [List.getElem?_eq_getElem hjl] at h2
    simp only [Option.map_some, Option.some.injEq] at h2
    rw [e2] at h2
    simp only [DataW.lit.injEq, Lit.int.injEq, true_and] at h2
    have h3 := World.var?_cell hg0 hv0 j
    have h4 : cs0[j]? = some (.int .u8 n) := by
      have : cs0.toList[j]? = some (.int .u8 n) := by
        rw [← List.head?_drop]
        rw [Nat.mul_one] at e1
        cases hd : cs0.toList.drop j with
        | nil => rw [hd] at e1; simp at e1
        | cons c r => rw [hd] at e1; simp at e1; rw [e1]; rfl
      simpa using this
    rw [h4] at h3
    rw [h3, h2]
    simp [List.getD_eq_getElem?_getD, hjl]
  refine ⟨?_, key⟩
  have h0 := key 0 (by decide)
  simp only [World.cell?] at h0
  split at h0
  · rename_i hh; exact (Array.getElem?_eq_some_iff.1 hh).1
  · cases h0
def sw {W : World} (h : laidMetH Tryd.prog laidL W) : SW := ⟨W, (of_laid h).1, (of_laid h).2⟩
open Go Go.V Go.RowKit Go.ChangeShapes
abbrev T3 : Type := Int
abbrev e3 : T3 → List VVal := fun x => [iI x]
abbrev k3 : T3 → Prop := fun n => -9223372036854775808 ≤ n ∧ n < 9223372036854775808
theorem op3 : Opens Tryd.prog 3 T3 e3 k3 := Opens.int Tryd.underlying3 XH1
abbrev T27 : Type := BitVec 64
abbrev e27 : T27 → List VVal := fun x => [iW x]
abbrev k27 : T27 → Prop := fun _ => True
theorem op27 : Opens Tryd.prog 27 T27 e27 k27 := Opens.word Tryd.underlying27 XH1
abbrev T22 : Type := List T27
abbrev e22 : T22 → List VVal := fun x => [(fun l : List T27 => VVal.fsl (l.map iW) l.length 1 false) x]
abbrev k22 : T22 → Prop := fun l => l.length * 8 ≤ 140737488351232 ∧ ∀ x, x ∈ l → k27 x
theorem op22 : Opens Tryd.prog 22 T22 e22 k22 := Opens.slice1 (g := iW) 8 op27 Tryd.underlying22 XH1 XH1 XH1
abbrev T23 : Type := List T3
abbrev e23 : T23 → List VVal := fun x => [(fun l : List T3 => VVal.fsl (l.map iI) l.length 1 false) x]
abbrev k23 : T23 → Prop := fun l => l.length * 8 ≤ 140737488351232 ∧ ∀ x, x ∈ l → k3 x
theorem op23 : Opens Tryd.prog 23 T23 e23 k23 := Opens.slice1 (g := iI) 8 op3 Tryd.underlying23 XH1 XH1 XH1
abbrev T75 : Type := T3 × T3 × T23 × Unit
abbrev e75 : T75 → List VVal := fun x => e3 (x.1) ++ (e3 (x.2.1) ++ (e23 (x.2.2.1) ++ ([])))
abbrev k75 : T75 → Prop := fun x => k3 (x.1) ∧ (k3 (x.2.1) ∧ (k23 (x.2.2.1) ∧ (True)))
theorem op75 : Opens Tryd.prog 75 T75 e75 k75 := Opens.struct Tryd.underlying75 (.cons op3 XH1 (.cons op3 XH1 (.cons op23 XH1 (.nil _)))) (fun a => by kernel_rfl)
abbrev T24 : Type := List T75
abbrev e24 : T24 → List VVal := fun x => [(fun l : List T75 => VVal.fsl (l.flatMap e75) l.length 3 false) x]
abbrev k24 : T24 → Prop := fun l => l.length * 40 ≤ 140737488351232 ∧ ∀ x, x ∈ l → k75 x
theorem op24 : Opens Tryd.prog 24 T24 e24 k24 := Opens.slice 3 40 op75 Tryd.underlying24 XH1 XH1 XH1 (by decide)
abbrev T26 : Type := T3 × T22 × T23 × T24 × Unit
abbrev e26 : T26 → List VVal := fun x => e3 (x.1) ++ (e22 (x.2.1) ++ (e23 (x.2.2.1) ++ (e24 (x.2.2.2.1) ++ ([]))))
abbrev k26 : T26 → Prop := fun x => k3 (x.1) ∧ (k22 (x.2.1) ∧ (k23 (x.2.2.1) ∧ (k24 (x.2.2.2.1) ∧ (True))))
theorem op26 : Opens Tryd.prog 26 T26 e26 k26 := Opens.struct Tryd.underlying26 (.cons op3 XH1 (.cons op22 XH1 (.cons op23 XH1 (.cons op24 XH1 (.nil _))))) (fun a => by kernel_rfl)
abbrev T5 : Type := UInt8
abbrev e5 : T5 → List VVal := fun x => [(fun w : UInt8 => VVal.int .u8 w.toNat) x]
set_option linter.unusedSimpArgs false
set_option maxHeartbeats 4000000
open Go Go.V Go.RowKit
abbrev u53 {a0 a1 a2 a3 a4 a5 a6 a7 a8 a9 a10 a11 a12 a13 a14 a15 a16 a17 a18 a19 a20 a21 a22 a23 a24 a25 a26 a27 a28 a29 a30 a31 a32 a33 a34 a35 a36 a37 a38 a39 a40 a41 a42 a43 a44 a45 a46 a47 a48 a49 a50 a51 a52 : VVal} : VEnv := a0 :: a1 :: a2 :: a3 :: a4 :: a5 :: a6 :: a7 :: a8 :: a9 :: a10 :: a11 :: a12 :: a13 :: a14 :: a15 :: a16 :: a17 :: a18 :: a19 :: a20 :: a21 :: a22 :: a23 :: a24 :: a25 :: a26 :: a27 :: a28 :: a29 :: a30 :: a31 :: a32 :: a33 :: a34 :: a35 :: a36 :: a37 :: a38 :: a39 :: a40 :: a41 :: a42 :: a43 :: a44 :: a45 :: a46 :: a47 :: a48 :: a49 :: a50 :: a51 :: a52 :: []
theorem fewP_2 {p : Pb} {m : Nat} : fewP (fewP p m) m = fewP p m := by
  show fewQ (cutP (fewP p m)) m = _
  rw [fewP_cut]
  unfold fewP fewQ
  simp only [Pb.users, Pb.who, Pb.fixed, Pb.rules, List.take_take, Nat.min_self, List.filter_filter, Bool.and_self]
theorem Few2_spec {x : SW} (H : Zf) (p : Pb) (m : Nat) (hu : -9223372036854775808 ≤ p.users ∧ p.users < 9223372036854775808) : F (psys x) 15 [.agg (pbB (fewP p m)), iI (m : Nat)] H fun v G => v = .agg (pbB (fewP p m)) ∧ G = H := by
  have := Few_spec (x := x) H (fewP p m) m hu
  rw [fewP_2] at this; exact this
theorem waN_3 {p : Pb} {m : Int} {l : List Nat} (h : waN p m = some l) : l.length ≤ 12 := by
  unfold waN at h
  split at h
  · rename_i hm
    have g2 := (pck_good.1 hm.1).u64
    have := (fiN_asc (by omega) (by simp) (fun x hx => by cases hx) h).2.2.1
    have h0 : ([] : List Nat).length = 0 := rfl
    omega
  · cases h
theorem waV_3 {p : Pb} {m : Int} {l : List Nat} {ok : Bool} (h1 : ok = true → waN p m = some l) (h2 : ok = false → l = []) : l.length ≤ 12 := by
  cases ok with
  | true => exact waN_3 (h1 rfl)
  | false => rw [h2 rfl]; exact Nat.zero_le _
theorem HardyWeak_walk {x : SW} (H : Zf) (p : Pb) (m : Int) (hu : -9223372036854775808 ≤ p.users ∧ p.users < 9223372036854775808) (hm : -9223372036854775808 ≤ m ∧ m < 9223372036854775808) : F (psys x) 11 [.agg (pbB p), iI m] H fun v G => v = .bool true ∧ G = H := by
 have hL := fewP_L (m := 6) hu
 refine Zr Tryd.func11 rfl u53 rfl ?_
 refine Zd (Za ?_)
 refine Lo u53 (Zs rfl rfl rfl) ?_
 refine Lo u53 (Zg (VVal.bool false) (.inr rfl) rfl) ?_
 refine Ze (Zc (Zd ?_))
 refine ZX (Gh.freezePtrL (cs := pbB p) 2 0 rfl rfl rfl) ?_
 refine Za ?_
 refine Lo u53 (W2p rfl rfl rfl rfl rfl) ?_
 refine Zq rfl rfl rfl (by exact Few_spec _ p 6 hu) ?_
 rintro _ _ ⟨rfl, rfl⟩
 refine Le u53 ?_
 refine Lo u53 (Zw rfl rfl) ?_
 refine Lo u53 (W13 rfl rfl rfl rfl rfl rfl rfl) ?_
 refine Ze (Zc (Zd (Zd ?_)))
 refine ZX (Gh.freezePtrL (cs := pbB (fewP p 6)) 5 1 rfl rfl rfl) ?_
 refine Za ?_
 refine Lo u53 (rfl) ?_
 refine Lo u53 (W2r rfl rfl rfl rfl) ?_
 refine Lo u53 (rfl) ?_
 refine Lo u53 (Zb (.inl rfl) rfl) ?_
 refine ZH 15 (env1 := u53) (env2 := u53) rfl rfl rfl (fun hg1 => ?_) (fun hg1 => ?_)
 ·try simp only [qB, qN] at hg1
  refine Lo u53 (rfl) ?_
  refine Lo u53 (W2r rfl rfl rfl rfl) ?_
  refine Lo u53 (rfl) ?_
  refine Lo u53 (ZM rfl rfl rfl) ?_
  refine Ze (Zc ?_)
  refine Zl _ rfl (fun hc2 => ?_) (fun hc2 => ?_)
  ·try simp only [qB, qN] at hc2
   refine Zd (Za ?_)
   refine Zq rfl rfl rfl (by exact hwakes_spec _) ?_
   rintro _ _ ⟨rfl, rfl⟩
   refine Le u53 ?_
   refine Lo u53 (Zb (.inr rfl) rfl) ?_
   refine Ze (Zc (Zi (Zm ?_)))
   refine W10 (.inr rfl) (Zh rfl rfl) ?_
   exact ⟨rfl, rfl⟩
  ·try simp only [qB, qN] at hc2
   refine Zj (Zc (Zd (Za ?_)))
   refine Lo u53 (W2p rfl rfl rfl rfl rfl) ?_
   refine Zq rfl rfl rfl (by exact Few2_spec _ p 6 hu) ?_
   rintro _ _ ⟨rfl, rfl⟩
   refine Le u53 ?_
   refine Lo u53 (Zb (.inl rfl) rfl) ?_
   refine Zq rfl rfl rfl (by exact Weak_spec _ (fewP p 6) hL m hm) ?_
   rintro v _ ⟨hv, rfl⟩; obtain ⟨l, ok, he, h1, h2, h3⟩ := waV_eq (fewP p 6) m; rw [he] at hv; subst hv; have hl9 := waV_3 h2 h3
   refine Le u53 ?_
   refine Lo u53 (Zb (.inl rfl) rfl) ?_
   refine Lo u53 (rfl) ?_
   refine Lo u53 (rfl) ?_
   refine Lo u53 (Zb (.inr rfl) rfl) ?_
   refine Lo u53 (Zb (.inr rfl) rfl) ?_
   refine Ze (Zc (Zd (Za ?_)))
   refine Lo u53 (W2p rfl rfl rfl rfl rfl) ?_
   refine Lo u53 (Zb (.inl rfl) rfl) ?_
   refine Zq rfl rfl rfl (by exact fWeak_spec _ (fewP p 6) hL m hm) ?_
   rintro v _ ⟨hv, rfl⟩; rw [he] at hv; subst hv
   refine Le u53 ?_
   refine Lo u53 (Zb (.inl rfl) rfl) ?_
   refine Lo u53 (rfl) ?_
   refine Lo u53 (rfl) ?_
   refine Lo u53 (Zb (.inr rfl) rfl) ?_
   refine Lo u53 (Zb (.inr rfl) rfl) ?_
   refine Ze (Zc (Zd ?_))
   refine ZW [0, 1, 2, 3, 4, 5, 6, 7, 8, 9, 12, 10, 11, 13, 14, 15, 16, 17, 18, 19] #[0, 0, 3, 7, 15, 15, 63, 127, 255, 511, 1023, 2047, 511, 8191, 16383, 32767, 65535, 131071, 262143, 524287] XH1 XH1 XH1 ?_
   refine Oo u53 .calm rfl (Zb (.inl rfl) rfl) ?_
   refine Oo u53 .calm rfl (Zb (.inl rfl) rfl) ?_
   refine Oo u53 .calm rfl (v_is true rfl (by simp)) ?_
   refine Oo u53 .calm rfl (Zb (.inl rfl) rfl) ?_
   refine Oo u53 .calm rfl (Zb (.inl rfl) rfl) ?_
   refine Oo u53 .calm rfl (Zb (.inl rfl) rfl) ?_
   refine ZU (env' := u53) rfl rfl rfl rfl rfl (by exact kInts_N _ l hl9) XH7 rfl rfl ?_
   refine Oo u53 .calm rfl (ZM rfl rfl rfl) ?_
   refine Oo u53 .calm rfl (Zb (.inl rfl) rfl) ?_
   refine Oo u53 .look rfl (W2p rfl rfl rfl rfl rfl) ?_
   refine Yb (env' := u53) (x := .look _ _) rfl rfl rfl (W2p rfl rfl rfl rfl rfl) rfl rfl rfl ?_
   refine ZU (env' := u53) rfl rfl rfl rfl rfl (by exact Few2_spec _ p 6 hu) XH7 rfl rfl ?_
   refine ZU (env' := u53) rfl rfl rfl rfl rfl (by exact Needed_spec _ (fewP p 6) hL) XH7 rfl rfl ?_
   refine ZU (env' := u53) rfl rfl rfl rfl rfl (by exact fNeeded_spec _ (fewP p 6) hL) XH7 rfl rfl ?_
   refine Oo u53 .calm rfl (v_is true rfl (by simp)) ?_
   refine Oo u53 .calm rfl (ZM rfl rfl rfl) ?_
   refine Oo u53 .calm rfl (Zb (.inl rfl) rfl) ?_
   refine ZU (env' := u53) rfl rfl rfl rfl rfl (by exact hwakes_spec _) XH7 rfl rfl ?_
   refine Oo u53 .calm rfl (ZM rfl rfl rfl) ?_
   refine Oo u53 .calm rfl (Zb (.inr rfl) rfl) ?_
   refine O_nilP [(10, 11), (10, 12)] XH1 (And.intro ⟨_, _, _, _, ⟨(gA (gA (gA (gA (gA (gA (gA (gA (gA (gL XH1)))))))))), (gA (gA (gA (gA (gA (gA (gA (gA (gL XH1))))))))), And.intro (W2p rfl rfl rfl rfl rfl) (W2p rfl rfl rfl rfl rfl)⟩⟩ (And.intro ⟨_, _, _, _, ⟨(gA (gA (gA (gA (gA (gA (gA (gA (gA (gL XH1)))))))))), (gA (gA (gA (gA (gA (gA (gA (gL XH1)))))))), And.intro (W2p rfl rfl rfl rfl rfl) (W2p rfl rfl rfl rfl rfl)⟩⟩ (trivial))) ?_
   refine Zc (Zi ?_)
   refine W10 (.inr rfl) (Zh rfl rfl) ?_
   exact ⟨rfl, rfl⟩
 ·try simp only [qB, qN] at hg1
  refine Lf u53 ?_
  refine Lf u53 ?_
  refine Lf u53 ?_
  refine Lo u53 (ZI (VVal.bool false) rfl rfl rfl) ?_
  refine Ze (Zc ?_)
  refine ZY rfl rfl ?_
  refine Zj (Zc (Zd (Za ?_)))
  refine Lo u53 (W2p rfl rfl rfl rfl rfl) ?_
  refine Zq rfl rfl rfl (by exact Few2_spec _ p 6 hu) ?_
  rintro _ _ ⟨rfl, rfl⟩
  refine Le u53 ?_
  refine Lo u53 (Zb (.inl rfl) rfl) ?_
  refine Zq rfl rfl rfl (by exact Weak_spec _ (fewP p 6) hL m hm) ?_
  rintro v _ ⟨hv, rfl⟩; obtain ⟨l, ok, he, h1, h2, h3⟩ := waV_eq (fewP p 6) m; rw [he] at hv; subst hv; have hl9 := waV_3 h2 h3
  refine Le u53 ?_
  refine Lo u53 (Zb (.inl rfl) rfl) ?_
  refine Lo u53 (rfl) ?_
  refine Lo u53 (rfl) ?_
  refine Lo u53 (Zb (.inr rfl) rfl) ?_
  refine Lo u53 (Zb (.inr rfl) rfl) ?_
  refine Ze (Zc (Zd (Za ?_)))
  refine Lo u53 (W2p rfl rfl rfl rfl rfl) ?_
  refine Lo u53 (Zb (.inl rfl) rfl) ?_
  refine Zq rfl rfl rfl (by exact fWeak_spec _ (fewP p 6) hL m hm) ?_
  rintro v _ ⟨hv, rfl⟩; rw [he] at hv; subst hv
  refine Le u53 ?_
  refine Lo u53 (Zb (.inl rfl) rfl) ?_
  refine Lo u53 (rfl) ?_
  refine Lo u53 (rfl) ?_
  refine Lo u53 (Zb (.inr rfl) rfl) ?_
  refine Lo u53 (Zb (.inr rfl) rfl) ?_
  refine Ze (Zc (Zd ?_))
  refine ZW [0, 1, 2, 3, 4, 5, 6, 7, 8, 9, 12, 10, 11, 13, 14, 15, 16, 17, 18, 19] #[0, 0, 3, 7, 15, 15, 63, 127, 255, 511, 1023, 2047, 511, 8191, 16383, 32767, 65535, 131071, 262143, 524287] XH1 XH1 XH1 ?_
  refine Oo u53 .calm rfl (Zb (.inl rfl) rfl) ?_
  refine Oo u53 .calm rfl (Zb (.inl rfl) rfl) ?_
  refine Oo u53 .calm rfl (v_is true rfl (by simp)) ?_
  refine Oo u53 .calm rfl (Zb (.inl rfl) rfl) ?_
  refine Oo u53 .calm rfl (Zb (.inl rfl) rfl) ?_
  refine Oo u53 .calm rfl (Zb (.inl rfl) rfl) ?_
  refine ZU (env' := u53) rfl rfl rfl rfl rfl (by exact kInts_N _ l hl9) XH7 rfl rfl ?_
  refine Oo u53 .calm rfl (ZM rfl rfl rfl) ?_
  refine Oo u53 .calm rfl (Zb (.inl rfl) rfl) ?_
  refine Oo u53 .look rfl (W2p rfl rfl rfl rfl rfl) ?_
  refine Yb (env' := u53) (x := .look _ _) rfl rfl rfl (W2p rfl rfl rfl rfl rfl) rfl rfl rfl ?_
  refine ZU (env' := u53) rfl rfl rfl rfl rfl (by exact Few2_spec _ p 6 hu) XH7 rfl rfl ?_
  refine ZU (env' := u53) rfl rfl rfl rfl rfl (by exact Needed_spec _ (fewP p 6) hL) XH7 rfl rfl ?_
  refine ZU (env' := u53) rfl rfl rfl rfl rfl (by exact fNeeded_spec _ (fewP p 6) hL) XH7 rfl rfl ?_
  refine Oo u53 .calm rfl (v_is true rfl (by simp)) ?_
  refine Oo u53 .calm rfl (ZM rfl rfl rfl) ?_
  refine Oo u53 .calm rfl (Zb (.inl rfl) rfl) ?_
  refine ZU (env' := u53) rfl rfl rfl rfl rfl (by exact hwakes_spec _) XH7 rfl rfl ?_
  refine Oo u53 .calm rfl (ZM rfl rfl rfl) ?_
  refine Oo u53 .calm rfl (Zb (.inr rfl) rfl) ?_
  refine O_nilP [(10, 11), (10, 12)] XH1 (And.intro ⟨_, _, _, _, ⟨(gA (gA (gA (gA (gA (gA (gA (gA (gA (gL XH1)))))))))), (gA (gA (gA (gA (gA (gA (gA (gA (gL XH1))))))))), And.intro (W2p rfl rfl rfl rfl rfl) (W2p rfl rfl rfl rfl rfl)⟩⟩ (And.intro ⟨_, _, _, _, ⟨(gA (gA (gA (gA (gA (gA (gA (gA (gA (gL XH1)))))))))), (gA (gA (gA (gA (gA (gA (gA (gL XH1)))))))), And.intro (W2p rfl rfl rfl rfl rfl) (W2p rfl rfl rfl rfl rfl)⟩⟩ (trivial))) ?_
  refine Zc (Zi ?_)
  refine W10 (.inr rfl) (Zh rfl rfl) ?_
  exact ⟨rfl, rfl⟩
theorem HardyWeak_law {x : SW} (p : Pb) (m : Int) (hu : -9223372036854775808 ≤ p.users ∧ p.users < 9223372036854775808) (hm : -9223372036854775808 ≤ m ∧ m < 9223372036854775808) : F (psys x) 11 [.agg (pbB p), iI m] [] fun v G => v = .bool true := (HardyWeak_walk [] p m hu hm).mono fun v G h => h.1
end Go.Proofs.YtgbahioegcpjiaaDoor.VT
