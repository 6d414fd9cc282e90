/- Proved: Rows.HardyProofCardSaid, the statement HardyProof with its card, of the given program at the commit; no conditions beyond those in the statement. -/
import Derived.Test.YtgbahioegcpjiaaDoorC9x16
import Derived.Test.YtgbahioegcpjiaaDoorRows
import Derived.LaidMore
import Derived.Stop.Joined
set_option autoImplicit false
set_option linter.unusedVariables false
set_option maxRecDepth 100000
namespace Go.Proofs.YtgbahioegcpjiaaDoor.VT
open Go Go.V Go.RowKit Go.Shelf Go.ChangeShapes Go.WideShapes Go.ChangeAt Go.WideMaps Go.WideElems
theorem own : ownKnob Tryd.prog.godebug = none := by kernel_rfl
theorem laidOut : laidOutB Tryd.prog = true := by kernel_rfl
theorem gTab : Tryd.prog.globalNamed "math/bits.deBruijn64tab" = some 0 := by kernel_rfl
theorem tTab : (Tryd.prog.globals[0]?).map (·.type) = some 180 := by kernel_rfl
abbrev laidL : List (String × DataW Unit) := [("math/bits.deBruijn64tab", Rows.laid_math_bits_deBruijn64tab)]
theorem door_met (os : Os) (args : Array Value) : laidMetH Tryd.prog laidL ((World.doorLaid Tryd.prog 400 os).forCall (fun _ _ => 0) ⟨#[], args, []⟩).memory :=
  laidMetH_of_parts3 (fuel := 8) (laidMet_of_run' 8 XH2 XH2) XH2 XH2
theorem laid_tab : (Rows.laid_math_bits_deBruijn64tab : DataW Unit) = .agg (Lib.deBruijn64tab.map fun n : Nat => .lit (.int .u8 (n : Int))) := by kernel_rfl
theorem of_laid {W : World} (h : laidMetH Tryd.prog laidL W) : 0 < W.heap.size ∧ TabAt 0 Lib.deBruijn64tab W := by
  rw [MakeChecks.laidMetH_plain _ _ _ XH2] at h
  obtain ⟨ps, ⟨g0, t0, cs0, f0, p0, q0, hg0, ht0, hv0, hd0, _, _⟩, _, _⟩ := h
  obtain rfl := Option.some.inj (gTab.symm.trans hg0)
  obtain rfl := Option.some.inj (tTab.symm.trans ht0)
  obtain ⟨xs, m, rfl, hx, hlen, hn, hel⟩ := DataW.trod_array Tryd.underlying180 hd0
  have c5 : Tryd.prog.cellsOf 5 = 1 := by kernel_rfl
  rw [c5] at hel
  simp only [Prod.mk.injEq] at hx
  have hx1 := hx.1
  rw [laid_tab] at hx1
  simp only [DataW.agg.injEq] at hx1
  have key : TabAt 0 Lib.deBruijn64tab W := by
    intro j hj
    have hj' : j < 64 := hj
    have h1 := hel j hj'
    have hxl : j < xs.length := by rw [hn]; exact hj'
    have hxj : xs[j]? = some xs[j] := by simp [hxl]
    rw [hxj] at h1
    obtain ⟨n, e1, e2, _⟩ := DataW.trod_int Tryd.underlying5 h1
    have h2 : (xs.map (·.1))[j]? = (Lib.deBruijn64tab.map fun n : Nat => (DataW.lit (.int .u8 (n : Int)) : DataW Unit))[j]? := by rw [← hx1]
    rw [List.getElem?_map, List.getElem?_map, hxj] at h2
    have hjl : j < Lib.deBruijn64tab.length := hj
    rw [List.getElem?_eq_getElem hjl] at h2
    simp only [Option.map_some, Option.some.injEq] at h2
    rw [e2] at h2
    simp only [DataW.lit.injEq, Lit.int.injEq, true_and] at h2
    have h3 := World.var?_cell hg0 hv0 j
    have h4 : cs0[j]? = some (.int .u8 n) := by
      have : cs0.toList[j]? = some (.int .u8 n) := by
        rw [← List.head?_drop]
        rw [Nat.mul_one] at e1
        cases hd : cs0.toList.drop j with
        | nil => rw [hd] at e1; simp at e1
        | cons c r => rw [hd] at e1; simp at e1; rw [e1]; rfl
      simpa using this
    rw [h4] at h3
    rw [h3, h2]
    simp [List.getD_eq_getElem?_getD, hjl]
  refine ⟨?_, key⟩
  have h0 := key 0 (by decide)
  simp only [World.cell?] at h0
  split at h0
  · rename_i hh; exact (Array.getElem?_eq_some_iff.1 hh).1
  · cases h0
def sw {W : World} (h : laidMetH Tryd.prog laidL W) : SW := ⟨W, (of_laid h).1, (of_laid h).2⟩
open Go Go.V Go.RowKit Go.ChangeShapes
abbrev T3 : Type := Int
abbrev e3 : T3 → List VVal := fun x => [iI x]
abbrev k3 : T3 → Prop := fun n => -9223372036854775808 ≤ n ∧ n < 9223372036854775808
theorem op3 : Opens Tryd.prog 3 T3 e3 k3 := Opens.int Tryd.underlying3 XH2
abbrev T27 : Type := BitVec 64
abbrev e27 : T27 → List VVal := fun x => [iW x]
abbrev k27 : T27 → Prop := fun _ => True
theorem op27 : Opens Tryd.prog 27 T27 e27 k27 := Opens.word Tryd.underlying27 XH2
abbrev T22 : Type := List T27
abbrev e22 : T22 → List VVal := fun x => [(fun l : List T27 => VVal.fsl (l.map iW) l.length 1 false) x]
abbrev k22 : T22 → Prop := fun l => l.length * 8 ≤ 140737488351232 ∧ ∀ x, x ∈ l → k27 x
theorem op22 : Opens Tryd.prog 22 T22 e22 k22 := Opens.slice1 (g := iW) 8 op27 Tryd.underlying22 XH2 XH2 XH2
abbrev T23 : Type := List T3
abbrev e23 : T23 → List VVal := fun x => [(fun l : List T3 => VVal.fsl (l.map iI) l.length 1 false) x]
abbrev k23 : T23 → Prop := fun l => l.length * 8 ≤ 140737488351232 ∧ ∀ x, x ∈ l → k3 x
theorem op23 : Opens Tryd.prog 23 T23 e23 k23 := Opens.slice1 (g := iI) 8 op3 Tryd.underlying23 XH2 XH2 XH2
abbrev T75 : Type := T3 × T3 × T23 × Unit
abbrev e75 : T75 → List VVal := fun x => e3 (x.1) ++ (e3 (x.2.1) ++ (e23 (x.2.2.1) ++ ([])))
abbrev k75 : T75 → Prop := fun x => k3 (x.1) ∧ (k3 (x.2.1) ∧ (k23 (x.2.2.1) ∧ (True)))
theorem op75 : Opens Tryd.prog 75 T75 e75 k75 := Opens.struct Tryd.underlying75 (.cons op3 XH2 (.cons op3 XH2 (.cons op23 XH2 (.nil _)))) (fun a => by kernel_rfl)
abbrev T24 : Type := List T75
abbrev e24 : T24 → List VVal := fun x => [(fun l : List T75 => VVal.fsl (l.flatMap e75) l.length 3 false) x]
abbrev k24 : T24 → Prop := fun l => l.length * 40 ≤ 140737488351232 ∧ ∀ x, x ∈ l → k75 x
theorem op24 : Opens Tryd.prog 24 T24 e24 k24 := Opens.slice 3 40 op75 Tryd.underlying24 XH2 XH2 XH2 (by decide)
abbrev T26 : Type := T3 × T22 × T23 × T24 × Unit
abbrev e26 : T26 → List VVal := fun x => e3 (x.1) ++ (e22 (x.2.1) ++ (e23 (x.2.2.1) ++ (e24 (x.2.2.2.1) ++ ([]))))
abbrev k26 : T26 → Prop := fun x => k3 (x.1) ∧ (k22 (x.2.1) ∧ (k23 (x.2.2.1) ∧ (k24 (x.2.2.2.1) ∧ (True))))
theorem op26 : Opens Tryd.prog 26 T26 e26 k26 := Opens.struct Tryd.underlying26 (.cons op3 XH2 (.cons op22 XH2 (.cons op23 XH2 (.cons op24 XH2 (.nil _))))) (fun a => by kernel_rfl)
abbrev T5 : Type := UInt8
abbrev e5 : T5 → List VVal := fun x => [(fun w : UInt8 => VVal.int .u8 w.toNat) x]
set_option linter.unusedSimpArgs false
set_option maxHeartbeats 4000000
open Go Go.V Go.RowKit
abbrev Zh {a0 a1 a2 a3 a4 a5 a6 a7 a8 a9 a10 a11 a12 a13 a14 a15 a16 a17 a18 a19 a20 a21 a22 a23 a24 a25 a26 a27 a28 a29 a30 a31 a32 a33 a34 a35 a36 a37 a38 a39 a40 a41 a42 a43 a44 a45 a46 a47 a48 a49 a50 a51 a52 a53 a54 a55 a56 a57 a58 a59 a60 a61 a62 a63 a64 a65 a66 a67 a68 a69 a70 a71 a72 a73 a74 a75 a76 a77 a78 a79 a80 a81 a82 a83 a84 a85 a86 a87 a88 a89 a90 a91 a92 a93 a94 a95 a96 a97 a98 a99 a100 a101 a102 a103 a104 a105 a106 a107 a108 a109 a110 a111 a112 a113 a114 a115 a116 a117 a118 a119 a120 a121 a122 a123 a124 a125 a126 a127 a128 a129 a130 a131 a132 a133 a134 a135 a136 a137 a138 a139 a140 a141 a142 a143 a144 a145 a146 a147 a148 a149 a150 a151 a152 a153 a154 a155 a156 a157 a158 a159 a160 a161 a162 a163 a164 a165 a166 a167 a168 a169 a170 a171 a172 a173 a174 a175 a176 a177 a178 a179 a180 a181 a182 a183 a184 a185 a186 a187 a188 a189 a190 a191 a192 a193 a194 a195 a196 a197 a198 a199 a200 a201 a202 a203 a204 a205 a206 a207 a208 a209 a210 a211 a212 a213 a214 a215 a216 a217 a218 a219 : VVal} : VEnv := a0 :: a1 :: a2 :: a3 :: a4 :: a5 :: a6 :: a7 :: a8 :: a9 :: a10 :: a11 :: a12 :: a13 :: a14 :: a15 :: a16 :: a17 :: a18 :: a19 :: a20 :: a21 :: a22 :: a23 :: a24 :: a25 :: a26 :: a27 :: a28 :: a29 :: a30 :: a31 :: a32 :: a33 :: a34 :: a35 :: a36 :: a37 :: a38 :: a39 :: a40 :: a41 :: a42 :: a43 :: a44 :: a45 :: a46 :: a47 :: a48 :: a49 :: a50 :: a51 :: a52 :: a53 :: a54 :: a55 :: a56 :: a57 :: a58 :: a59 :: a60 :: a61 :: a62 :: a63 :: a64 :: a65 :: a66 :: a67 :: a68 :: a69 :: a70 :: a71 :: a72 :: a73 :: a74 :: a75 :: a76 :: a77 :: a78 :: a79 :: a80 :: a81 :: a82 :: a83 :: a84 :: a85 :: a86 :: a87 :: a88 :: a89 :: a90 :: a91 :: a92 :: a93 :: a94 :: a95 :: a96 :: a97 :: a98 :: a99 :: a100 :: a101 :: a102 :: a103 :: a104 :: a105 :: a106 :: a107 :: a108 :: a109 :: a110 :: a111 :: a112 :: a113 :: a114 :: a115 :: a116 :: a117 :: a118 :: a119 :: a120 :: a121 :: a122 :: a123 :: a124 :: a125 :: a126 :: a127 :: a128 :: a129 :: a130 :: a131 :: a132 :: a133 :: a134 :: a135 :: a136 :: a137 :: a138 :: a139 :: a140 :: a141 :: a142 :: a143 :: a144 :: a145 :: a146 :: a147 :: a148 :: a149 :: a150 :: a151 :: a152 :: a153 :: a154 :: a155 :: a156 :: a157 :: a158 :: a159 :: a160 :: a161 :: a162 :: a163 :: a164 :: a165 :: a166 :: a167 :: a168 :: a169 :: a170 :: a171 :: a172 :: a173 :: a174 :: a175 :: a176 :: a177 :: a178 :: a179 :: a180 :: a181 :: a182 :: a183 :: a184 :: a185 :: a186 :: a187 :: a188 :: a189 :: a190 :: a191 :: a192 :: a193 :: a194 :: a195 :: a196 :: a197 :: a198 :: a199 :: a200 :: a201 :: a202 :: a203 :: a204 :: a205 :: a206 :: a207 :: a208 :: a209 :: a210 :: a211 :: a212 :: a213 :: a214 :: a215 :: a216 :: a217 :: a218 :: a219 :: []
theorem W6y {T : TypeId → Option VTy} {H : Ze} {op : Op} {ρ : Operand → VVal} {t : TypeId} {a : Operand} {y : VTy} {p : VVal} {n : Nat} {vs : List VVal} (ho : op = .load t a) (ha : ρ a = p) (hy : T t = some y) (hd : Zm y.desc = true) (hn : y.size = n) (h : LdOkA H p n vs := by first | exact .inl ⟨_, _, rfl, XH39⟩ | exact .inr ⟨_, _, _, _, rfl, XH34, XH39⟩) : vop T ρ H op = some (.agg vs, H) := v_ldA ho ha hy hd hn h
theorem W70 {T : TypeId → Option VTy} {H : Ze} {op : Op} {ρ : Operand → VVal} {t : TypeId} {a : Operand} {y : VTy} {p v : VVal} (ho : op = .load t a) (ha : ρ a = p) (hy : T t = some y) (hd : Zm y.desc = false) (h : LdOk H p v := by first | exact .inl ⟨_, _, rfl, XH39⟩ | exact .inr ⟨_, _, _, _, rfl, XH34, XH39⟩) : vop T ρ H op = some (v, H) := YE ho ha hy hd h
theorem HardyProof_walk {x : SW} (H : Ze) (p : Pb) (ws : List (BitVec 64)) (hu : -9223372036854775808 ≤ p.users ∧ p.users < 9223372036854775808) : F (psys x) 13 [.agg (pbB p), fzW ws] H fun v G => v = .bool true ∧ G = H := by
 have hL := fewP_L (m := 6) hu
 refine Zr Tryd.func13 rfl Zh rfl ?_
 refine Zd (Za ?_)
 refine Lo Zh (Zv rfl rfl rfl) ?_
 refine Lo Zh (Zg (VVal.bool false) (.inr rfl) rfl) ?_
 refine Zf (Zc (Zd ?_))
 refine Z5 (Gh.freezePtrL (cs := pbB p) 2 0 rfl rfl rfl) ?_
 refine Za ?_
 refine Lo Zh (W6y rfl rfl rfl rfl rfl) ?_
 refine Zn rfl rfl rfl (by exact Few_spec _ p 6 hu) ?_
 rintro _ _ ⟨rfl, rfl⟩
 refine Le Zh ?_
 refine Lo Zh (Zs rfl rfl) ?_
 refine Lo Zh (W13 rfl rfl rfl rfl rfl rfl rfl) ?_
 refine Zf (Zc (Zd ?_))
 refine Z5 (Gh.freezePtrL (cs := pbB (Yk p 6)) 5 1 rfl rfl rfl) ?_
 refine Za ?_
 refine Zn rfl rfl rfl (by exact sNew_spec _) ?_
 rintro _ _ ⟨rfl, rfl⟩; rw [List.append_assoc, List.length_append]
 refine Le Zh ?_
 refine Lo Zh (Zb (.inr rfl) rfl) ?_
 refine Zf (Zc (Zd (Zd (Za ?_))))
 refine Lo Zh (Zb (.inl rfl) rfl) ?_
 refine Lo Zh (Yn false rfl rfl) ?_
 refine Lo Zh (Zb (.inl rfl) rfl) ?_
 refine Zn rfl rfl rfl (by exact hwakes_spec _) ?_
 rintro _ _ ⟨rfl, rfl⟩
 refine Le Zh ?_
 refine Lo Zh (rfl) ?_
 refine Lo Zh (ZP rfl rfl rfl) ?_
 refine Zf (Zc ?_)
 refine ZG rfl rfl ?_
 refine Zj (Zc (Zd (Zd (Za ?_))))
 refine Lo Zh (rfl) ?_
 refine Lo Zh (W70 rfl rfl rfl rfl) ?_
 refine Lo Zh (rfl) ?_
 refine Lo Zh (Zb (.inl rfl) rfl) ?_
 refine ZQ 33 (env1 := Zh) (env2 := Zh) rfl rfl rfl (fun hg1 => ?_) (fun hg1 => ?_)
 ·try simp only [qB, qN] at hg1
  refine Lo Zh (rfl) ?_
  refine Lo Zh (W70 rfl rfl rfl rfl) ?_
  refine Lo Zh (rfl) ?_
  refine Lo Zh (ZH rfl rfl rfl) ?_
  refine Zf (Zc ?_)
  refine Zp _ rfl (fun hc2 => ?_) (fun hc2 => ?_)
  ·try simp only [qB, qN] at hc2
   refine Zd (Za ?_)
   refine Lo Zh (Zg (VVal.bool true) (.inr rfl) rfl) ?_
   refine Zf (Zc ?_)
   try refine Yl (List.append_assoc _ _ _) ?_
   refine Zl (Zq ?_)
   refine W10 (.inr rfl) (Zi rfl rfl) ?_
   exact ⟨rfl, rfl⟩
  ·try simp only [qB, qN] at hc2
   refine Zj (Zc (Zd (Zd (Za ?_))))
   refine Lo Zh (W6y rfl rfl rfl rfl rfl) ?_
   refine Zn rfl rfl rfl XH14 ?_
   rintro _ _ ⟨rfl, rfl⟩
   refine Le Zh ?_
   refine Zn rfl rfl rfl (by exact Ye _ (Yk p 6) hL) ?_
   rintro _ _ ⟨rfl, rfl⟩
   refine Le Zh ?_
   refine Lo Zh (rfl) ?_
   refine Zf (Zc ?_)
   refine Zp _ rfl (fun hc3 => ?_) (fun hc3 => ?_)
   ·try simp only [qB, qN] at hc3
    refine Zd (Za ?_)
    refine Lo Zh (W6y rfl rfl rfl rfl rfl) ?_
    refine Zn rfl rfl rfl XH14 ?_
    rintro _ _ ⟨rfl, rfl⟩
    refine Le Zh ?_
    refine Zn rfl rfl rfl (by exact Grade_spec _ (Yk p 6) hL) ?_
    rintro _ _ ⟨rfl, rfl⟩
    refine Le Zh ?_
    refine Lo Zh (Yn true rfl (by rw [grN_no (by assumption)]; rfl)) ?_
    refine Lo Zh (Zb (.inl rfl) rfl) ?_
    refine Lo Zh (W6y rfl rfl rfl rfl rfl) ?_
    refine Zn rfl rfl rfl XH14 ?_
    rintro _ _ ⟨rfl, rfl⟩
    refine Le Zh ?_
    refine Zn rfl rfl rfl (by exact Needed_spec _ (Yk p 6) hL) ?_
    rintro _ _ ⟨rfl, rfl⟩
    refine Le Zh ?_
    refine Lo Zh (Yn true rfl (by rw [neP_no (brs_no (by assumption))]; rfl)) ?_
    refine Lo Zh (ZH rfl rfl rfl) ?_
    refine Lo Zh (Zb (.inr rfl) rfl) ?_
    refine Zf (Zc ?_)
    try refine Yl (List.append_assoc _ _ _) ?_
    refine Zl (Zq ?_)
    refine W10 (.inr rfl) (Zi rfl rfl) ?_
    exact ⟨rfl, rfl⟩
   ·try simp only [qB, qN] at hc3
    refine Zj (Zc (Zd ?_))
    have h0 : pck (Yk p 6) = 0 := by first | assumption | simp_all
    have g := pck_good.1 h0
    have g2 := g.u64; have g4 := g.u0
    have g3 := gr_3 h0
    refine Za ?_
    refine Lo Zh (W6y rfl rfl rfl rfl rfl) ?_
    refine Zn rfl rfl rfl XH14 ?_
    rintro _ _ ⟨rfl, rfl⟩
    refine Le Zh ?_
    refine Zn rfl rfl rfl (by exact Grade_spec _ (Yk p 6) hL) ?_
    rintro _ _ ⟨rfl, rfl⟩
    refine Le Zh ?_
    refine Lo Zh (Zb (.inr rfl) rfl) ?_
    refine Zf (Zc (Zd (Zd (Za ?_))))
    refine Lo Zh (Zb (.inl rfl) rfl) ?_
    refine Lo Zh (rfl) ?_
    refine Lo Zh (Zb (.inl rfl) rfl) ?_
    refine Lo Zh (W6y rfl rfl rfl rfl rfl) ?_
    refine Zn rfl rfl rfl XH14 ?_
    rintro _ _ ⟨rfl, rfl⟩
    refine Le Zh ?_
    refine Zn rfl rfl rfl (by exact Can_spec _ (H.length + 2) _ XH32 (Yk p 6) hL) ?_
    rintro _ _ ⟨rfl, rfl⟩; (first | rw [setB rfl (show 2 < 3 by decide)] | rw [ZI rfl])
    refine Le Zh ?_
    refine Lo Zh (Yn false rfl (by show ((decide (grN _ < 0)) == _) = false; rw [gr_neg h0]; cases (leA (Yk p 6)).isSome <;> rfl)) ?_
    refine Zf (Zc ?_)
    refine ZG rfl rfl ?_
    refine Zj (Zc (Zd (Zd (Za ?_))))
    refine Lo Zh (Zg (VVal.int .i64 0) (.inr rfl) rfl) ?_
    refine Zf (Zc (Zo ?_))
    refine ZB (mk 220 1684996666696914987166688442938726917102321526408785780068975640093) (env' := Zh) rfl ?_
    refine ZF (fun (k : Nat) => 4 - k) (fun (k : Nat) => [(8, iI (k : Nat))]) (fun (k : Nat) G => (k ≤ 4) ∧ ∃ X g1, G = (H ++ [.dead, .dead, gaB g1]) ++ X) 0 rfl ?_ ?_
    ·refine ⟨?_, ⟨[], _, by rw [List.append_nil]; rfl⟩⟩
     exact Nat.zero_le _
    rintro k _ ⟨hk9, ⟨X, g1, rfl⟩⟩
    refine ZU (env' := Zh) rfl ?_
    refine Zd (Zd (Za ?_))
    refine Lo Zh (Zb (.inl rfl) rfl) ?_
    refine Lo Zh (rfl) ?_
    refine Zf (Zc ?_)
    refine Zp _ rfl (fun hc4 => ?_) (fun hc4 => ?_)
    ·try simp only [qB, qN] at hc4
     refine Zj (Zc (Zd (Zo (Zd (Za ?_)))))
     refine Lo Zh (W6y rfl rfl rfl rfl rfl) ?_
     refine Zn rfl rfl rfl XH14 ?_
     rintro _ _ ⟨rfl, rfl⟩
     refine Le Zh ?_
     refine Lo Zh (Zb (.inl rfl) rfl) ?_
     refine Zn rfl rfl rfl (by exact Weak_spec _ (Yk p 6) hL (k : Nat) (by omega)) ?_
     rintro v _ ⟨hv, rfl⟩; obtain ⟨l, ok, he, q1, q2, q3⟩ := waV_eq (Yk p 6) ((k : Nat) : Int); rw [he] at hv; subst hv
     refine Le Zh ?_
     refine Lo Zh (Zb (.inl rfl) rfl) ?_
     refine Lo Zh (rfl) ?_
     refine Lo Zh (rfl) ?_
     refine Lo Zh (Zb (.inr rfl) rfl) ?_
     refine Lo Zh (Zb (.inr rfl) rfl) ?_
     refine Zf (Zc (Zd (Zd (Za ?_))))
     refine Lo Zh (Zb (.inl rfl) rfl) ?_
     refine Lo Zh (rfl) ?_
     refine Zf (Zc ?_)
     refine Zp _ rfl (fun hc5 => ?_) (fun hc5 => ?_)
     ·try simp only [qB, qN] at hc5
      refine ZL (ZJ (ZK (Zc (Za ?_))))
      refine Lo Zh (Zb (.inl rfl) rfl) ?_
      refine Lo Zh (W14 rfl rfl rfl) ?_
      refine Lo Zh (Zb (.inr rfl) rfl) ?_
      refine Zf ?_
      refine ZE (mk 220 1684996666696914987166688442938726917102321526408785780068975640093) (env' := Zh) rfl ⟨k + 1, ?_, rfl, ?_⟩
      ·first | omega | (simp only []; omega)
      ·exact ⟨by omega, _, _, rfl⟩
     ·try simp only [qB, qN] at hc5
      refine Zj (Zc (Zd ?_))
      have hok : ok = true := by first | assumption | simp_all
      obtain ⟨w1, w2, w3, w4, w5⟩ := hp_weak h0 (by omega) (q2 hok)
      refine Za ?_
      refine Lo Zh (Zg (VVal.int .u64 0) (.inr rfl) rfl) ?_
      refine Zf (Zc (Zd (Zd (Za ?_))))
      refine Lo Zh (Zg (VVal.int .i64 0) (.inr rfl) rfl) ?_
      refine Zf (Zc (Zo ?_))
      refine ZB (mk 220 1684996666696914987166688442938726917102321526408785780068975633437) (env' := Zh) rfl ?_
      refine ZF (fun (j : Nat) => l.length - j) (fun (j : Nat) => [(11, iW (wl (l.take j))), (12, iI (j : Nat))]) (fun (j : Nat) G => (j ≤ l.length) ∧ G = (H ++ [.dead, .dead, gaB g1]) ++ X) 0 rfl ?_ ?_
      ·refine ⟨?_, rfl⟩
       exact Nat.zero_le _
      rintro j _ ⟨hj9, rfl⟩
      refine ZU (env' := Zh) rfl ?_
      refine Zd (Zd (Za ?_))
      refine Lo Zh (Zb (.inl rfl) rfl) ?_
      refine Lo Zh (Zb (.inl rfl) rfl) ?_
      refine Lo Zh (rfl) ?_
      refine Lo Zh (rfl) ?_
      refine Zf (Zc ?_)
      refine Zp _ rfl (fun hc6 => ?_) (fun hc6 => ?_)
      ·try simp only [qB, qN] at hc6
       refine Zj (Zc (Zd (Zo (Zd (Zd ?_)))))
       have hin := w2 _ (getD_in (show j < l.length by omega))
       refine ZY [0, 1, 2, 3, 4, 5, 6, 7, 8, 9, 10, 11, 12, 13, 14, 15, 16, 17, 18, 19, 20, 21, 22, 23, 24, 25, 26, 27, 28, 29] #[0, 0, 3, 7, 15, 31, 63, 63, 255, 511, 63, 1087, 4095, 8191, 16383, 32767, 65535, 131071, 262143, 262143, 786431, 2097151, 4194303, 262143, 262143, 25427967, 58982399, 134217727, 268435455, 536870911] XH2 XH2 XH2 ?_
       refine Oo Zh .calm rfl (Zb (.inl rfl) rfl) ?_
       refine Oo Zh .calm rfl (Zb (.inl rfl) rfl) ?_
       refine Oo Zh .calm rfl (W18 rfl rfl rfl rfl rfl rfl rfl) ?_
       refine Oo Zh .look rfl (W70 rfl rfl rfl rfl) ?_
       refine Oo Zh .calm rfl (Yn false rfl (decide_eq_false (by omega))) ?_
       refine Oo Zh .calm rfl (Zb (.inl rfl) rfl) ?_
       refine Oo Zh .calm rfl (Zb (.inl rfl) rfl) ?_
       refine Oo Zh .calm rfl (Zb (.inl rfl) rfl) ?_
       refine Oo Zh .calm rfl (W18 rfl rfl rfl rfl rfl rfl rfl) ?_
       refine Oo Zh .look rfl (W70 rfl rfl rfl rfl) ?_
       refine Oo Zh .calm rfl (rfl) ?_
       refine Oo Zh .look rfl (W70 rfl rfl rfl rfl) ?_
       refine Oo Zh .calm rfl (Yn false rfl (decide_eq_false (by omega))) ?_
       refine Oo Zh .calm rfl (ZP rfl rfl rfl) ?_
       refine Oo Zh .calm rfl (Zb (.inl rfl) rfl) ?_
       refine Oo Zh .calm rfl (Zb (.inl rfl) rfl) ?_
       refine Oo Zh .calm rfl (rfl) ?_
       refine Oo Zh .calm rfl (Zb (.inl rfl) rfl) ?_
       refine O_split 98 (env1 := Zh) (env2 := Zh) rfl rfl rfl (fun hg7 => ?_) (fun hg7 => ?_)
       ·try simp only [qB, qN] at hg7
        refine Oo Zh .calm rfl (Zb (.inl rfl) rfl) ?_
        refine Oo Zh .calm rfl (Zb (.inl rfl) rfl) ?_
        refine Oo Zh .calm rfl (v_val (v_subI rfl rfl rfl (by omega)) (show iI (((j : Nat) : Int) - 1) = iI ((j - 1 : Nat) : Int) by congr 1; omega)) ?_
        refine Oo Zh .calm rfl (W18 rfl rfl rfl rfl rfl rfl rfl) ?_
        refine Oo Zh .look rfl (W70 rfl rfl rfl rfl) ?_
        refine Oo Zh .calm rfl (Zb (.inl rfl) rfl) ?_
        refine Oo Zh .calm rfl (Zb (.inl rfl) rfl) ?_
        refine Oo Zh .calm rfl (W18 rfl rfl rfl rfl rfl rfl rfl) ?_
        refine Oo Zh .look rfl (W70 rfl rfl rfl rfl) ?_
        refine Oo Zh .calm rfl (Yn false rfl (decide_eq_false (by have h9 := pw_at w1 (show 0 < j by omega) (show j < l.length by omega); omega))) ?_
        refine Oo Zh .calm rfl (ZH rfl rfl rfl) ?_
        refine Oo Zh .calm rfl (ZP rfl rfl rfl) ?_
        refine ZT [] XH2 (trivial) ?_
        refine Zc ?_
        refine ZG rfl rfl ?_
        refine Zj (Zc (Za ?_))
        refine Lo Zh (Zb (.inl rfl) rfl) ?_
        refine Lo Zh (Zb (.inl rfl) rfl) ?_
        refine Lo Zh (Zb (.inl rfl) rfl) ?_
        refine Lo Zh (W18 rfl rfl rfl rfl rfl rfl rfl) ?_
        refine Lo Zh (W70 rfl rfl rfl rfl) ?_
        refine Lo Zh (v_shl1 rfl rfl rfl XH5) ?_
        refine Lo Zh (v_val (v_orW rfl rfl rfl) (congrArg iW (wl_take (show j < l.length by omega)))) ?_
        refine Lo Zh (Zb (.inr rfl) rfl) ?_
        refine Zf (Zx (Zc (Za ?_)))
        refine Lo Zh (Zb (.inl rfl) rfl) ?_
        refine Lo Zh (W14 rfl rfl rfl) ?_
        refine Lo Zh (Zb (.inr rfl) rfl) ?_
        refine Zf ?_
        refine ZE (mk 220 1684996666696914987166688442938726917102321526408785780068975633437) (env' := Zh) rfl ⟨j + 1, ?_, rfl, ?_⟩
        ·first | omega | (simp only []; omega)
        ·exact ⟨by omega, rfl⟩
       ·try simp only [qB, qN] at hg7
        refine Of Zh rfl ?_
        refine Of Zh rfl ?_
        refine Of Zh rfl ?_
        refine Of Zh rfl ?_
        refine Of Zh rfl ?_
        refine Of Zh rfl ?_
        refine Of Zh rfl ?_
        refine Of Zh rfl ?_
        refine Of Zh rfl ?_
        refine Of Zh rfl ?_
        refine Oo Zh .calm rfl (Zz (VVal.bool false) rfl rfl rfl) ?_
        refine Oo Zh .calm rfl (ZP rfl rfl rfl) ?_
        refine ZT [] XH2 (trivial) ?_
        refine Zc ?_
        refine ZG rfl rfl ?_
        refine Zj (Zc (Za ?_))
        refine Lo Zh (Zb (.inl rfl) rfl) ?_
        refine Lo Zh (Zb (.inl rfl) rfl) ?_
        refine Lo Zh (Zb (.inl rfl) rfl) ?_
        refine Lo Zh (W18 rfl rfl rfl rfl rfl rfl rfl) ?_
        refine Lo Zh (W70 rfl rfl rfl rfl) ?_
        refine Lo Zh (v_shl1 rfl rfl rfl XH5) ?_
        refine Lo Zh (v_val (v_orW rfl rfl rfl) (congrArg iW (wl_take (show j < l.length by omega)))) ?_
        refine Lo Zh (Zb (.inr rfl) rfl) ?_
        refine Zf (Zx (Zc (Za ?_)))
        refine Lo Zh (Zb (.inl rfl) rfl) ?_
        refine Lo Zh (W14 rfl rfl rfl) ?_
        refine Lo Zh (Zb (.inr rfl) rfl) ?_
        refine Zf ?_
        refine ZE (mk 220 1684996666696914987166688442938726917102321526408785780068975633437) (env' := Zh) rfl ⟨j + 1, ?_, rfl, ?_⟩
        ·first | omega | (simp only []; omega)
        ·exact ⟨by omega, rfl⟩
      ·try simp only [qB, qN] at hc6
       refine ZL (ZJ (ZA (ZK (Zc (Zd ?_)))))
       obtain rfl : j = l.length := by omega
       rw [List.take_length]
       refine Za ?_
       refine Lo Zh (W6y rfl rfl rfl rfl rfl) ?_
       refine Zn rfl rfl rfl XH14 ?_
       rintro _ _ ⟨rfl, rfl⟩
       refine Le Zh ?_
       refine Lo Zh (Zb (.inl rfl) rfl) ?_
       refine Zn rfl rfl rfl (by exact Lose_spec _ (Yk p 6) hL (wl l)) ?_
       rintro _ _ ⟨rfl, rfl⟩
       refine Le Zh ?_
       refine Lo Zh (Zb (.inl rfl) rfl) ?_
       refine Lo Zh (rfl) ?_
       refine Lo Zh (rfl) ?_
       refine Lo Zh (Zs rfl rfl) ?_
       refine Lo Zh (W13 rfl rfl rfl rfl rfl rfl rfl) ?_
       refine Lo Zh (Zb (.inr rfl) rfl) ?_
       refine Zf (Zc (Zd (Za ?_)))
       refine Lo Zh (Zb (.inl rfl) rfl) ?_
       refine Lo Zh (rfl) ?_
       refine Lo Zh (Zb (.inl rfl) rfl) ?_
       refine Lo Zh (Yn false rfl XH22) ?_
       refine Lo Zh (Zb (.inl rfl) rfl) ?_
       refine Lo Zh (Zb (.inl rfl) rfl) ?_
       refine Lo Zh (Yn false rfl (by rw [h0]; rfl)) ?_
       refine Lo Zh (ZP rfl rfl rfl) ?_
       refine Lo Zh (Zb (.inl rfl) rfl) ?_
       refine Lo Zh (Zb (.inl rfl) rfl) ?_
       refine Lo Zh (W6y rfl rfl rfl rfl rfl) ?_
       refine Zn rfl rfl rfl (by exact Can_spec _ (H.length + 2) _ XH32 (loV (Yk p 6) (wl l)) (loV_L hL)) ?_
       rintro v _ ⟨hv, rfl⟩; (first | rw [setB rfl (show 2 < 3 by decide)] | rw [ZI rfl]); obtain rfl : v = .bool false := hv.trans (congrArg VVal.bool w4)
       refine Le Zh ?_
       refine Lo Zh (ZP rfl rfl rfl) ?_
       refine Lo Zh (Zb (.inl rfl) rfl) ?_
       refine Lo Zh (Zb (.inl rfl) rfl) ?_
       refine Lo Zh (Zb (.inl rfl) rfl) ?_
       refine Lo Zh (Yn false rfl XH22) ?_
       refine Lo Zh (ZP rfl rfl rfl) ?_
       refine Zf (Zc ?_)
       refine ZG rfl rfl ?_
       refine Zj (Zx (Zc (Za ?_)))
       refine Lo Zh (Zb (.inl rfl) rfl) ?_
       refine Lo Zh (W14 rfl rfl rfl) ?_
       refine Lo Zh (Zb (.inr rfl) rfl) ?_
       refine Zf ?_
       refine ZE (mk 220 1684996666696914987166688442938726917102321526408785780068975640093) (env' := Zh) rfl ⟨k + 1, ?_, rfl, ?_⟩
       ·first | omega | (simp only []; omega)
       ·exact ⟨by omega, _, _, rfl⟩
    ·try simp only [qB, qN] at hc4
     refine ZL (ZJ (ZA (ZK (Zc (Zd (Zd (Za ?_)))))))
     refine Lo Zh (Zg (VVal.int .i64 0) (.inr rfl) rfl) ?_
     refine Zf (Zc (Zo ?_))
     refine ZB (mk 220 1684996666696914987166688442938726917102321526408785780068975607581) (env' := Zh) rfl ?_
     refine ZF (fun (i : Nat) => ws.length - i) (fun (i : Nat) => [(15, iI (i : Nat))]) (fun (i : Nat) G => (i ≤ ws.length) ∧ ∃ X g1, G = (H ++ [.dead, .dead, gaB g1]) ++ X) 0 rfl ?_ ?_
     ·refine ⟨?_, ⟨_, _, rfl⟩⟩
      exact Nat.zero_le _
     rintro i _ ⟨hi9, ⟨X, g1, rfl⟩⟩
     refine ZU (env' := Zh) rfl ?_
     refine Zd (Zd (Za ?_))
     refine Lo Zh (Zb (.inl rfl) rfl) ?_
     refine Lo Zh (Zb (.inl rfl) rfl) ?_
     refine Lo Zh (rfl) ?_
     refine Lo Zh (rfl) ?_
     refine Lo Zh (Zb (.inl rfl) rfl) ?_
     refine ZQ 147 (env1 := Zh) (env2 := Zh) rfl rfl rfl (fun hg8 => ?_) (fun hg8 => ?_)
     ·try simp only [qB, qN] at hg8
      refine Lo Zh (Zb (.inl rfl) rfl) ?_
      refine Lo Zh (rfl) ?_
      refine Lo Zh (ZH rfl rfl rfl) ?_
      refine Zf (Zc ?_)
      refine Zp _ rfl (fun hc9 => ?_) (fun hc9 => ?_)
      ·try simp only [qB, qN] at hc9
       refine Zj (Zc (Zd (Zo (Zd (Za ?_)))))
       refine Lo Zh (Zb (.inl rfl) rfl) ?_
       refine Lo Zh (Zb (.inl rfl) rfl) ?_
       refine Lo Zh (W18 rfl rfl rfl rfl rfl rfl rfl) ?_
       refine Lo Zh (W70 rfl rfl rfl rfl) ?_
       refine Lo Zh (Zb (.inr rfl) rfl) ?_
       refine Zf (Zc (Zd (Zd (Za ?_))))
       refine Lo Zh (rfl) ?_
       refine Lo Zh (W70 rfl rfl rfl rfl) ?_
       refine Lo Zh (Yn true rfl XH22) ?_
       refine Zf (Zc ?_)
       refine ZX rfl rfl ?_
       refine Za ?_
       refine Lo Zh (Zb (.inl rfl) rfl) ?_
       refine Lo Zh (rfl) ?_
       refine Lo Zh (W70 rfl rfl rfl rfl) ?_
       refine Lo Zh (v_shl1 rfl rfl rfl XH5) ?_
       refine Lo Zh (v_subW (b := 1#64) rfl rfl rfl) ?_
       refine Lo Zh (v_andW rfl rfl rfl) ?_
       refine Lo Zh (Zb (.inr rfl) rfl) ?_
       refine Zf (Zc (Zd ?_))
       have hmk := mk_lt (w := ws.getD i 0) g
       refine Za ?_
       refine Lo Zh (W6y rfl rfl rfl rfl rfl) ?_
       refine Zn rfl rfl rfl XH14 ?_
       rintro _ _ ⟨rfl, rfl⟩
       refine Le Zh ?_
       refine Lo Zh (Zb (.inl rfl) rfl) ?_
       refine Zn rfl rfl rfl (by exact Lose_spec _ (Yk p 6) hL (ws.getD i 0 &&& allW (Yk p 6).users)) ?_
       rintro _ _ ⟨rfl, rfl⟩
       refine Le Zh ?_
       refine Lo Zh (Zb (.inl rfl) rfl) ?_
       refine Lo Zh (rfl) ?_
       refine Lo Zh (rfl) ?_
       refine Lo Zh (Zs rfl rfl) ?_
       refine Lo Zh (W13 rfl rfl rfl rfl rfl rfl rfl) ?_
       refine Lo Zh (Zb (.inr rfl) rfl) ?_
       refine Zf (Zc (Zd (Zd ?_)))
       refine Z5 (Gh.freezeEnd (cs := pbB (loV (Yk p 6) (ws.getD i 0 &&& allW (Yk p 6).users))) 17 rfl rfl) ?_
       refine Za ?_
       refine Lo Zh (Zb (.inl rfl) rfl) ?_
       refine Lo Zh (Yn false rfl (by rw [h0]; rfl)) ?_
       refine Lo Zh (Zb (.inl rfl) rfl) ?_
       refine Lo Zh (Zb (.inl rfl) rfl) ?_
       refine Lo Zh (W6y rfl rfl rfl rfl rfl) ?_
       refine Zn rfl rfl rfl XH7 ?_
       rintro _ _ ⟨rfl, rfl⟩; (first | rw [setB rfl (show 2 < 3 by decide)] | rw [ZI rfl])
       refine Le Zh ?_
       refine Lo Zh (Zb (.inl rfl) rfl) ?_
       refine ZQ 179 (env1 := Zh) (env2 := Zh) rfl rfl rfl (fun hg10 => ?_) (fun hg10 => ?_)
       ·try simp only [qB, qN] at hg10
        refine Lo Zh (Zb (.inl rfl) rfl) ?_
        refine Lo Zh (Yn false rfl XH24) ?_
        refine Lo Zh (ZH rfl rfl rfl) ?_
        refine Lo Zh (ZP rfl rfl rfl) ?_
        refine Lo Zh (Zb (.inl rfl) rfl) ?_
        refine Lo Zh (Zb (.inl rfl) rfl) ?_
        refine Lo Zh (W6y rfl rfl rfl rfl rfl) ?_
        refine Zn rfl rfl rfl XH7 ?_
        rintro v _ ⟨hv, rfl⟩; (first | rw [setB rfl (show 2 < 3 by decide)] | rw [ZI rfl]); (first | rw [hg10] at hv | rw [hg19] at hv); subst hv
        refine Le Zh ?_
        refine Lo Zh (rfl) ?_
        refine Lo Zh (Zb (.inl rfl) rfl) ?_
        refine Lf Zh ?_
        refine Lf Zh ?_
        refine Lf Zh ?_
        refine Lf Zh ?_
        refine Lo Zh (Zz (VVal.bool false) rfl rfl rfl) ?_
        refine Lo Zh (ZP rfl rfl rfl) ?_
        refine Zf (Zc ?_)
        refine ZG rfl rfl ?_
        refine Zj (Zc (Zd (Za ?_)))
        refine Lo Zh (Zb (.inl rfl) rfl) ?_
        refine Lo Zh (W6y rfl rfl rfl rfl rfl) ?_
        refine Zn rfl rfl rfl XH7 ?_
        rintro v _ ⟨hv, rfl⟩; (first | rw [setB rfl (show 2 < 3 by decide)] | rw [ZI rfl]); (first | rw [hg10] at hv | rw [hg19] at hv); subst hv
        refine Le Zh ?_
        refine Lo Zh (rfl) ?_
        refine Lo Zh (Zb (.inl rfl) rfl) ?_
        refine Lf Zh ?_
        refine Lf Zh ?_
        refine Lf Zh ?_
        refine Lo Zh (Zz (VVal.bool false) rfl rfl rfl) ?_
        refine Zf (Zc ?_)
        refine ZG rfl rfl ?_
        refine Zj (Zx (Zc (Za ?_)))
        refine Lo Zh (Zb (.inl rfl) rfl) ?_
        refine Lo Zh (W14 rfl rfl rfl) ?_
        refine Lo Zh (Zb (.inr rfl) rfl) ?_
        refine Zf ?_
        refine ZE (mk 220 1684996666696914987166688442938726917102321526408785780068975607581) (env' := Zh) rfl ⟨i + 1, ?_, rfl, ?_⟩
        ·first | omega | (simp only []; omega)
        ·exact ⟨by omega, _, _, rfl⟩
       ·try simp only [qB, qN] at hg10
        refine Lf Zh ?_
        refine Lf Zh ?_
        refine Lo Zh (Zz (VVal.bool false) rfl rfl rfl) ?_
        refine Lo Zh (ZP rfl rfl rfl) ?_
        refine Lo Zh (Zb (.inl rfl) rfl) ?_
        refine Lo Zh (Zb (.inl rfl) rfl) ?_
        refine Lo Zh (W6y rfl rfl rfl rfl rfl) ?_
        refine Zn rfl rfl rfl XH7 ?_
        rintro v _ ⟨hv, rfl⟩; (first | rw [setB rfl (show 2 < 3 by decide)] | rw [ZI rfl]); (first | rw [hg10] at hv | rw [hg19] at hv); subst hv
        refine Le Zh ?_
        refine Lo Zh (rfl) ?_
        refine Lo Zh (Zb (.inl rfl) rfl) ?_
        refine Lo Zh (Zb (.inl rfl) rfl) ?_
        refine Zn rfl rfl rfl XH18 ?_
        rintro _ _ ⟨rfl, rfl⟩
        refine Le Zh ?_
        refine Lo Zh (Zb (.inl rfl) rfl) ?_
        refine Lo Zh (Yn false rfl (decide_eq_false XH30)) ?_
        refine Lo Zh (ZH rfl rfl rfl) ?_
        refine Lo Zh (ZP rfl rfl rfl) ?_
        refine Zf (Zc ?_)
        refine ZG rfl rfl ?_
        refine Zj (Zc (Zd (Za ?_)))
        refine Lo Zh (Zb (.inl rfl) rfl) ?_
        refine Lo Zh (W6y rfl rfl rfl rfl rfl) ?_
        refine Zn rfl rfl rfl XH7 ?_
        rintro v _ ⟨hv, rfl⟩; (first | rw [setB rfl (show 2 < 3 by decide)] | rw [ZI rfl]); (first | rw [hg10] at hv | rw [hg19] at hv); subst hv
        refine Le Zh ?_
        refine Lo Zh (rfl) ?_
        refine Lo Zh (Zb (.inl rfl) rfl) ?_
        refine Lo Zh (Zb (.inl rfl) rfl) ?_
        refine Zn rfl rfl rfl XH18 ?_
        rintro _ _ ⟨rfl, rfl⟩
        refine Le Zh ?_
        refine Lo Zh (rfl) ?_
        refine Lo Zh (ZH rfl rfl rfl) ?_
        refine Zf (Zc ?_)
        refine Zp _ rfl (fun hc11 => ?_) (fun hc11 => ?_)
        ·try simp only [qB, qN] at hc11
         refine Zd ?_
         obtain ⟨l, hw1, hw2⟩ := hp_set h0 hmk (show (leA (loV (Yk p 6) (ws.getD i 0 &&& allW (Yk p 6).users))).isSome = false by assumption) (by omega)
         have hl12 := waN_3 hw1
         refine Za ?_
         refine Lo Zh (W6y rfl rfl rfl rfl rfl) ?_
         refine Zn rfl rfl rfl XH14 ?_
         rintro _ _ ⟨rfl, rfl⟩
         refine Le Zh ?_
         refine Lo Zh (Zb (.inl rfl) rfl) ?_
         refine Zn rfl rfl rfl XH18 ?_
         rintro _ _ ⟨rfl, rfl⟩
         refine Le Zh ?_
         refine Zn rfl rfl rfl (by exact Weak_spec _ (Yk p 6) hL ((pl (ws.getD i 0 &&& allW (Yk p 6).users) 0).length : Nat) (by omega)) ?_
         rintro v _ ⟨hv, rfl⟩; rw [waV_some hw1] at hv; subst hv
         refine Le Zh ?_
         refine Lo Zh (Zb (.inl rfl) rfl) ?_
         refine Lo Zh (rfl) ?_
         refine Lo Zh (rfl) ?_
         refine Lo Zh (Zb (.inr rfl) rfl) ?_
         refine Lo Zh (Zb (.inr rfl) rfl) ?_
         refine Zf (Zc (Zd (Za ?_)))
         refine Lo Zh (Zb (.inl rfl) rfl) ?_
         refine Lo Zh (Yn false rfl rfl) ?_
         refine Lo Zh (Zb (.inl rfl) rfl) ?_
         refine Lo Zh (Zb (.inl rfl) rfl) ?_
         refine Lo Zh (Zb (.inl rfl) rfl) ?_
         refine Zn rfl rfl rfl (by exact hlater_spec _ l (ws.getD i 0 &&& allW (Yk p 6).users) (by omega)) ?_
         rintro v _ ⟨hv, rfl⟩; obtain rfl : v = .bool false := hv.trans (congrArg VVal.bool hw2)
         refine Le Zh ?_
         refine Lo Zh (ZP rfl rfl rfl) ?_
         refine Zf (Zc ?_)
         refine ZG rfl rfl ?_
         refine Zj (Zx (Zc (Za ?_)))
         refine Lo Zh (Zb (.inl rfl) rfl) ?_
         refine Lo Zh (W14 rfl rfl rfl) ?_
         refine Lo Zh (Zb (.inr rfl) rfl) ?_
         refine Zf ?_
         refine ZE (mk 220 1684996666696914987166688442938726917102321526408785780068975607581) (env' := Zh) rfl ⟨i + 1, ?_, rfl, ?_⟩
         ·first | omega | (simp only []; omega)
         ·exact ⟨by omega, _, _, rfl⟩
        ·try simp only [qB, qN] at hc11
         refine Zj (Zx (Zc (Za ?_)))
         refine Lo Zh (Zb (.inl rfl) rfl) ?_
         refine Lo Zh (W14 rfl rfl rfl) ?_
         refine Lo Zh (Zb (.inr rfl) rfl) ?_
         refine Zf ?_
         refine ZE (mk 220 1684996666696914987166688442938726917102321526408785780068975607581) (env' := Zh) rfl ⟨i + 1, ?_, rfl, ?_⟩
         ·first | omega | (simp only []; omega)
         ·exact ⟨by omega, _, _, rfl⟩
      ·try simp only [qB, qN] at hc9
       refine ZL (ZJ (ZA (ZK (Zc (Zd (Za ?_))))))
       refine Lo Zh (Zg (VVal.bool true) (.inr rfl) rfl) ?_
       refine Zf (Zc ?_)
       try refine Yl (List.append_assoc _ _ _) ?_
       refine Zl ?_
       refine W10 (.inr rfl) (Zi rfl rfl) ?_
       exact ⟨rfl, rfl⟩
     ·try simp only [qB, qN] at hg8
      refine Lf Zh ?_
      refine Lf Zh ?_
      refine Lo Zh (Zz (VVal.bool false) rfl rfl rfl) ?_
      refine Zf (Zc ?_)
      refine ZG rfl rfl ?_
      refine ZL (ZJ (ZA (ZK (Zc (Zd (Za ?_))))))
      refine Lo Zh (Zg (VVal.bool true) (.inr rfl) rfl) ?_
      refine Zf (Zc ?_)
      try refine Yl (List.append_assoc _ _ _) ?_
      refine Zl ?_
      refine W10 (.inr rfl) (Zi rfl rfl) ?_
      exact ⟨rfl, rfl⟩
 ·try simp only [qB, qN] at hg1
  refine Lf Zh ?_
  refine Lf Zh ?_
  refine Lf Zh ?_
  refine Lo Zh (Zz (VVal.bool false) rfl rfl rfl) ?_
  refine Zf (Zc ?_)
  refine ZG rfl rfl ?_
  refine Zj (Zc (Zd (Zd (Za ?_))))
  refine Lo Zh (W6y rfl rfl rfl rfl rfl) ?_
  refine Zn rfl rfl rfl XH14 ?_
  rintro _ _ ⟨rfl, rfl⟩
  refine Le Zh ?_
  refine Zn rfl rfl rfl (by exact Ye _ (Yk p 6) hL) ?_
  rintro _ _ ⟨rfl, rfl⟩
  refine Le Zh ?_
  refine Lo Zh (rfl) ?_
  refine Zf (Zc ?_)
  refine Zp _ rfl (fun hc12 => ?_) (fun hc12 => ?_)
  ·try simp only [qB, qN] at hc12
   refine Zd (Za ?_)
   refine Lo Zh (W6y rfl rfl rfl rfl rfl) ?_
   refine Zn rfl rfl rfl XH14 ?_
   rintro _ _ ⟨rfl, rfl⟩
   refine Le Zh ?_
   refine Zn rfl rfl rfl (by exact Grade_spec _ (Yk p 6) hL) ?_
   rintro _ _ ⟨rfl, rfl⟩
   refine Le Zh ?_
   refine Lo Zh (Yn true rfl (by rw [grN_no (by assumption)]; rfl)) ?_
   refine Lo Zh (Zb (.inl rfl) rfl) ?_
   refine Lo Zh (W6y rfl rfl rfl rfl rfl) ?_
   refine Zn rfl rfl rfl XH14 ?_
   rintro _ _ ⟨rfl, rfl⟩
   refine Le Zh ?_
   refine Zn rfl rfl rfl (by exact Needed_spec _ (Yk p 6) hL) ?_
   rintro _ _ ⟨rfl, rfl⟩
   refine Le Zh ?_
   refine Lo Zh (Yn true rfl (by rw [neP_no (brs_no (by assumption))]; rfl)) ?_
   refine Lo Zh (ZH rfl rfl rfl) ?_
   refine Lo Zh (Zb (.inr rfl) rfl) ?_
   refine Zf (Zc ?_)
   try refine Yl (List.append_assoc _ _ _) ?_
   refine Zl (Zq ?_)
   refine W10 (.inr rfl) (Zi rfl rfl) ?_
   exact ⟨rfl, rfl⟩
  ·try simp only [qB, qN] at hc12
   refine Zj (Zc (Zd ?_))
   have h0 : pck (Yk p 6) = 0 := by first | assumption | simp_all
   have g := pck_good.1 h0
   have g2 := g.u64; have g4 := g.u0
   have g3 := gr_3 h0
   refine Za ?_
   refine Lo Zh (W6y rfl rfl rfl rfl rfl) ?_
   refine Zn rfl rfl rfl XH14 ?_
   rintro _ _ ⟨rfl, rfl⟩
   refine Le Zh ?_
   refine Zn rfl rfl rfl (by exact Grade_spec _ (Yk p 6) hL) ?_
   rintro _ _ ⟨rfl, rfl⟩
   refine Le Zh ?_
   refine Lo Zh (Zb (.inr rfl) rfl) ?_
   refine Zf (Zc (Zd (Zd (Za ?_))))
   refine Lo Zh (Zb (.inl rfl) rfl) ?_
   refine Lo Zh (rfl) ?_
   refine Lo Zh (Zb (.inl rfl) rfl) ?_
   refine Lo Zh (W6y rfl rfl rfl rfl rfl) ?_
   refine Zn rfl rfl rfl XH14 ?_
   rintro _ _ ⟨rfl, rfl⟩
   refine Le Zh ?_
   refine Zn rfl rfl rfl (by exact Can_spec _ (H.length + 2) _ XH32 (Yk p 6) hL) ?_
   rintro _ _ ⟨rfl, rfl⟩; (first | rw [setB rfl (show 2 < 3 by decide)] | rw [ZI rfl])
   refine Le Zh ?_
   refine Lo Zh (Yn false rfl (by show ((decide (grN _ < 0)) == _) = false; rw [gr_neg h0]; cases (leA (Yk p 6)).isSome <;> rfl)) ?_
   refine Zf (Zc ?_)
   refine ZG rfl rfl ?_
   refine Zj (Zc (Zd (Zd (Za ?_))))
   refine Lo Zh (Zg (VVal.int .i64 0) (.inr rfl) rfl) ?_
   refine Zf (Zc (Zo ?_))
   refine ZB (mk 220 1684996666696914987166688442938726917102321526408785780068975640093) (env' := Zh) rfl ?_
   refine ZF (fun (k : Nat) => 4 - k) (fun (k : Nat) => [(8, iI (k : Nat))]) (fun (k : Nat) G => (k ≤ 4) ∧ ∃ X g1, G = (H ++ [.dead, .dead, gaB g1]) ++ X) 0 rfl ?_ ?_
   ·refine ⟨?_, ⟨[], _, by rw [List.append_nil]; rfl⟩⟩
    exact Nat.zero_le _
   rintro k _ ⟨hk9, ⟨X, g1, rfl⟩⟩
   refine ZU (env' := Zh) rfl ?_
   refine Zd (Zd (Za ?_))
   refine Lo Zh (Zb (.inl rfl) rfl) ?_
   refine Lo Zh (rfl) ?_
   refine Zf (Zc ?_)
   refine Zp _ rfl (fun hc13 => ?_) (fun hc13 => ?_)
   ·try simp only [qB, qN] at hc13
    refine Zj (Zc (Zd (Zo (Zd (Za ?_)))))
    refine Lo Zh (W6y rfl rfl rfl rfl rfl) ?_
    refine Zn rfl rfl rfl XH14 ?_
    rintro _ _ ⟨rfl, rfl⟩
    refine Le Zh ?_
    refine Lo Zh (Zb (.inl rfl) rfl) ?_
    refine Zn rfl rfl rfl (by exact Weak_spec _ (Yk p 6) hL (k : Nat) (by omega)) ?_
    rintro v _ ⟨hv, rfl⟩; obtain ⟨l, ok, he, q1, q2, q3⟩ := waV_eq (Yk p 6) ((k : Nat) : Int); rw [he] at hv; subst hv
    refine Le Zh ?_
    refine Lo Zh (Zb (.inl rfl) rfl) ?_
    refine Lo Zh (rfl) ?_
    refine Lo Zh (rfl) ?_
    refine Lo Zh (Zb (.inr rfl) rfl) ?_
    refine Lo Zh (Zb (.inr rfl) rfl) ?_
    refine Zf (Zc (Zd (Zd (Za ?_))))
    refine Lo Zh (Zb (.inl rfl) rfl) ?_
    refine Lo Zh (rfl) ?_
    refine Zf (Zc ?_)
    refine Zp _ rfl (fun hc14 => ?_) (fun hc14 => ?_)
    ·try simp only [qB, qN] at hc14
     refine ZL (ZJ (ZK (Zc (Za ?_))))
     refine Lo Zh (Zb (.inl rfl) rfl) ?_
     refine Lo Zh (W14 rfl rfl rfl) ?_
     refine Lo Zh (Zb (.inr rfl) rfl) ?_
     refine Zf ?_
     refine ZE (mk 220 1684996666696914987166688442938726917102321526408785780068975640093) (env' := Zh) rfl ⟨k + 1, ?_, rfl, ?_⟩
     ·first | omega | (simp only []; omega)
     ·exact ⟨by omega, _, _, rfl⟩
    ·try simp only [qB, qN] at hc14
     refine Zj (Zc (Zd ?_))
     have hok : ok = true := by first | assumption | simp_all
     obtain ⟨w1, w2, w3, w4, w5⟩ := hp_weak h0 (by omega) (q2 hok)
     refine Za ?_
     refine Lo Zh (Zg (VVal.int .u64 0) (.inr rfl) rfl) ?_
     refine Zf (Zc (Zd (Zd (Za ?_))))
     refine Lo Zh (Zg (VVal.int .i64 0) (.inr rfl) rfl) ?_
     refine Zf (Zc (Zo ?_))
     refine ZB (mk 220 1684996666696914987166688442938726917102321526408785780068975633437) (env' := Zh) rfl ?_
     refine ZF (fun (j : Nat) => l.length - j) (fun (j : Nat) => [(11, iW (wl (l.take j))), (12, iI (j : Nat))]) (fun (j : Nat) G => (j ≤ l.length) ∧ G = (H ++ [.dead, .dead, gaB g1]) ++ X) 0 rfl ?_ ?_
     ·refine ⟨?_, rfl⟩
      exact Nat.zero_le _
     rintro j _ ⟨hj9, rfl⟩
     refine ZU (env' := Zh) rfl ?_
     refine Zd (Zd (Za ?_))
     refine Lo Zh (Zb (.inl rfl) rfl) ?_
     refine Lo Zh (Zb (.inl rfl) rfl) ?_
     refine Lo Zh (rfl) ?_
     refine Lo Zh (rfl) ?_
     refine Zf (Zc ?_)
     refine Zp _ rfl (fun hc15 => ?_) (fun hc15 => ?_)
     ·try simp only [qB, qN] at hc15
      refine Zj (Zc (Zd (Zo (Zd (Zd ?_)))))
      have hin := w2 _ (getD_in (show j < l.length by omega))
      refine ZY [0, 1, 2, 3, 4, 5, 6, 7, 8, 9, 10, 11, 12, 13, 14, 15, 16, 17, 18, 19, 20, 21, 22, 23, 24, 25, 26, 27, 28, 29] #[0, 0, 3, 7, 15, 31, 63, 63, 255, 511, 63, 1087, 4095, 8191, 16383, 32767, 65535, 131071, 262143, 262143, 786431, 2097151, 4194303, 262143, 262143, 25427967, 58982399, 134217727, 268435455, 536870911] XH2 XH2 XH2 ?_
      refine Oo Zh .calm rfl (Zb (.inl rfl) rfl) ?_
      refine Oo Zh .calm rfl (Zb (.inl rfl) rfl) ?_
      refine Oo Zh .calm rfl (W18 rfl rfl rfl rfl rfl rfl rfl) ?_
      refine Oo Zh .look rfl (W70 rfl rfl rfl rfl) ?_
      refine Oo Zh .calm rfl (Yn false rfl (decide_eq_false (by omega))) ?_
      refine Oo Zh .calm rfl (Zb (.inl rfl) rfl) ?_
      refine Oo Zh .calm rfl (Zb (.inl rfl) rfl) ?_
      refine Oo Zh .calm rfl (Zb (.inl rfl) rfl) ?_
      refine Oo Zh .calm rfl (W18 rfl rfl rfl rfl rfl rfl rfl) ?_
      refine Oo Zh .look rfl (W70 rfl rfl rfl rfl) ?_
      refine Oo Zh .calm rfl (rfl) ?_
      refine Oo Zh .look rfl (W70 rfl rfl rfl rfl) ?_
      refine Oo Zh .calm rfl (Yn false rfl (decide_eq_false (by omega))) ?_
      refine Oo Zh .calm rfl (ZP rfl rfl rfl) ?_
      refine Oo Zh .calm rfl (Zb (.inl rfl) rfl) ?_
      refine Oo Zh .calm rfl (Zb (.inl rfl) rfl) ?_
      refine Oo Zh .calm rfl (rfl) ?_
      refine Oo Zh .calm rfl (Zb (.inl rfl) rfl) ?_
      refine O_split 98 (env1 := Zh) (env2 := Zh) rfl rfl rfl (fun hg16 => ?_) (fun hg16 => ?_)
      ·try simp only [qB, qN] at hg16
       refine Oo Zh .calm rfl (Zb (.inl rfl) rfl) ?_
       refine Oo Zh .calm rfl (Zb (.inl rfl) rfl) ?_
       refine Oo Zh .calm rfl (v_val (v_subI rfl rfl rfl (by omega)) (show iI (((j : Nat) : Int) - 1) = iI ((j - 1 : Nat) : Int) by congr 1; omega)) ?_
       refine Oo Zh .calm rfl (W18 rfl rfl rfl rfl rfl rfl rfl) ?_
       refine Oo Zh .look rfl (W70 rfl rfl rfl rfl) ?_
       refine Oo Zh .calm rfl (Zb (.inl rfl) rfl) ?_
       refine Oo Zh .calm rfl (Zb (.inl rfl) rfl) ?_
       refine Oo Zh .calm rfl (W18 rfl rfl rfl rfl rfl rfl rfl) ?_
       refine Oo Zh .look rfl (W70 rfl rfl rfl rfl) ?_
       refine Oo Zh .calm rfl (Yn false rfl (decide_eq_false (by have h9 := pw_at w1 (show 0 < j by omega) (show j < l.length by omega); omega))) ?_
       refine Oo Zh .calm rfl (ZH rfl rfl rfl) ?_
       refine Oo Zh .calm rfl (ZP rfl rfl rfl) ?_
       refine ZT [] XH2 (trivial) ?_
       refine Zc ?_
       refine ZG rfl rfl ?_
       refine Zj (Zc (Za ?_))
       refine Lo Zh (Zb (.inl rfl) rfl) ?_
       refine Lo Zh (Zb (.inl rfl) rfl) ?_
       refine Lo Zh (Zb (.inl rfl) rfl) ?_
       refine Lo Zh (W18 rfl rfl rfl rfl rfl rfl rfl) ?_
       refine Lo Zh (W70 rfl rfl rfl rfl) ?_
       refine Lo Zh (v_shl1 rfl rfl rfl XH5) ?_
       refine Lo Zh (v_val (v_orW rfl rfl rfl) (congrArg iW (wl_take (show j < l.length by omega)))) ?_
       refine Lo Zh (Zb (.inr rfl) rfl) ?_
       refine Zf (Zx (Zc (Za ?_)))
       refine Lo Zh (Zb (.inl rfl) rfl) ?_
       refine Lo Zh (W14 rfl rfl rfl) ?_
       refine Lo Zh (Zb (.inr rfl) rfl) ?_
       refine Zf ?_
       refine ZE (mk 220 1684996666696914987166688442938726917102321526408785780068975633437) (env' := Zh) rfl ⟨j + 1, ?_, rfl, ?_⟩
       ·first | omega | (simp only []; omega)
       ·exact ⟨by omega, rfl⟩
      ·try simp only [qB, qN] at hg16
       refine Of Zh rfl ?_
       refine Of Zh rfl ?_
       refine Of Zh rfl ?_
       refine Of Zh rfl ?_
       refine Of Zh rfl ?_
       refine Of Zh rfl ?_
       refine Of Zh rfl ?_
       refine Of Zh rfl ?_
       refine Of Zh rfl ?_
       refine Of Zh rfl ?_
       refine Oo Zh .calm rfl (Zz (VVal.bool false) rfl rfl rfl) ?_
       refine Oo Zh .calm rfl (ZP rfl rfl rfl) ?_
       refine ZT [] XH2 (trivial) ?_
       refine Zc ?_
       refine ZG rfl rfl ?_
       refine Zj (Zc (Za ?_))
       refine Lo Zh (Zb (.inl rfl) rfl) ?_
       refine Lo Zh (Zb (.inl rfl) rfl) ?_
       refine Lo Zh (Zb (.inl rfl) rfl) ?_
       refine Lo Zh (W18 rfl rfl rfl rfl rfl rfl rfl) ?_
       refine Lo Zh (W70 rfl rfl rfl rfl) ?_
       refine Lo Zh (v_shl1 rfl rfl rfl XH5) ?_
       refine Lo Zh (v_val (v_orW rfl rfl rfl) (congrArg iW (wl_take (show j < l.length by omega)))) ?_
       refine Lo Zh (Zb (.inr rfl) rfl) ?_
       refine Zf (Zx (Zc (Za ?_)))
       refine Lo Zh (Zb (.inl rfl) rfl) ?_
       refine Lo Zh (W14 rfl rfl rfl) ?_
       refine Lo Zh (Zb (.inr rfl) rfl) ?_
       refine Zf ?_
       refine ZE (mk 220 1684996666696914987166688442938726917102321526408785780068975633437) (env' := Zh) rfl ⟨j + 1, ?_, rfl, ?_⟩
       ·first | omega | (simp only []; omega)
       ·exact ⟨by omega, rfl⟩
     ·try simp only [qB, qN] at hc15
      refine ZL (ZJ (ZA (ZK (Zc (Zd ?_)))))
      obtain rfl : j = l.length := by omega
      rw [List.take_length]
      refine Za ?_
      refine Lo Zh (W6y rfl rfl rfl rfl rfl) ?_
      refine Zn rfl rfl rfl XH14 ?_
      rintro _ _ ⟨rfl, rfl⟩
      refine Le Zh ?_
      refine Lo Zh (Zb (.inl rfl) rfl) ?_
      refine Zn rfl rfl rfl (by exact Lose_spec _ (Yk p 6) hL (wl l)) ?_
      rintro _ _ ⟨rfl, rfl⟩
      refine Le Zh ?_
      refine Lo Zh (Zb (.inl rfl) rfl) ?_
      refine Lo Zh (rfl) ?_
      refine Lo Zh (rfl) ?_
      refine Lo Zh (Zs rfl rfl) ?_
      refine Lo Zh (W13 rfl rfl rfl rfl rfl rfl rfl) ?_
      refine Lo Zh (Zb (.inr rfl) rfl) ?_
      refine Zf (Zc (Zd (Za ?_)))
      refine Lo Zh (Zb (.inl rfl) rfl) ?_
      refine Lo Zh (rfl) ?_
      refine Lo Zh (Zb (.inl rfl) rfl) ?_
      refine Lo Zh (Yn false rfl XH22) ?_
      refine Lo Zh (Zb (.inl rfl) rfl) ?_
      refine Lo Zh (Zb (.inl rfl) rfl) ?_
      refine Lo Zh (Yn false rfl (by rw [h0]; rfl)) ?_
      refine Lo Zh (ZP rfl rfl rfl) ?_
      refine Lo Zh (Zb (.inl rfl) rfl) ?_
      refine Lo Zh (Zb (.inl rfl) rfl) ?_
      refine Lo Zh (W6y rfl rfl rfl rfl rfl) ?_
      refine Zn rfl rfl rfl (by exact Can_spec _ (H.length + 2) _ XH32 (loV (Yk p 6) (wl l)) (loV_L hL)) ?_
      rintro v _ ⟨hv, rfl⟩; (first | rw [setB rfl (show 2 < 3 by decide)] | rw [ZI rfl]); obtain rfl : v = .bool false := hv.trans (congrArg VVal.bool w4)
      refine Le Zh ?_
      refine Lo Zh (ZP rfl rfl rfl) ?_
      refine Lo Zh (Zb (.inl rfl) rfl) ?_
      refine Lo Zh (Zb (.inl rfl) rfl) ?_
      refine Lo Zh (Zb (.inl rfl) rfl) ?_
      refine Lo Zh (Yn false rfl XH22) ?_
      refine Lo Zh (ZP rfl rfl rfl) ?_
      refine Zf (Zc ?_)
      refine ZG rfl rfl ?_
      refine Zj (Zx (Zc (Za ?_)))
      refine Lo Zh (Zb (.inl rfl) rfl) ?_
      refine Lo Zh (W14 rfl rfl rfl) ?_
      refine Lo Zh (Zb (.inr rfl) rfl) ?_
      refine Zf ?_
      refine ZE (mk 220 1684996666696914987166688442938726917102321526408785780068975640093) (env' := Zh) rfl ⟨k + 1, ?_, rfl, ?_⟩
      ·first | omega | (simp only []; omega)
      ·exact ⟨by omega, _, _, rfl⟩
   ·try simp only [qB, qN] at hc13
    refine ZL (ZJ (ZA (ZK (Zc (Zd (Zd (Za ?_)))))))
    refine Lo Zh (Zg (VVal.int .i64 0) (.inr rfl) rfl) ?_
    refine Zf (Zc (Zo ?_))
    refine ZB (mk 220 1684996666696914987166688442938726917102321526408785780068975607581) (env' := Zh) rfl ?_
    refine ZF (fun (i : Nat) => ws.length - i) (fun (i : Nat) => [(15, iI (i : Nat))]) (fun (i : Nat) G => (i ≤ ws.length) ∧ ∃ X g1, G = (H ++ [.dead, .dead, gaB g1]) ++ X) 0 rfl ?_ ?_
    ·refine ⟨?_, ⟨_, _, rfl⟩⟩
     exact Nat.zero_le _
    rintro i _ ⟨hi9, ⟨X, g1, rfl⟩⟩
    refine ZU (env' := Zh) rfl ?_
    refine Zd (Zd (Za ?_))
    refine Lo Zh (Zb (.inl rfl) rfl) ?_
    refine Lo Zh (Zb (.inl rfl) rfl) ?_
    refine Lo Zh (rfl) ?_
    refine Lo Zh (rfl) ?_
    refine Lo Zh (Zb (.inl rfl) rfl) ?_
    refine ZQ 147 (env1 := Zh) (env2 := Zh) rfl rfl rfl (fun hg17 => ?_) (fun hg17 => ?_)
    ·try simp only [qB, qN] at hg17
     refine Lo Zh (Zb (.inl rfl) rfl) ?_
     refine Lo Zh (rfl) ?_
     refine Lo Zh (ZH rfl rfl rfl) ?_
     refine Zf (Zc ?_)
     refine Zp _ rfl (fun hc18 => ?_) (fun hc18 => ?_)
     ·try simp only [qB, qN] at hc18
      refine Zj (Zc (Zd (Zo (Zd (Za ?_)))))
      refine Lo Zh (Zb (.inl rfl) rfl) ?_
      refine Lo Zh (Zb (.inl rfl) rfl) ?_
      refine Lo Zh (W18 rfl rfl rfl rfl rfl rfl rfl) ?_
      refine Lo Zh (W70 rfl rfl rfl rfl) ?_
      refine Lo Zh (Zb (.inr rfl) rfl) ?_
      refine Zf (Zc (Zd (Zd (Za ?_))))
      refine Lo Zh (rfl) ?_
      refine Lo Zh (W70 rfl rfl rfl rfl) ?_
      refine Lo Zh (Yn true rfl XH22) ?_
      refine Zf (Zc ?_)
      refine ZX rfl rfl ?_
      refine Za ?_
      refine Lo Zh (Zb (.inl rfl) rfl) ?_
      refine Lo Zh (rfl) ?_
      refine Lo Zh (W70 rfl rfl rfl rfl) ?_
      refine Lo Zh (v_shl1 rfl rfl rfl XH5) ?_
      refine Lo Zh (v_subW (b := 1#64) rfl rfl rfl) ?_
      refine Lo Zh (v_andW rfl rfl rfl) ?_
      refine Lo Zh (Zb (.inr rfl) rfl) ?_
      refine Zf (Zc (Zd ?_))
      have hmk := mk_lt (w := ws.getD i 0) g
      refine Za ?_
      refine Lo Zh (W6y rfl rfl rfl rfl rfl) ?_
      refine Zn rfl rfl rfl XH14 ?_
      rintro _ _ ⟨rfl, rfl⟩
      refine Le Zh ?_
      refine Lo Zh (Zb (.inl rfl) rfl) ?_
      refine Zn rfl rfl rfl (by exact Lose_spec _ (Yk p 6) hL (ws.getD i 0 &&& allW (Yk p 6).users)) ?_
      rintro _ _ ⟨rfl, rfl⟩
      refine Le Zh ?_
      refine Lo Zh (Zb (.inl rfl) rfl) ?_
      refine Lo Zh (rfl) ?_
      refine Lo Zh (rfl) ?_
      refine Lo Zh (Zs rfl rfl) ?_
      refine Lo Zh (W13 rfl rfl rfl rfl rfl rfl rfl) ?_
      refine Lo Zh (Zb (.inr rfl) rfl) ?_
      refine Zf (Zc (Zd (Zd ?_)))
      refine Z5 (Gh.freezeEnd (cs := pbB (loV (Yk p 6) (ws.getD i 0 &&& allW (Yk p 6).users))) 17 rfl rfl) ?_
      refine Za ?_
      refine Lo Zh (Zb (.inl rfl) rfl) ?_
      refine Lo Zh (Yn false rfl (by rw [h0]; rfl)) ?_
      refine Lo Zh (Zb (.inl rfl) rfl) ?_
      refine Lo Zh (Zb (.inl rfl) rfl) ?_
      refine Lo Zh (W6y rfl rfl rfl rfl rfl) ?_
      refine Zn rfl rfl rfl XH7 ?_
      rintro _ _ ⟨rfl, rfl⟩; (first | rw [setB rfl (show 2 < 3 by decide)] | rw [ZI rfl])
      refine Le Zh ?_
      refine Lo Zh (Zb (.inl rfl) rfl) ?_
      refine ZQ 179 (env1 := Zh) (env2 := Zh) rfl rfl rfl (fun hg19 => ?_) (fun hg19 => ?_)
      ·try simp only [qB, qN] at hg19
       refine Lo Zh (Zb (.inl rfl) rfl) ?_
       refine Lo Zh (Yn false rfl XH24) ?_
       refine Lo Zh (ZH rfl rfl rfl) ?_
       refine Lo Zh (ZP rfl rfl rfl) ?_
       refine Lo Zh (Zb (.inl rfl) rfl) ?_
       refine Lo Zh (Zb (.inl rfl) rfl) ?_
       refine Lo Zh (W6y rfl rfl rfl rfl rfl) ?_
       refine Zn rfl rfl rfl XH7 ?_
       rintro v _ ⟨hv, rfl⟩; (first | rw [setB rfl (show 2 < 3 by decide)] | rw [ZI rfl]); (first | rw [hg10] at hv | rw [hg19] at hv); subst hv
       refine Le Zh ?_
       refine Lo Zh (rfl) ?_
       refine Lo Zh (Zb (.inl rfl) rfl) ?_
       refine Lf Zh ?_
       refine Lf Zh ?_
       refine Lf Zh ?_
       refine Lf Zh ?_
       refine Lo Zh (Zz (VVal.bool false) rfl rfl rfl) ?_
       refine Lo Zh (ZP rfl rfl rfl) ?_
       refine Zf (Zc ?_)
       refine ZG rfl rfl ?_
       refine Zj (Zc (Zd (Za ?_)))
       refine Lo Zh (Zb (.inl rfl) rfl) ?_
       refine Lo Zh (W6y rfl rfl rfl rfl rfl) ?_
       refine Zn rfl rfl rfl XH7 ?_
       rintro v _ ⟨hv, rfl⟩; (first | rw [setB rfl (show 2 < 3 by decide)] | rw [ZI rfl]); (first | rw [hg10] at hv | rw [hg19] at hv); subst hv
       refine Le Zh ?_
       refine Lo Zh (rfl) ?_
       refine Lo Zh (Zb (.inl rfl) rfl) ?_
       refine Lf Zh ?_
       refine Lf Zh ?_
       refine Lf Zh ?_
       refine Lo Zh (Zz (VVal.bool false) rfl rfl rfl) ?_
       refine Zf (Zc ?_)
       refine ZG rfl rfl ?_
       refine Zj (Zx (Zc (Za ?_)))
       refine Lo Zh (Zb (.inl rfl) rfl) ?_
       refine Lo Zh (W14 rfl rfl rfl) ?_
       refine Lo Zh (Zb (.inr rfl) rfl) ?_
       refine Zf ?_
       refine ZE (mk 220 1684996666696914987166688442938726917102321526408785780068975607581) (env' := Zh) rfl ⟨i + 1, ?_, rfl, ?_⟩
       ·first | omega | (simp only []; omega)
       ·exact ⟨by omega, _, _, rfl⟩
      ·try simp only [qB, qN] at hg19
       refine Lf Zh ?_
       refine Lf Zh ?_
       refine Lo Zh (Zz (VVal.bool false) rfl rfl rfl) ?_
       refine Lo Zh (ZP rfl rfl rfl) ?_
       refine Lo Zh (Zb (.inl rfl) rfl) ?_
       refine Lo Zh (Zb (.inl rfl) rfl) ?_
       refine Lo Zh (W6y rfl rfl rfl rfl rfl) ?_
       refine Zn rfl rfl rfl XH7 ?_
       rintro v _ ⟨hv, rfl⟩; (first | rw [setB rfl (show 2 < 3 by decide)] | rw [ZI rfl]); (first | rw [hg10] at hv | rw [hg19] at hv); subst hv
       refine Le Zh ?_
       refine Lo Zh (rfl) ?_
       refine Lo Zh (Zb (.inl rfl) rfl) ?_
       refine Lo Zh (Zb (.inl rfl) rfl) ?_
       refine Zn rfl rfl rfl XH18 ?_
       rintro _ _ ⟨rfl, rfl⟩
       refine Le Zh ?_
       refine Lo Zh (Zb (.inl rfl) rfl) ?_
       refine Lo Zh (Yn false rfl (decide_eq_false XH30)) ?_
       refine Lo Zh (ZH rfl rfl rfl) ?_
       refine Lo Zh (ZP rfl rfl rfl) ?_
       refine Zf (Zc ?_)
       refine ZG rfl rfl ?_
       refine Zj (Zc (Zd (Za ?_)))
       refine Lo Zh (Zb (.inl rfl) rfl) ?_
       refine Lo Zh (W6y rfl rfl rfl rfl rfl) ?_
       refine Zn rfl rfl rfl XH7 ?_
       rintro v _ ⟨hv, rfl⟩; (first | rw [setB rfl (show 2 < 3 by decide)] | rw [ZI rfl]); (first | rw [hg10] at hv | rw [hg19] at hv); subst hv
       refine Le Zh ?_
       refine Lo Zh (rfl) ?_
       refine Lo Zh (Zb (.inl rfl) rfl) ?_
       refine Lo Zh (Zb (.inl rfl) rfl) ?_
       refine Zn rfl rfl rfl XH18 ?_
       rintro _ _ ⟨rfl, rfl⟩
       refine Le Zh ?_
       refine Lo Zh (rfl) ?_
       refine Lo Zh (ZH rfl rfl rfl) ?_
       refine Zf (Zc ?_)
       refine Zp _ rfl (fun hc20 => ?_) (fun hc20 => ?_)
       ·try simp only [qB, qN] at hc20
        refine Zd ?_
        obtain ⟨l, hw1, hw2⟩ := hp_set h0 hmk (show (leA (loV (Yk p 6) (ws.getD i 0 &&& allW (Yk p 6).users))).isSome = false by assumption) (by omega)
        have hl12 := waN_3 hw1
        refine Za ?_
        refine Lo Zh (W6y rfl rfl rfl rfl rfl) ?_
        refine Zn rfl rfl rfl XH14 ?_
        rintro _ _ ⟨rfl, rfl⟩
        refine Le Zh ?_
        refine Lo Zh (Zb (.inl rfl) rfl) ?_
        refine Zn rfl rfl rfl XH18 ?_
        rintro _ _ ⟨rfl, rfl⟩
        refine Le Zh ?_
        refine Zn rfl rfl rfl (by exact Weak_spec _ (Yk p 6) hL ((pl (ws.getD i 0 &&& allW (Yk p 6).users) 0).length : Nat) (by omega)) ?_
        rintro v _ ⟨hv, rfl⟩; rw [waV_some hw1] at hv; subst hv
        refine Le Zh ?_
        refine Lo Zh (Zb (.inl rfl) rfl) ?_
        refine Lo Zh (rfl) ?_
        refine Lo Zh (rfl) ?_
        refine Lo Zh (Zb (.inr rfl) rfl) ?_
        refine Lo Zh (Zb (.inr rfl) rfl) ?_
        refine Zf (Zc (Zd (Za ?_)))
        refine Lo Zh (Zb (.inl rfl) rfl) ?_
        refine Lo Zh (Yn false rfl rfl) ?_
        refine Lo Zh (Zb (.inl rfl) rfl) ?_
        refine Lo Zh (Zb (.inl rfl) rfl) ?_
        refine Lo Zh (Zb (.inl rfl) rfl) ?_
        refine Zn rfl rfl rfl (by exact hlater_spec _ l (ws.getD i 0 &&& allW (Yk p 6).users) (by omega)) ?_
        rintro v _ ⟨hv, rfl⟩; obtain rfl : v = .bool false := hv.trans (congrArg VVal.bool hw2)
        refine Le Zh ?_
        refine Lo Zh (ZP rfl rfl rfl) ?_
        refine Zf (Zc ?_)
        refine ZG rfl rfl ?_
        refine Zj (Zx (Zc (Za ?_)))
        refine Lo Zh (Zb (.inl rfl) rfl) ?_
        refine Lo Zh (W14 rfl rfl rfl) ?_
        refine Lo Zh (Zb (.inr rfl) rfl) ?_
        refine Zf ?_
        refine ZE (mk 220 1684996666696914987166688442938726917102321526408785780068975607581) (env' := Zh) rfl ⟨i + 1, ?_, rfl, ?_⟩
        ·first | omega | (simp only []; omega)
        ·exact ⟨by omega, _, _, rfl⟩
       ·try simp only [qB, qN] at hc20
        refine Zj (Zx (Zc (Za ?_)))
        refine Lo Zh (Zb (.inl rfl) rfl) ?_
        refine Lo Zh (W14 rfl rfl rfl) ?_
        refine Lo Zh (Zb (.inr rfl) rfl) ?_
        refine Zf ?_
        refine ZE (mk 220 1684996666696914987166688442938726917102321526408785780068975607581) (env' := Zh) rfl ⟨i + 1, ?_, rfl, ?_⟩
        ·first | omega | (simp only []; omega)
        ·exact ⟨by omega, _, _, rfl⟩
     ·try simp only [qB, qN] at hc18
      refine ZL (ZJ (ZA (ZK (Zc (Zd (Za ?_))))))
      refine Lo Zh (Zg (VVal.bool true) (.inr rfl) rfl) ?_
      refine Zf (Zc ?_)
      try refine Yl (List.append_assoc _ _ _) ?_
      refine Zl ?_
      refine W10 (.inr rfl) (Zi rfl rfl) ?_
      exact ⟨rfl, rfl⟩
    ·try simp only [qB, qN] at hg17
     refine Lf Zh ?_
     refine Lf Zh ?_
     refine Lo Zh (Zz (VVal.bool false) rfl rfl rfl) ?_
     refine Zf (Zc ?_)
     refine ZG rfl rfl ?_
     refine ZL (ZJ (ZA (ZK (Zc (Zd (Za ?_))))))
     refine Lo Zh (Zg (VVal.bool true) (.inr rfl) rfl) ?_
     refine Zf (Zc ?_)
     try refine Yl (List.append_assoc _ _ _) ?_
     refine Zl ?_
     refine W10 (.inr rfl) (Zi rfl rfl) ?_
     exact ⟨rfl, rfl⟩
theorem HardyProof_law {x : SW} (p : Pb) (ws : List (BitVec 64)) (hu : -9223372036854775808 ≤ p.users ∧ p.users < 9223372036854775808) : F (psys x) 13 [.agg (pbB p), fzW ws] [] fun v G => v = .bool true := (HardyProof_walk [] p ws hu).mono fun v G h => h.1
end Go.Proofs.YtgbahioegcpjiaaDoor.VT
