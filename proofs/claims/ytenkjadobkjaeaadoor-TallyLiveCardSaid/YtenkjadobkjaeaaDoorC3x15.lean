/- Proved: Rows.TallyLiveCardSaid, the statement TallyLive with its card, of the given program at the commit; no conditions beyond those in the statement. -/
import Derived.Test.YtenkjadobkjaeaaDoorC3x14
set_option autoImplicit false
set_option linter.unusedVariables false
set_option linter.unusedSimpArgs false
set_option maxHeartbeats 4000000
set_option maxRecDepth 100000
namespace Go.Proofs.YtenkjadobkjaeaaDoor.VT
open Go Go.V Go.RowKit
abbrev u62 {a0 a1 a2 a3 a4 a5 a6 a7 a8 a9 a10 a11 a12 a13 a14 a15 a16 a17 a18 a19 a20 a21 a22 a23 a24 a25 a26 a27 a28 a29 a30 a31 a32 a33 a34 a35 a36 a37 a38 a39 a40 a41 a42 a43 a44 a45 a46 a47 a48 a49 a50 a51 a52 a53 a54 a55 a56 a57 a58 a59 a60 a61 : VVal} : VEnv := a0 :: a1 :: a2 :: a3 :: a4 :: a5 :: a6 :: a7 :: a8 :: a9 :: a10 :: a11 :: a12 :: a13 :: a14 :: a15 :: a16 :: a17 :: a18 :: a19 :: a20 :: a21 :: a22 :: a23 :: a24 :: a25 :: a26 :: a27 :: a28 :: a29 :: a30 :: a31 :: a32 :: a33 :: a34 :: a35 :: a36 :: a37 :: a38 :: a39 :: a40 :: a41 :: a42 :: a43 :: a44 :: a45 :: a46 :: a47 :: a48 :: a49 :: a50 :: a51 :: a52 :: a53 :: a54 :: a55 :: a56 :: a57 :: a58 :: a59 :: a60 :: a61 :: []
namespace MM
theorem YJ (n : Nat) (l : List (BitVec 64)) : (fzW l).under n = true := VVal.underL_map fun _ => rfl
theorem Yy (n : Nat) (l : List (BitVec 64)) : VVal.underL n (l.map iW) = true := VVal.underL_map fun _ => rfl
theorem Y3 (n : Nat) (l : List Int) : VVal.underL n (l.map iI) = true := VVal.underL_map fun _ => rfl
theorem mapW_one (l : List (BitVec 64)) : (l.map iW).all VVal.one = true := by rw [List.all_map]; exact List.all_eq_true.2 fun _ _ => rfl
theorem mapW_all {l : List (BitVec 64)} : Zt (l.map iW) 0 (l.length * 1) = some (l.map iW) := by
  unfold Zt; rw [if_pos XH18, List.drop_zero, List.take_of_length_le XH18]
theorem YF {L : Zf} {p : Nat} {k : VBlk} (h : L[p]? = some k) : L = L.set p k := by
  apply List.ext_getElem?
  intro i
  rw [List.getElem?_set]
  by_cases e : p = i
  · subst e; rw [h]; rw [if_pos rfl, if_pos (List.getElem?_eq_some_iff.1 h).1]
  · rw [if_neg e]
section
variable {T : TypeId → Option VTy} {ρ : Operand → VVal} {H : Zf} {op : Op}
theorem v_eqNilF {t : TypeId} {x y : Operand} {ty : TypeId} {cs : List VVal} {len es : Nat} {ex : Bool} {i : VTy} {e : TypeId} (ho : op = .binOp .eql t x y ty) (hx : ρ x = .fsl cs len es ex) (hy : ρ y = .slice none 0 0 true 0) (hT : T t = some i) (hd : i.desc = .slice e) (hl : len ≠ 0) : vop T ρ H op = some (.bool false, H) := by
  rw [ho]; simp [vop, vbin, hx, hy, veq, hT, hd, hl]
theorem v_wHi {t e : TypeId} {x hi : Operand} {y z : VTy} {l : List (BitVec 64)} {k : Nat} {kd : IntKind} (ho : op = .slice t x none (some hi) none) (hy : T t = some y) (hd : y.desc = .slice e) (hz : T e = some z) (hs : z.size = 1) (hx : ρ x = fzW l) (hh : ρ hi = .int kd (k : Nat)) (hk : k ≤ l.length) : vop T ρ H op = some (fzW (l.take k), H) := by
  rw [v_sliceHi ho hy hd hz hs hx hh hk XH18]
  simp [fzW, Nat.min_eq_left hk, List.map_take]
end
abbrev mtB (rows : List (BitVec 64)) (O : List Int) : VBlk := .cells (fzW rows :: O.map iI) true
abbrev seB (w : BitVec 64) : VBlk := .cells [iW w] true
def mtH (H : Zf) (p q : Nat) (rows : List (BitVec 64)) (s : GSt) : Zf := (H.set p (mtB rows s.1)).set q (seB s.2)
section
variable {H L : Zf} {p q : Nat} {rows : List (BitVec 64)} {s : GSt}
theorem mtH_len {n : Nat} (h : H.length = n) : (mtH H p q rows s).length = n := by unfold mtH; rw [List.length_set, List.length_set]; exact h
theorem mtH_id {O : List Int} {w : BitVec 64} (hp : H[p]? = some (mtB rows O)) (hq : H[q]? = some (seB w)) : mtH H p q rows (O, w) = H := by
  unfold mtH; rw [← YF hp, ← YF hq]
theorem mt_q (hq : q < H.length) : (mtH H p q rows s ++ L)[q]? = some (seB s.2) := by
  unfold mtH; exact Zx (List.getElem?_set_self (by rw [List.length_set]; exact hq))
theorem mt_p (hp : p < H.length) (hpq : p ≠ q) : (mtH H p q rows s ++ L)[p]? = some (mtB rows s.1) := by
  unfold mtH; exact Zx (by rw [List.getElem?_set_ne (Ne.symm hpq)]; exact List.getElem?_set_self hp)
theorem mt_setq {w : BitVec 64} (hq : q < H.length) : (mtH H p q rows s ++ L).set q (seB w) = mtH H p q rows (s.1, w) ++ L := by
  rw [Yr (by rw [mtH_len rfl]; exact hq)]; unfold mtH; rw [List.set_set]
theorem mt_setp0 {k : VBlk} (hp : p < H.length) (hpq : p ≠ q) : (mtH H p q rows s ++ L).set p k = (H.set p k).set q (seB s.2) ++ L := by
  rw [Yr (by rw [mtH_len rfl]; exact hp)]; unfold mtH
  rw [List.set_comm _ _ (Ne.symm hpq), List.set_set]
theorem mt_setp {u : Int} {r : Int} (hp : p < H.length) (hpq : p ≠ q) (hu : u.toNat < s.1.length) : (mtH H p q rows s ++ L).set p (.cells (ZD (fzW rows :: s.1.map iI) (0 + 1 + u.toNat * 1) [iI r]) true) = mtH H p q rows (s.1.set u.toNat r, s.2) ++ L := by
  have : ZD (fzW rows :: s.1.map iI) (0 + 1 + u.toNat * 1) [iI r] = fzW rows :: (s.1.set u.toNat r).map iI := by
    rw [show 0 + 1 + u.toNat * 1 = u.toNat + 1 by omega]
    unfold ZD
    rw [List.map_set, List.set_eq_take_append_cons_drop, if_pos (by rw [List.length_map]; exact hu)]; simp
  rw [this, mt_setp0 hp hpq]; rfl
theorem mt_mt {t : GSt} (hp : p < H.length) (hq : q < H.length) (hpq : p ≠ q) : mtH (mtH H p q rows s ++ L) p q rows t = mtH H p q rows t ++ L := by
  have : mtH (mtH H p q rows s ++ L) p q rows t = ((mtH H p q rows s ++ L).set p (mtB rows t.1)).set q (seB t.2) := rfl
  rw [this, mt_setp0 hp hpq, Yr (by simp; exact hq), List.set_set]; rfl
theorem mt_len6 {u : Int} {v : VVal} (h : u.toNat < s.1.length) : 0 + 1 + u.toNat * 1 + [v].length ≤ (fzW rows :: s.1.map iI).length := by
  show 0 + 1 + u.toNat * 1 + 1 ≤ (s.1.map iI).length + 1
  rw [List.length_map]; omega
theorem Yp {b : Bool} (h : b = false) : ¬ b = true := by rw [h]; decide
theorem mt_base (hl : True) : BaseOk H (mtH H p q rows s) := BaseOk.set (BaseOk.set (BaseOk.refl _) _ (by show VVal.underL _ (fzW rows :: s.1.map iI) = true; simp [VVal.underL, YJ, Y3])) _ rfl
theorem own_cell {u : Int} (h : 0 ≤ u ∧ u < s.1.length) : (fzW rows :: s.1.map iI)[0 + 1 + u.toNat * 1]? = some (iI (s.1.getD u.toNat 0)) := by
  rw [show 0 + 1 + u.toNat * 1 = u.toNat + 1 by omega, List.getElem?_cons_succ]
  have : u.toNat < s.1.length := by omega
  simp [List.getElem?_eq_getElem this]
end
theorem mset_spec {x : SW} (H : Zf) (w : BitVec 64) : F (psys x) 100 [iW w] H fun v G => v = .agg [iW w] ∧ G = H := by
  refine Zq Tryd.func100 rfl u6 rfl ?_
  refine Zd (Za ?_)
  refine Zp (env' := u6) rfl rfl (ZT rfl rfl) rfl ?_
  refine Ze (Zc (Zd (Za ?_)))
  refine Zp (env' := u6) rfl rfl (rfl) rfl ?_
  refine Zp (env' := u6) rfl rfl (Zb (.inl rfl) rfl) rfl ?_
  refine Zv rfl rfl rfl (by exact Of_spec _ 0#64 _) ?_
  rintro _ _ ⟨rfl, rfl⟩
  refine L_env (env' := u6) rfl ?_
  refine Zp (env' := u6) rfl rfl (Z5 rfl rfl rfl rfl rfl rfl rfl XH7 XH6 XH20) rfl ?_
  refine Ze (Zc (Zi ?_))
  refine Yz (.inr rfl) (YT rfl rfl rfl rfl XH7 XH4) XH12 XH15 ?_
  exact ⟨rfl, rfl⟩
theorem fits_spec {x : SW} (H : Zf) (l : List (BitVec 64)) : F (psys x) 93 [fzW l] H fun v G => v = .bool (decide ((l.length : Int) ≤ 12)) ∧ G = H := by
  refine Zq Tryd.func93 rfl u6 rfl ?_
  refine Zd (Za ?_)
  refine Zp (env' := u6) rfl rfl (Zg (VVal.bool false) (.inr rfl) rfl) rfl ?_
  refine Ze (Zc (Zd (Za ?_)))
  refine Zp (env' := u6) rfl rfl (Zb (.inl rfl) rfl) rfl ?_
  refine Zp (env' := u6) rfl rfl (rfl) rfl ?_
  refine Zp (env' := u6) rfl rfl (rfl) rfl ?_
  refine Zp (env' := u6) rfl rfl (Zb (.inr rfl) rfl) rfl ?_
  refine Ze (Zc (Zi ?_))
  refine Yz (.inr rfl) (Zh rfl rfl) XH12 XH15 ?_
  exact ⟨rfl, rfl⟩
theorem grow_in {x : SW} {p q n : Nat} {rows : List (BitVec 64)} (hpq : p ≠ q) (ih : ∀ (H : Zf) (row : Int) (O : List Int) (S : BitVec 64), H[p]? = some (mtB rows O) → H[q]? = some (seB S) → 0 ≤ row → row < rows.length → Gok rows O → 64 - Yw 64 S < n → F (psys x) 150 [.ptr (some (p, 0)), iI row, .ptr (some (q, 0))] H fun v G => v = .bool (grw rows n row (O, S)).1 ∧ G = mtH H p q rows (grw rows n row (O, S)).2) (H L : Zf) (s : GSt) (hp : p < H.length) (hq : q < H.length) (row : Int) (h0 : 0 ≤ row) (h1 : row < rows.length) (hk : Gok rows s.1) (hm : 64 - Yw 64 s.2 < n) :
    F (psys x) 150 [.ptr (some (p, 0)), iI row, .ptr (some (q, 0))] (mtH H p q rows s ++ L) fun v G => v = .bool (grw rows n row s).1 ∧ G = mtH H p q rows (grw rows n row s).2 ++ L := by
  have := ih (mtH H p q rows s ++ L) row s.1 s.2 (mt_p hp hpq) (mt_q hq) h0 h1 hk hm
  rw [mt_mt hp hq hpq] at this
  exact this
theorem grow_s {x : SW} (p q n : Nat) (rows : List (BitVec 64)) (hpq : p ≠ q) (ih : ∀ (H : Zf) (row : Int) (O : List Int) (S : BitVec 64), H[p]? = some (mtB rows O) → H[q]? = some (seB S) → 0 ≤ row → row < rows.length → Gok rows O → 64 - Yw 64 S < n → F (psys x) 150 [.ptr (some (p, 0)), iI row, .ptr (some (q, 0))] H fun v G => v = .bool (grw rows n row (O, S)).1 ∧ G = mtH H p q rows (grw rows n row (O, S)).2) (H : Zf) (row : Int) (O : List Int) (S : BitVec 64) (hp : H[p]? = some (mtB rows O)) (hq : H[q]? = some (seB S)) (h0 : 0 ≤ row) (h1 : row < rows.length) (hO : Gok rows O) (hm : 64 - Yw 64 S < n + 1) (h62 : rows.length < 4611686018427387904) : F (psys x) 150 [.ptr (some (p, 0)), iI row, .ptr (some (q, 0))] H fun v G => v = .bool (grw rows (n + 1) row (O, S)).1 ∧ G = mtH H p q rows (grw rows (n + 1) row (O, S)).2 := by
  have hpH := ZV hp
  have hqH := ZV hq
  refine Zq Tryd.func150 rfl u62 rfl ?_
  refine Zd (Za ?_)
  refine Zp (env' := u62) rfl rfl (ZK rfl rfl rfl) rfl ?_
  refine Zp (env' := u62) rfl rfl (ZK rfl rfl rfl) rfl ?_
  refine Zp (env' := u62) rfl rfl (ZK rfl rfl rfl) rfl ?_
  refine Zp (env' := u62) rfl rfl (ZT rfl rfl) rfl ?_
  refine Ze (Zc (Zd (Zd ?_)))
  refine ZS [0, 1, 2, 3, 4, 5, 6, 7, 8, 9, 10, 11, 12] #[0, 1, 3, 7, 0, 31, 63, 0, 128, 384, 1023, 2047, 4095] XH5 XH5 XH5 ?_
  refine Z7 (env' := u62) (c := .look) rfl rfl rfl XH3 rfl rfl rfl ?_
  refine Z7 (env' := u62) (c := .calm) rfl rfl rfl (rfl) rfl rfl rfl ?_
  refine Z7 (env' := u62) (c := .calm) rfl rfl rfl (rfl) rfl rfl rfl ?_
  refine Z7 (env' := u62) (c := .look) rfl rfl rfl XH3 rfl rfl rfl ?_
  refine Z7 (env' := u62) (c := .look) rfl rfl rfl XH3 rfl rfl rfl ?_
  refine Z7 (env' := u62) (c := .calm) rfl rfl rfl XH42 rfl rfl rfl ?_
  refine Z7 (env' := u62) (c := .look) rfl rfl rfl XH3 rfl rfl rfl ?_
  refine Z7 (env' := u62) (c := .look) rfl rfl rfl XH3 rfl rfl rfl ?_
  refine Z7 (env' := u62) (c := .calm) rfl rfl rfl (rfl) rfl rfl rfl ?_
  refine Z7 (env' := u62) (c := .look) rfl rfl rfl XH3 rfl rfl rfl ?_
  refine Z7 (env' := u62) (c := .calm) rfl rfl rfl (v_andNotW rfl rfl rfl) rfl rfl rfl ?_
  refine Yc (env' := u62) rfl rfl rfl rfl rfl (by exact mset_spec _ _) XH23 rfl rfl ?_
  refine Yc (env' := u62) rfl rfl rfl rfl rfl (by exact All_spec _ _) XH23 rfl rfl ?_
  refine ZY [] XH5 (trivial) ?_
  refine Zc (Zl ?_)
  refine Zu (true :: true :: true :: false :: false :: false :: false :: true :: true :: true :: true :: true :: true :: true :: true :: true :: true :: true :: true :: true :: false :: true :: true :: true :: true :: true :: true :: true :: true :: true :: true :: true :: true :: true :: true :: true :: true :: true :: true :: true :: true :: true :: true :: true :: true :: true :: true :: true :: true :: true :: true :: true :: true :: true :: true :: true :: true :: true :: true :: true :: true :: true :: []) (env' := u62) rfl ?_
  refine B_rangeM cI (pl (rows.getD row.toNat 0 &&& ~~~S) 0) (fun l0 h => by cases h) rfl (fun l G R h => All1_spec _ _ _ _ h) (σ := GSt × Bool) (fun k s => mtH H p q rows s.1 ++ [.cells [.ptr (some (p, 0))] true, .cells [iI row] true, .cells [.ptr (some (q, 0))] true, .cells [.bool s.2] true, k]) ((O, S), false) (fun k => by show _ = mtH H p q rows (O, S) ++ _; rw [mtH_id hp hq, List.append_assoc]; rfl) (fun k s => by rw [List.length_append]; exact ZL (mtH_len rfl) rfl) (fun k k1 s => by rw [List.length_append]; exact ZQ (mtH_len rfl)) (fun pre s => ∃ z, (pl (rows.getD row.toNat 0 &&& ~~~S) 0) = pre ++ z ∧ grL (grw rows n) row (pl (rows.getD row.toNat 0 &&& ~~~S) 0) (O, S) = grL (grw rows n) row z s.1 ∧ s.1.1 = O ∧ 64 - Yw 64 s.1.2 ≤ n ∧ s.2 = false) ?_ (fun j pre c s => (j = Code.ret ∧ (grL (grw rows n) row (pl (rows.getD row.toNat 0 &&& ~~~S) 0) (O, S) = (true, s.1) ∧ s.2 = true))) rfl ?_ ?_ ?_
  · exact ⟨_, rfl, rfl, rfl, by show 64 - Yw 64 S ≤ n; omega, rfl⟩
  · intro pre c post s hx hI kr kb hkr hkb
    obtain ⟨s1, res⟩ := s
    try dsimp only at hI ⊢
    obtain ⟨z, hz, hg, hO1, hcm, hres⟩ := hI
    have hres : res = false := hres
    subst hres
    obtain rfl : z = c :: post := List.append_cancel_left (hz.symm.trans hx)
    have hO1 : s1.1 = O := hO1
    have hcm : 64 - Yw 64 s1.2 ≤ n := hcm
    have hg : grL (grw rows n) row (pl (rows.getD row.toNat 0 &&& ~~~S) 0) (O, S) = grL (grw rows n) row (c :: post) s1 := hg
    have hcx : c ∈ (pl (rows.getD row.toNat 0 &&& ~~~S) 0) := by rw [hx]; simp
    obtain ⟨_, hc64, _⟩ := mem_pl.1 hcx
    have hk1 : Gok rows s1.1 := by rw [hO1]; exact hO
    have hl1 : s1.1.length = 64 := hk1.len
    have hnn1 := hk1.nn c hc64
    refine ZR (env' := u62) rfl ?_
    refine Za ?_
    refine Zp (env' := u62) rfl rfl (Zb (.inr rfl) rfl) rfl ?_
    refine Ze ?_
    refine ⟨rfl, (s1, false), rfl, ?_⟩
    try dsimp only
    refine Zl (Zd (Zd (Za ?_)))
    refine Zp (env' := u62) rfl rfl XH3 rfl ?_
    refine Zp (env' := u62) rfl rfl (rfl) rfl ?_
    refine Zp (env' := u62) rfl rfl XH3 rfl ?_
    refine Zp (env' := u62) rfl rfl (Zb (.inl rfl) rfl) rfl ?_
    refine Zp (env' := u62) rfl rfl (v_shrW rfl rfl rfl XH1) rfl ?_
    refine Zp (env' := u62) rfl rfl (v_andW (b := 1#64) rfl rfl rfl) rfl ?_
    refine Zp (env' := u62) rfl rfl (rfl) rfl ?_
    refine Ze (Zc ?_)
    refine Zk _ rfl (fun hc1 => ?_) (fun hc1 => ?_)
    · try simp only [decide_eq_true_eq, decide_eq_false_iff_not, Bool.not_eq_true', Bool.not_eq_false', bne_iff_ne, beq_iff_eq, Bool.and_eq_true, Bool.or_eq_true, Bool.not_eq_true, ge_iff_le, gt_iff_lt, Int.not_le, Int.not_lt, beq_eq_false_iff_ne, bne_eq_false_iff_eq, ne_eq, Decidable.not_not, ZZ, Yd, Yb] at hc1
      refine ZH (ZI (ZG ?_))
      have hseen : s1.2.getLsbD c = true := sh1.1 (by assumption)
      refine ⟨(s1, false), rfl, .inl ⟨rfl, ?_⟩⟩
      exact ⟨post, by rw [hx, List.append_assoc]; rfl, by rw [hg, grL, if_pos hseen], hO1, hcm, rfl⟩
    · try simp only [decide_eq_true_eq, decide_eq_false_iff_not, Bool.not_eq_true', Bool.not_eq_false', bne_iff_ne, beq_iff_eq, Bool.and_eq_true, Bool.or_eq_true, Bool.not_eq_true, ge_iff_le, gt_iff_lt, Int.not_le, Int.not_lt, beq_eq_false_iff_ne, bne_eq_false_iff_eq, ne_eq, Decidable.not_not, ZZ, Yd, Yb] at hc1
      refine Zj (Zc (Zd ?_))
      refine ZS [0, 1, 2, 3, 4, 5, 6, 7] #[0, 1, 3, 0, 8, 31, 63, 127] XH5 XH5 XH5 ?_
      have hnseen : ¬ s1.2.getLsbD c = true := fun e => absurd (sh1.2 e) (by assumption)
      have hcg := come_grow (s := s1.2) (t := s1.2 ||| 1#64 <<< c) (fun a ha => (or1 hc64).2 (.inl ha)) ⟨c, (or1 hc64).2 (.inr rfl), bool_f hnseen⟩
      have hcl := come_le (s1.2 ||| 1#64 <<< c)
      refine Z7 (env' := u62) (c := .look) rfl rfl rfl XH3 rfl rfl rfl ?_
      refine Z7 (env' := u62) (c := .calm) rfl rfl rfl (rfl) rfl rfl rfl ?_
      refine Z7 (env' := u62) (c := .look) rfl rfl rfl XH3 rfl rfl rfl ?_
      refine Z7 (env' := u62) (c := .calm) rfl rfl rfl (Zb (.inl rfl) rfl) rfl rfl rfl ?_
      refine Z7 (env' := u62) (c := .calm) rfl rfl rfl (v_shl1 rfl rfl rfl XH1) rfl rfl rfl ?_
      refine Z7 (env' := u62) (c := .calm) rfl rfl rfl (v_orW rfl rfl rfl) rfl rfl rfl ?_
      refine Z7 (env' := u62) (c := .calm) rfl rfl rfl (rfl) rfl rfl rfl ?_
      refine Z7 (env' := u62) (c := .turn) rfl rfl rfl (Z5 rfl rfl rfl rfl rfl rfl rfl XH41 XH6 (by exact mt_setq hqH)) rfl rfl rfl ?_
      refine ZY [] XH5 (trivial) ?_
      refine Zc (Zd ?_)
      refine ZS [0, 1, 2, 3, 4, 5, 6, 7, 8, 9, 10, 11, 12, 13, 14, 15, 16, 17, 18] #[0, 0, 1, 5, 15, 31, 63, 127, 255, 255, 255, 767, 2815, 7935, 16127, 32511, 255, 131071, 262143] XH5 XH5 XH5 ?_
      refine Z7 (env' := u62) (c := .look) rfl rfl rfl XH11 rfl rfl rfl ?_
      refine Z7 (env' := u62) (c := .calm) rfl rfl rfl (Zb (.inl rfl) rfl) rfl rfl rfl ?_
      refine Z7 (env' := u62) (c := .calm) rfl rfl rfl (rfl) rfl rfl rfl ?_
      refine Z7 (env' := u62) (c := .calm) rfl rfl rfl (rfl) rfl rfl rfl ?_
      refine Z7 (env' := u62) (c := .calm) rfl rfl rfl XH40 rfl rfl rfl ?_
      refine Z7 (env' := u62) (c := .look) rfl rfl rfl XH17 rfl rfl rfl ?_
      refine Z7 (env' := u62) (c := .calm) rfl rfl rfl (rfl) rfl rfl rfl ?_
      refine Z7 (env' := u62) (c := .calm) rfl rfl rfl (Zb (.inl rfl) rfl) rfl rfl rfl ?_
      refine O_split 43 (env1 := u62) (env2 := u62) rfl rfl rfl (fun hg2 => ?_) (fun hg2 => ?_)
      · try simp only [decide_eq_true_eq, decide_eq_false_iff_not, Bool.not_eq_true', Bool.not_eq_false', bne_iff_ne, beq_iff_eq, Bool.and_eq_true, Bool.or_eq_true, Bool.not_eq_true, ge_iff_le, gt_iff_lt, Int.not_le, Int.not_lt, beq_eq_false_iff_ne, bne_eq_false_iff_eq, ne_eq, Decidable.not_not, ZZ, Yd, Yb] at hg2
        refine O_off (env' := u62) rfl rfl rfl rfl ?_
        refine O_off (env' := u62) rfl rfl rfl rfl ?_
        refine O_off (env' := u62) rfl rfl rfl rfl ?_
        refine O_off (env' := u62) rfl rfl rfl rfl ?_
        refine O_off (env' := u62) rfl rfl rfl rfl ?_
        refine O_off (env' := u62) rfl rfl rfl rfl ?_
        refine O_off (env' := u62) rfl rfl rfl rfl ?_
        refine O_off (env' := u62) rfl rfl rfl rfl ?_
        refine O_off (env' := u62) rfl rfl rfl rfl ?_
        refine O_off (env' := u62) rfl rfl rfl rfl ?_
        refine Z7 (env' := u62) (c := .calm) rfl rfl rfl (ZF (VVal.bool true) rfl rfl rfl) rfl rfl rfl ?_
        refine ZY [] XH5 (trivial) ?_
        refine Zc ?_
        refine ZM rfl rfl ?_
        refine Zd ?_
        refine ZS [0, 1, 2, 3, 4, 5, 6, 7] #[0, 0, 0, 4, 1, 17, 63, 127] XH5 XH5 XH5 ?_
        refine Z7 (env' := u62) (c := .look) rfl rfl rfl XH11 rfl rfl rfl ?_
        refine Z7 (env' := u62) (c := .calm) rfl rfl rfl (Zb (.inl rfl) rfl) rfl rfl rfl ?_
        refine Z7 (env' := u62) (c := .look) rfl rfl rfl XH11 rfl rfl rfl ?_
        refine Z7 (env' := u62) (c := .calm) rfl rfl rfl (YY rfl rfl rfl XH1) rfl rfl rfl ?_
        refine Z7 (env' := u62) (c := .calm) rfl rfl rfl (rfl) rfl rfl rfl ?_
        refine Z7 (env' := u62) (c := .calm) rfl rfl rfl (rfl) rfl rfl rfl ?_
        refine Z7 (env' := u62) (c := .calm) rfl rfl rfl XH40 rfl rfl rfl ?_
        refine Z7 (env' := u62) (c := .turn) rfl rfl rfl (Z5 rfl rfl rfl rfl rfl rfl rfl XH41 XH35 XH37) rfl rfl rfl ?_
        refine ZY [] XH5 (trivial) ?_
        refine Zc (Zd (Za ?_))
        refine Zp (env' := u62) rfl rfl (YE (VVal.bool true) rfl rfl rfl rfl rfl rfl rfl XH41 XH6 (by exact ZQ (mtH_len rfl))) rfl ?_
        refine Ze (Zc (Zi (ZE ?_)))
        refine ⟨(_, true), rfl, .inr ⟨Code.ret, rfl, ⟨rfl, ?_⟩⟩⟩
        first
          | exact ⟨by rw [hg, grL, if_neg hnseen, if_pos (by assumption)]; rfl, rfl⟩
          | exact ⟨by rw [hg, grL, if_neg hnseen, if_neg hno, if_pos (by assumption)]; rfl, rfl⟩
      · try simp only [decide_eq_true_eq, decide_eq_false_iff_not, Bool.not_eq_true', Bool.not_eq_false', bne_iff_ne, beq_iff_eq, Bool.and_eq_true, Bool.or_eq_true, Bool.not_eq_true, ge_iff_le, gt_iff_lt, Int.not_le, Int.not_lt, beq_eq_false_iff_ne, bne_eq_false_iff_eq, ne_eq, Decidable.not_not, ZZ, Yd, Yb] at hg2
        have hno : ¬ s1.1.getD c 0 = 0 := by assumption
        have hgr := grw_ok (rows := rows) (n := n) (row := s1.1.getD c 0 - 1) (s := (s1.1, s1.2 ||| 1#64 <<< c)) (by omega) (by omega) hk1 XH34
        refine Z7 (env' := u62) (c := .look) rfl rfl rfl XH11 rfl rfl rfl ?_
        refine Z7 (env' := u62) (c := .look) rfl rfl rfl XH11 rfl rfl rfl ?_
        refine Z7 (env' := u62) (c := .calm) rfl rfl rfl (Zb (.inl rfl) rfl) rfl rfl rfl ?_
        refine Z7 (env' := u62) (c := .calm) rfl rfl rfl (rfl) rfl rfl rfl ?_
        refine Z7 (env' := u62) (c := .calm) rfl rfl rfl (rfl) rfl rfl rfl ?_
        refine Z7 (env' := u62) (c := .calm) rfl rfl rfl XH40 rfl rfl rfl ?_
        refine Z7 (env' := u62) (c := .look) rfl rfl rfl XH17 rfl rfl rfl ?_
        refine Z7 (env' := u62) (c := .calm) rfl rfl rfl (v_subI rfl rfl rfl XH1) rfl rfl rfl ?_
        refine Z7 (env' := u62) (c := .look) rfl rfl rfl XH11 rfl rfl rfl ?_
        refine Yc (env' := u62) rfl rfl rfl rfl rfl (by exact grow_in hpq ih H _ (s1.1, s1.2 ||| 1#64 <<< c) hpH hqH _ (show (0 : Int) ≤ s1.1.getD c 0 - 1 by omega) (show s1.1.getD c 0 - 1 < (rows.length : Int) by omega) hk1 XH34) XH23 rfl rfl ?_
        refine Z7 (env' := u62) (c := .calm) rfl rfl rfl (ZW rfl rfl rfl) rfl rfl rfl ?_
        refine ZY [] XH5 (trivial) ?_
        refine Zc ?_
        refine Zk _ rfl (fun hc3 => ?_) (fun hc3 => ?_)
        · try simp only [decide_eq_true_eq, decide_eq_false_iff_not, Bool.not_eq_true', Bool.not_eq_false', bne_iff_ne, beq_iff_eq, Bool.and_eq_true, Bool.or_eq_true, Bool.not_eq_true, ge_iff_le, gt_iff_lt, Int.not_le, Int.not_lt, beq_eq_false_iff_ne, bne_eq_false_iff_eq, ne_eq, Decidable.not_not, ZZ, Yd, Yb] at hc3
          refine Zd ?_
          refine ZS [0, 1, 2, 3, 4, 5, 6, 7] #[0, 0, 0, 4, 1, 17, 63, 127] XH5 XH5 XH5 ?_
          refine Z7 (env' := u62) (c := .look) rfl rfl rfl XH11 rfl rfl rfl ?_
          refine Z7 (env' := u62) (c := .calm) rfl rfl rfl (Zb (.inl rfl) rfl) rfl rfl rfl ?_
          refine Z7 (env' := u62) (c := .look) rfl rfl rfl XH11 rfl rfl rfl ?_
          refine Z7 (env' := u62) (c := .calm) rfl rfl rfl (YY rfl rfl rfl XH1) rfl rfl rfl ?_
          refine Z7 (env' := u62) (c := .calm) rfl rfl rfl (rfl) rfl rfl rfl ?_
          refine Z7 (env' := u62) (c := .calm) rfl rfl rfl (rfl) rfl rfl rfl ?_
          refine Z7 (env' := u62) (c := .calm) rfl rfl rfl XH40 rfl rfl rfl ?_
          refine Z7 (env' := u62) (c := .turn) rfl rfl rfl (Z5 rfl rfl rfl rfl rfl rfl rfl XH41 XH35 XH37) rfl rfl rfl ?_
          refine ZY [] XH5 (trivial) ?_
          refine Zc (Zd (Za ?_))
          refine Zp (env' := u62) rfl rfl (YE (VVal.bool true) rfl rfl rfl rfl rfl rfl rfl XH41 XH6 (by exact ZQ (mtH_len rfl))) rfl ?_
          refine Ze (Zc (Zi (ZE ?_)))
          refine ⟨(_, true), rfl, .inr ⟨Code.ret, rfl, ⟨rfl, ?_⟩⟩⟩
          first
            | exact ⟨by rw [hg, grL, if_neg hnseen, if_pos (by assumption)]; rfl, rfl⟩
            | exact ⟨by rw [hg, grL, if_neg hnseen, if_neg hno, if_pos (by assumption)]; rfl, rfl⟩
        · try simp only [decide_eq_true_eq, decide_eq_false_iff_not, Bool.not_eq_true', Bool.not_eq_false', bne_iff_ne, beq_iff_eq, Bool.and_eq_true, Bool.or_eq_true, Bool.not_eq_true, ge_iff_le, gt_iff_lt, Int.not_le, Int.not_lt, beq_eq_false_iff_ne, bne_eq_false_iff_eq, ne_eq, Decidable.not_not, ZZ, Yd, Yb] at hc3
          refine Zj (Zr ?_)
          have hcg2 : Yw 64 (s1.2 ||| 1#64 <<< c) ≤ Yw 64 (grw rows n (s1.1.getD c 0 - 1) (s1.1, s1.2 ||| 1#64 <<< c)).2.2 := come_le2 hgr.sub
          refine ⟨(_, false), rfl, .inl ⟨rfl, ?_⟩⟩
          exact ⟨post, by rw [hx, List.append_assoc]; rfl, by rw [hg, grL, if_neg hnseen, if_neg hno, if_neg (Yp (by assumption))]; rfl, ((hgr.no (by assumption)).1).trans hO1, (by show 64 - Yw 64 (grw rows n (s1.1.getD c 0 - 1) (s1.1, s1.2 ||| 1#64 <<< c)).2.2 ≤ n; omega), rfl⟩
  · intro s k hk hI
    obtain ⟨s1, res⟩ := s
    try dsimp only at hI ⊢
    obtain ⟨z, hz, hg, hO1, hcm, hres⟩ := hI
    have hres : res = false := hres
    subst hres
    obtain rfl : z = [] := by simpa using hz
    refine Zr (Zc (Zd (Za ?_)))
    refine Zp (env' := u62) rfl rfl (YE (VVal.bool false) rfl rfl rfl rfl rfl rfl rfl XH41 XH6 (by exact ZQ (mtH_len rfl))) rfl ?_
    refine Ze (Zc (Zi ?_))
    refine Yz (.inr rfl) (vres_cell rfl rfl rfl rfl (by exact ZL (mtH_len rfl) rfl) (by first | rfl | assumption | exact own_cell (by omega) | exact fget (α := BitVec 64) 0 (by omega))) (by exact mt_base trivial) XH15 ?_
    exact ⟨by rw [show grw rows (n + 1) row (O, S) = (false, s1) from hg], by rw [show grw rows (n + 1) row (O, S) = (false, s1) from hg]⟩
  · rintro j pre c post s k hk hx (⟨rfl, hX⟩)
    obtain ⟨s1, res⟩ := s
    try dsimp only
    obtain ⟨hX1, hX2⟩ := hX
    have hX2 : res = true := hX2
    subst hX2
    refine J_ret ?_
    refine ZE (Zm ?_)
    refine Yz (.inr rfl) (vres_cell rfl rfl rfl rfl (by exact ZL (mtH_len rfl) rfl) (by first | rfl | assumption | exact own_cell (by omega) | exact fget (α := BitVec 64) 0 (by omega))) (by exact mt_base trivial) XH15 ?_
    exact ⟨by rw [show grw rows (n + 1) row (O, S) = (true, s1) from hX1], by rw [show grw rows (n + 1) row (O, S) = (true, s1) from hX1]⟩
end MM
open Go Go.V Go.RowKit
abbrev u27 {a0 a1 a2 a3 a4 a5 a6 a7 a8 a9 a10 a11 a12 a13 a14 a15 a16 a17 a18 a19 a20 a21 a22 a23 a24 a25 a26 : VVal} : VEnv := a0 :: a1 :: a2 :: a3 :: a4 :: a5 :: a6 :: a7 :: a8 :: a9 :: a10 :: a11 :: a12 :: a13 :: a14 :: a15 :: a16 :: a17 :: a18 :: a19 :: a20 :: a21 :: a22 :: a23 :: a24 :: a25 :: a26 :: []
namespace MM
theorem grow_spec {x : SW} (p q : Nat) (rows : List (BitVec 64)) (hpq : p ≠ q) (h62 : rows.length < 4611686018427387904) : ∀ (n : Nat) (H : Zf) (row : Int) (O : List Int) (S : BitVec 64), H[p]? = some (mtB rows O) → H[q]? = some (seB S) → 0 ≤ row → row < rows.length → Gok rows O → 64 - Yw 64 S < n → F (psys x) 150 [.ptr (some (p, 0)), iI row, .ptr (some (q, 0))] H fun v G => v = .bool (grw rows n row (O, S)).1 ∧ G = mtH H p q rows (grw rows n row (O, S)).2
  | 0, _, _, _, _, _, _, _, _, _, h => absurd h (by omega)
  | n + 1, H, row, O, S, hp, hq, h0, h1, hO, hm => grow_s p q n rows hpq (fun H row O S a b c d e f => grow_spec p q rows hpq h62 n H row O S a b c d e f) H row O S hp hq h0 h1 hO hm h62
theorem grow_at {x : SW} (H : Zf) (rows : List (BitVec 64)) (O : List Int) (row : Int) (h0 : 0 ≤ row) (h1 : row < rows.length) (hO : Gok rows O) (h62 : rows.length < 4611686018427387904) : F (psys x) 150 [.ptr (some (H.length + 0, 0)), iI row, .ptr (some (H.length + 1, 0))] (H ++ [mtB rows O, seB 0#64]) fun v G => v = .bool (grw rows 65 row (O, 0#64)).1 ∧ G = H ++ [mtB rows (grw rows 65 row (O, 0#64)).2.1, seB (grw rows 65 row (O, 0#64)).2.2] := by
  have := grow_spec (x := x) (H.length + 0) (H.length + 1) rows (by omega) h62 65 (H ++ [mtB rows O, seB 0#64]) row O 0#64 (ZL rfl rfl) (ZL rfl rfl) h0 h1 hO (by rw [come_0]; omega)
  unfold mtH at this
  rw [ZQ rfl, ZQ rfl] at this
  exact this
theorem mtB_under {n : Nat} {rows : List (BitVec 64)} {O : List Int} : (mtB rows O).under n = true := by
  show VVal.underL n (fzW rows :: O.map iI) = true
  simp [VVal.underL, YJ, Y3]
def mskT (l : List (BitVec 64)) (t : BitVec 64) (k : Nat) : List (BitVec 64) := msk (l.take k) t ++ l.drop k
theorem beq_nat {a b : Nat} : ((a : Int) == (b : Int)) = (a == b) := Bool.eq_iff_iff.2 (by rw [beq_iff_eq, beq_iff_eq]; omega)
theorem mskT_len {l : List (BitVec 64)} {t : BitVec 64} {k : Nat} : (mskT l t k).length = l.length := by
  unfold mskT; rw [List.length_append, Ye, List.length_take, List.length_drop]; omega
theorem mskT_0 {l : List (BitVec 64)} {t : BitVec 64} : mskT l t 0 = l := by unfold mskT msk; simp
theorem mskT_all {l : List (BitVec 64)} {t : BitVec 64} : mskT l t l.length = msk l t := by unfold mskT; simp
theorem mskT_get {l : List (BitVec 64)} {t : BitVec 64} {k : Nat} (h : k < l.length) : (mskT l t k).getD k 0 = l.getD k 0 := by
  unfold mskT
  rw [List.getD_eq_getElem?_getD, List.getElem?_append_right (by rw [Ye, List.length_take]; omega), Ye, List.length_take, Nat.min_eq_left (by omega), Nat.sub_self, List.getElem?_drop, Nat.add_zero, List.getD_eq_getElem?_getD]
theorem mskT_set {l : List (BitVec 64)} {t : BitVec 64} {k : Nat} (h : k < l.length) : (mskT l t k).set k (l.getD k 0 &&& ~~~t) = mskT l t (k + 1) := by
  unfold mskT
  rw [List.set_append_right _ _ (by rw [Ye, List.length_take]; omega), Ye, List.length_take, Nat.min_eq_left (by omega), Nat.sub_self, List.take_succ_eq_append_getElem h, List.drop_eq_getElem_cons h, List.getD_eq_getElem?_getD, List.getElem?_eq_getElem h]
  show msk (l.take k) t ++ ((l[k] &&& ~~~t) :: l.drop (k + 1)) = _
  unfold msk
  rw [List.map_append, List.append_assoc]; rfl
theorem splice_w {l : List (BitVec 64)} {k : Nat} {w : BitVec 64} (h : k < l.length) : ZD (l.map iW) (0 + k * 1) [iW w] = (l.set k w).map iW := by
  rw [show 0 + k * 1 = k by omega]
  unfold ZD
  rw [List.map_set, List.set_eq_take_append_cons_drop, if_pos XH36]; simp
theorem size_spec {x : SW} (H : Zf) (rows : List (BitVec 64)) (h62 : rows.length < 4611686018427387904) : F (psys x) 130 [fzW rows] H fun v G => v = iI (szN rows : Nat) ∧ G = H := by
  refine Zq Tryd.func130 rfl u22 rfl ?_
  refine Zd (Za ?_)
  refine Zp (env' := u22) rfl rfl (Zg (VVal.int .i64 0) (.inr rfl) rfl) rfl ?_
  refine Ze (Zc (Zd (Za ?_)))
  refine Zp (env' := u22) rfl rfl (Zb (.inl rfl) rfl) rfl ?_
  refine Zp (env' := u22) rfl rfl (rfl) rfl ?_
  refine Zp (env' := u22) rfl rfl (ZK rfl rfl rfl) rfl ?_
  refine Zp (env' := u22) rfl rfl (Zb (.inr rfl) rfl) rfl ?_
  refine Zp (env' := u22) rfl rfl (Zg (VVal.int .i64 0) (.inr rfl) rfl) rfl ?_
  refine Ze (Zc (Zd (Zd (Za ?_))))
  refine Zp (env' := u22) rfl rfl (Zb (.inl rfl) rfl) rfl ?_
  refine Zp (env' := u22) rfl rfl (rfl) rfl ?_
  refine Zp (env' := u22) rfl rfl (Zg (VVal.int .i64 0) (.inl rfl) rfl) rfl ?_
  refine Ze (Zc (Zl ?_))
  refine Zu [true,true,true,false,false,true,true,true,true,true,true,false,false,true,true,true,true,true,true,true,true,true] (env' := u22) rfl ?_
  refine ZA (fun (k : Nat) => rows.length - k) (fun (k : Nat) => [(4, iI ((szO rows k).2 : Nat)), (12, iI (k : Nat))]) (fun (k : Nat) G => (k ≤ rows.length) ∧ G = H ++ [mtB rows (szO rows k).1]) 0 rfl ?_ ?_
  · refine ⟨?_, rfl⟩
    exact Nat.zero_le _
  rintro k _ ⟨hk, rfl⟩
  refine ZR (env' := u22) rfl ?_
  refine Zd (Za ?_)
  refine Zp (env' := u22) rfl rfl (rfl) rfl ?_
  refine Ze (Zc (Zd ?_))
  refine Zk _ rfl (fun hc1 => ?_) (fun hc1 => ?_)
  · try simp only [decide_eq_true_eq, decide_eq_false_iff_not, Bool.not_eq_true', Bool.not_eq_false', bne_iff_ne, beq_iff_eq, Bool.and_eq_true, Bool.or_eq_true, Bool.not_eq_true, ge_iff_le, gt_iff_lt, Int.not_le, Int.not_lt, beq_eq_false_iff_ne, bne_eq_false_iff_eq, ne_eq, Decidable.not_not, ZZ, Yd, Yb] at hc1
    refine Zj (Zc (Zd (Zl (Zd (Za ?_)))))
    refine Zp (env' := u22) rfl rfl (Zb (.inl rfl) rfl) rfl ?_
    refine Zp (env' := u22) rfl rfl (Zb (.inr rfl) rfl) rfl ?_
    refine Ze (Zc (Zd (Za ?_)))
    refine Zp (env' := u22) rfl rfl (ZT rfl rfl) rfl ?_
    refine Zp (env' := u22) rfl rfl (YE (VVal.int .u64 0) rfl rfl rfl rfl rfl rfl rfl XH7 XH6 XH20) rfl ?_
    refine Ze (Zc (Zd (Za ?_)))
    refine Zp (env' := u22) rfl rfl (Zb (.inl rfl) rfl) rfl ?_
    refine Zp (env' := u22) rfl rfl (Zb (.inl rfl) rfl) rfl ?_
    refine Zv rfl rfl rfl (by exact grow_at H rows (szO rows k).1 k (by omega) (by omega) (szO_ok (by omega)) h62) ?_
    rintro _ _ ⟨rfl, rfl⟩
    refine L_env (env' := u22) rfl ?_
    refine Ze (Zc ?_)
    refine Zk _ rfl (fun hc2 => ?_) (fun hc2 => ?_)
    · try simp only [decide_eq_true_eq, decide_eq_false_iff_not, Bool.not_eq_true', Bool.not_eq_false', bne_iff_ne, beq_iff_eq, Bool.and_eq_true, Bool.or_eq_true, Bool.not_eq_true, ge_iff_le, gt_iff_lt, Int.not_le, Int.not_lt, beq_eq_false_iff_ne, bne_eq_false_iff_eq, ne_eq, Decidable.not_not, ZZ, Yd, Yb] at hc2
      refine Za ?_
      refine Zp (env' := u22) rfl rfl (Zb (.inl rfl) rfl) rfl ?_
      refine Zp (env' := u22) rfl rfl (YY rfl rfl rfl (by have := @szO_le rows k; omega)) rfl ?_
      refine Zp (env' := u22) rfl rfl (Zb (.inr rfl) rfl) rfl ?_
      refine Ze (Zr (Zc (Za ?_)))
      refine Zp (env' := u22) rfl rfl (YY rfl rfl rfl XH1) rfl ?_
      refine Zp (env' := u22) rfl rfl (Zb (.inl rfl) rfl) rfl ?_
      refine Ze ?_
      first
        | (have hE : (((szO rows k).2 : Nat) : Int) + 1 = ((szO rows (k + 1)).2 : Nat) := by rw [szO, if_pos (by assumption)]; rfl); rw [hE]
        | (have hE : (szO rows k).2 = (szO rows (k + 1)).2 := by rw [szO]; simp only; rw [if_neg (Yp (by assumption))]); rw [hE]
      refine K_loopG [true,true,true,false,false,true,true,true,true,true,true,false,false,true,true,true,true,true,true,true,true,true] (env' := u22) rfl (Gh.dropTo (L := [mtB rows (szO rows (k + 1)).1]) (X := [seB _]) 1 rfl (BaseOk.refl _) XH19 (by simp [mtB_under])) ⟨k + 1, ?_, rfl, ?_⟩
      · first | omega | (simp only []; omega)
      · exact ⟨by omega, rfl⟩
    · try simp only [decide_eq_true_eq, decide_eq_false_iff_not, Bool.not_eq_true', Bool.not_eq_false', bne_iff_ne, beq_iff_eq, Bool.and_eq_true, Bool.or_eq_true, Bool.not_eq_true, ge_iff_le, gt_iff_lt, Int.not_le, Int.not_lt, beq_eq_false_iff_ne, bne_eq_false_iff_eq, ne_eq, Decidable.not_not, ZZ, Yd, Yb] at hc2
      refine Zj (Zr (Zc (Za ?_)))
      refine Zp (env' := u22) rfl rfl (YY rfl rfl rfl XH1) rfl ?_
      refine Zp (env' := u22) rfl rfl (Zb (.inl rfl) rfl) rfl ?_
      refine Ze ?_
      first
        | (have hE : (((szO rows k).2 : Nat) : Int) + 1 = ((szO rows (k + 1)).2 : Nat) := by rw [szO, if_pos (by assumption)]; rfl); rw [hE]
        | (have hE : (szO rows k).2 = (szO rows (k + 1)).2 := by rw [szO]; simp only; rw [if_neg (Yp (by assumption))]); rw [hE]
      refine K_loopG [true,true,true,false,false,true,true,true,true,true,true,false,false,true,true,true,true,true,true,true,true,true] (env' := u22) rfl (Gh.dropTo (L := [mtB rows (szO rows (k + 1)).1]) (X := [seB _]) 1 rfl (BaseOk.refl _) XH19 (by simp [mtB_under])) ⟨k + 1, ?_, rfl, ?_⟩
      · first | omega | (simp only []; omega)
      · exact ⟨by omega, rfl⟩
  · try simp only [decide_eq_true_eq, decide_eq_false_iff_not, Bool.not_eq_true', Bool.not_eq_false', bne_iff_ne, beq_iff_eq, Bool.and_eq_true, Bool.or_eq_true, Bool.not_eq_true, ge_iff_le, gt_iff_lt, Int.not_le, Int.not_lt, beq_eq_false_iff_ne, bne_eq_false_iff_eq, ne_eq, Decidable.not_not, ZZ, Yd, Yb] at hc1
    refine ZH (ZI (Zw (ZG (Zc (Zd (Za ?_))))))
    refine Zp (env' := u22) rfl rfl (Zb (.inl rfl) rfl) rfl ?_
    refine Zp (env' := u22) rfl rfl (Zb (.inr rfl) rfl) rfl ?_
    refine Ze (Zc (Zi ?_))
    refine Yz (.inr rfl) (Zh rfl rfl) XH12 (by first | rfl | simp [VVal.under, VVal.underL, YJ, *]) ?_
    obtain rfl : k = rows.length := by omega
    exact ⟨rfl, rfl⟩
theorem size_m {x : SW} {n : Nat} (H : Zf) (l : List (BitVec 64)) (t : BitVec 64) (hn : n = (msk l t).length) (h62 : (msk l t).length < 4611686018427387904) : F (psys x) 130 [.fsl ((msk l t).map iW) n 1 false] H fun v G => v = iI (szN (msk l t) : Nat) ∧ G = H := by
  subst hn; exact size_spec H (msk l t) h62
theorem Clone_nil {x : SW} (H : Zf) : F (psys x) 99 [.slice none 0 0 true 0] H fun v G => v = .fsl [] 0 1 false ∧ G = H := by
  refine Zq Tryd.func99 rfl u8 rfl ?_
  refine Zd (Za ?_)
  refine Zp (env' := u8) rfl rfl (Zg (VVal.slice none 0 0 true 0) (.inr rfl) rfl) rfl ?_
  refine Ze (Zc (Zd (Zd (Za ?_))))
  refine Zp (env' := u8) rfl rfl (Zb (.inl rfl) rfl) rfl ?_
  refine Zp (env' := u8) rfl rfl (rfl) rfl ?_
  refine Ze (Zc ?_)
  refine ZM rfl rfl ?_
  refine Zd (Za ?_)
  refine Zp (env' := u8) rfl rfl (Zg (VVal.slice none 0 0 true 0) (.inr rfl) rfl) rfl ?_
  refine Ze (Zc (Zi (Zm ?_)))
  refine E_gh (.inr rfl) (Zh rfl rfl) (Gh.ansLV (BaseOk.refl _) (LV.nil H.length 1 []) rfl) ?_
  exact ⟨rfl, rfl⟩
theorem Clone_emp {x : SW} (H : Zf) : F (psys x) 99 [.slice none 0 0 false 0] H fun v G => v = .fsl [] 0 1 false ∧ G = H := by
  refine Zq Tryd.func99 rfl u8 rfl ?_
  refine Zd (Za ?_)
  refine Zp (env' := u8) rfl rfl (Zg (VVal.slice none 0 0 true 0) (.inr rfl) rfl) rfl ?_
  refine Ze (Zc (Zd (Zd (Za ?_))))
  refine Zp (env' := u8) rfl rfl (Zb (.inl rfl) rfl) rfl ?_
  refine Zp (env' := u8) rfl rfl (rfl) rfl ?_
  refine Ze (Zc ?_)
  refine Ym rfl rfl ?_
  refine Zj (Zc (Zd (Za ?_)))
  refine Zp (env' := u8) rfl rfl (ZJ rfl rfl (by decide) rfl) rfl ?_
  refine Zp (env' := u8) rfl rfl (Zb (.inl rfl) rfl) rfl ?_
  refine Zp (env' := u8) rfl rfl (v_appIn rfl rfl rfl rfl rfl rfl rfl (ZL rfl rfl) rfl rfl rfl rfl (by decide) (by decide) (by decide)) rfl ?_
  refine L_heap (H' := H ++ [.cells [] true]) (by rw [ZQ rfl]; rfl) ?_
  refine Zp (env' := u8) rfl rfl (Zb (.inr rfl) rfl) rfl ?_
  refine Ze (Zc (Zi ?_))
  refine E_gh (.inr rfl) (Zh rfl rfl) (Gh.fsl (j := 0) (off := 0) (len := 0) (l := []) (BaseOk.refl _) rfl rfl (Nat.le_refl _) rfl) ?_
  exact ⟨rfl, rfl⟩
theorem Clone_c {x : SW} (H : Zf) (l : List (BitVec 64)) (hne : l ≠ []) (hl : l.length ≤ 1000000) : F (psys x) 99 [fzW l] H fun v G => v = .slice (some (H.length, 0)) l.length l.length (decide (l.length = 0)) 1 ∧ G = H ++ [.cells (l.map iW) true] := by
  refine Zq Tryd.func99 rfl u8 rfl ?_
  refine Zd (Za ?_)
  refine Zp (env' := u8) rfl rfl (Zg (VVal.slice none 0 0 true 0) (.inr rfl) rfl) rfl ?_
  refine Ze (Zc (Zd (Zd (Za ?_))))
  refine Zp (env' := u8) rfl rfl (Zb (.inl rfl) rfl) rfl ?_
  refine Zp (env' := u8) rfl rfl (v_eqNilF rfl rfl rfl rfl rfl (fun e => hne (List.eq_nil_of_length_eq_zero e))) rfl ?_
  refine Ze (Zc ?_)
  refine Ym rfl rfl ?_
  refine Zj (Zc (Zd (Za ?_)))
  refine Zp (env' := u8) rfl rfl (ZJ rfl rfl (by decide) rfl) rfl ?_
  refine Zp (env' := u8) rfl rfl (Zb (.inl rfl) rfl) rfl ?_
  refine L_opX rfl rfl (v_appE rfl rfl rfl rfl rfl rfl rfl rfl XH27 (mapW_one _) (by decide) (by show l.length * 8 ≤ _ ∧ l.length ≤ _; omega)) ?_
  rintro _ _ ⟨Z, i, rfl, rfl, hi⟩
  refine L_env (env' := u8) rfl ?_
  refine Zp (env' := u8) rfl rfl (Zb (.inr rfl) rfl) rfl ?_
  refine Ze (Zc (Zi ?_))
  refine E_gh (.inr rfl) (Zh rfl rfl) (Gh.pack (BaseOk.refl _) hi (Yy _ _)) ?_
  exact ⟨rfl, rfl⟩
theorem Clone_0 {x : SW} (H : Zf) : F (psys x) 99 [fzW []] H fun v G => v = .fsl [] 0 1 false ∧ G = H := F_split0 (Clone_nil H) (Clone_emp H)
theorem Clone_L {x : SW} (H L : Zf) (l : List (BitVec 64)) (hne : l ≠ []) (hl : l.length ≤ 1000000) : F (psys x) 99 [fzW l] (H ++ L) fun v G => v = .slice (some (H.length + L.length, 0)) l.length l.length (decide (l.length = 0)) 1 ∧ G = H ++ (L ++ [.cells (l.map iW) true]) := by
  have := Clone_c (x := x) (H ++ L) l hne hl
  rw [List.length_append, List.append_assoc] at this
  exact this
theorem full_0 {x : SW} (H : Zf) (t : BitVec 64) : F (psys x) 102 [fzW [], iW t] H fun v G => v = .bool (Yj [] t) ∧ G = H := by
  refine Zq Tryd.func102 rfl u27 rfl ?_
  refine Zd (Za ?_)
  refine Zp (env' := u27) rfl rfl (Zg (VVal.bool false) (.inr rfl) rfl) rfl ?_
  refine Ze (Zc (Zd (Za ?_)))
  refine Zp (env' := u27) rfl rfl (Zb (.inl rfl) rfl) rfl ?_
  refine Zv rfl rfl rfl (by exact Clone_0 _) ?_
  rintro _ _ ⟨rfl, rfl⟩
  refine L_env (env' := u27) rfl ?_
  refine Zp (env' := u27) rfl rfl (Zb (.inr rfl) rfl) rfl ?_
  refine Ze (Zc (Zd (Zd (Za ?_))))
  refine Zp (env' := u27) rfl rfl (Zb (.inl rfl) rfl) rfl ?_
  refine Zp (env' := u27) rfl rfl (rfl) rfl ?_
  refine Zp (env' := u27) rfl rfl (Zg (VVal.int .i64 0) (.inl rfl) rfl) rfl ?_
  refine Ze (Zc (Zl ?_))
  refine Zu [false,false,true,true,true,false,true,true,true,true,false,false,true,true,true,true,true,true,true,true,true,true,true,true,true,true,true] (env' := u27) rfl ?_
  refine ZA (fun (k : Nat) => 0) (fun (k : Nat) => [(11, iI (k : Nat))]) (fun (k : Nat) G => (True) ∧ G = H ++ []) 0 rfl ?_ ?_
  · refine ⟨?_, rfl⟩
    trivial
  rintro k _ ⟨_, rfl⟩
  refine ZR (env' := u27) rfl ?_
  refine Zd (Za ?_)
  refine Zp (env' := u27) rfl rfl (rfl) rfl ?_
  refine Ze (Zc (Zd ?_))
  refine Zk _ rfl (fun hc1 => ?_) (fun hc1 => ?_)
  · try simp only [decide_eq_true_eq, decide_eq_false_iff_not, Bool.not_eq_true', Bool.not_eq_false', bne_iff_ne, beq_iff_eq, Bool.and_eq_true, Bool.or_eq_true, Bool.not_eq_true, ge_iff_le, gt_iff_lt, Int.not_le, Int.not_lt, beq_eq_false_iff_ne, bne_eq_false_iff_eq, ne_eq, Decidable.not_not, ZZ, Yd, Yb] at hc1
    exfalso; omega
  · try simp only [decide_eq_true_eq, decide_eq_false_iff_not, Bool.not_eq_true', Bool.not_eq_false', bne_iff_ne, beq_iff_eq, Bool.and_eq_true, Bool.or_eq_true, Bool.not_eq_true, ge_iff_le, gt_iff_lt, Int.not_le, Int.not_lt, beq_eq_false_iff_ne, bne_eq_false_iff_eq, ne_eq, Decidable.not_not, ZZ, Yd, Yb] at hc1
    refine ZH (ZI (Zw (ZG (Zc (Zd (Za ?_))))))
    refine Zp (env' := u27) rfl rfl (Zb (.inl rfl) rfl) rfl ?_
    refine Zv rfl rfl rfl (by exact size_spec _ [] (by decide)) ?_
    rintro _ _ ⟨rfl, rfl⟩
    refine L_env (env' := u27) rfl ?_
    refine Zp (env' := u27) rfl rfl (Zb (.inl rfl) rfl) rfl ?_
    refine Zp (env' := u27) rfl rfl (rfl) rfl ?_
    refine Zp (env' := u27) rfl rfl (rfl) rfl ?_
    refine Zp (env' := u27) rfl rfl (Zb (.inr rfl) rfl) rfl ?_
    refine Ze (Zc (Zi ?_))
    refine Yz (.inr rfl) (Zh rfl rfl) XH12 XH15 ?_
    exact ⟨rfl, rfl⟩
theorem full_c {x : SW} (H : Zf) (l : List (BitVec 64)) (t : BitVec 64) (hne : l ≠ []) (hl : l.length ≤ 1000000) : F (psys x) 102 [fzW l, iW t] H fun v G => v = .bool (Yj l t) ∧ G = H := by
  refine Zq Tryd.func102 rfl u27 rfl ?_
  refine Zd (Za ?_)
  refine Zp (env' := u27) rfl rfl (Zg (VVal.bool false) (.inr rfl) rfl) rfl ?_
  refine Ze (Zc (Zd (Za ?_)))
  refine Zp (env' := u27) rfl rfl (Zb (.inl rfl) rfl) rfl ?_
  refine Zv rfl rfl rfl (by exact Clone_L _ _ _ hne hl) ?_
  rintro _ _ ⟨rfl, rfl⟩
  refine L_env (env' := u27) rfl ?_
  refine Zp (env' := u27) rfl rfl (Zb (.inr rfl) rfl) rfl ?_
  refine Ze (Zc (Zd (Zd (Za ?_))))
  refine Zp (env' := u27) rfl rfl (Zb (.inl rfl) rfl) rfl ?_
  refine Zp (env' := u27) rfl rfl (rfl) rfl ?_
  refine Zp (env' := u27) rfl rfl (Zg (VVal.int .i64 0) (.inl rfl) rfl) rfl ?_
  refine Ze (Zc (Zl ?_))
  refine Zu [false,false,true,true,true,false,true,true,true,true,false,false,true,true,true,true,true,true,true,true,true,true,true,true,true,true,true] (env' := u27) rfl ?_
  refine ZA (fun (k : Nat) => l.length - k) (fun (k : Nat) => [(11, iI (k : Nat))]) (fun (k : Nat) G => (k ≤ l.length) ∧ G = H ++ [.cells ((mskT l t k).map iW) true]) 0 rfl ?_ ?_
  · refine ⟨?_, (by rw [mskT_0]; rfl)⟩
    exact Nat.zero_le _
  rintro k _ ⟨hk, rfl⟩
  refine ZR (env' := u27) rfl ?_
  refine Zd (Za ?_)
  refine Zp (env' := u27) rfl rfl (rfl) rfl ?_
  refine Ze (Zc (Zd ?_))
  refine Zk _ rfl (fun hc1 => ?_) (fun hc1 => ?_)
  · try simp only [decide_eq_true_eq, decide_eq_false_iff_not, Bool.not_eq_true', Bool.not_eq_false', bne_iff_ne, beq_iff_eq, Bool.and_eq_true, Bool.or_eq_true, Bool.not_eq_true, ge_iff_le, gt_iff_lt, Int.not_le, Int.not_lt, beq_eq_false_iff_ne, bne_eq_false_iff_eq, ne_eq, Decidable.not_not, ZZ, Yd, Yb] at hc1
    refine Zj (Zc (Zd (Zl (Zd (Za ?_)))))
    refine Zp (env' := u27) rfl rfl (Zb (.inl rfl) rfl) rfl ?_
    refine Zp (env' := u27) rfl rfl (Zb (.inr rfl) rfl) rfl ?_
    refine Ze (Zc (Za ?_))
    refine Zp (env' := u27) rfl rfl (Zb (.inl rfl) rfl) rfl ?_
    refine Zp (env' := u27) rfl rfl (Zb (.inl rfl) rfl) rfl ?_
    refine Zp (env' := u27) rfl rfl XH42 rfl ?_
    refine Zp (env' := u27) rfl rfl (by first | exact v_loadF rfl rfl rfl rfl (by first | exact fget0 (α := BitVec 64) 0 (by rw [mskT_len]; omega) | rfl) | exact v_load rfl rfl rfl rfl XH7 (by first | exact fget0 (α := BitVec 64) 0 (by rw [mskT_len]; omega) | rfl)) rfl ?_
    refine Zp (env' := u27) rfl rfl (Zb (.inl rfl) rfl) rfl ?_
    refine Zp (env' := u27) rfl rfl (v_andNotW rfl rfl rfl) rfl ?_
    refine Zp (env' := u27) rfl rfl XH42 rfl ?_
    refine Zp (env' := u27) rfl rfl (Z5 rfl rfl rfl rfl rfl rfl rfl XH7 (by first | (simp [mskT_len]; done) | (simp [mskT_len]; omega)) (by exact (ZQ rfl).trans (by rw [splice_w (by rw [mskT_len]; omega)]))) rfl ?_
    refine Ze (Zr (Zc (Za ?_)))
    refine Zp (env' := u27) rfl rfl (YY rfl rfl rfl XH1) rfl ?_
    refine Zp (env' := u27) rfl rfl (Zb (.inl rfl) rfl) rfl ?_
    refine Ze ?_
    have hE : (mskT l t k).set (k : Int).toNat ((mskT l t k).getD (k : Int).toNat 0 &&& ~~~t) = mskT l t (k + 1) := by rw [Int.toNat_natCast, mskT_get (by omega), mskT_set (by omega)]
    refine Zs [false,false,true,true,true,false,true,true,true,true,false,false,true,true,true,true,true,true,true,true,true,true,true,true,true,true,true] (env' := u27) rfl ⟨k + 1, ?_, rfl, ?_⟩
    · first | omega | (simp only []; omega)
    · exact ⟨by omega, by rw [← hE]; rfl⟩
  · try simp only [decide_eq_true_eq, decide_eq_false_iff_not, Bool.not_eq_true', Bool.not_eq_false', bne_iff_ne, beq_iff_eq, Bool.and_eq_true, Bool.or_eq_true, Bool.not_eq_true, ge_iff_le, gt_iff_lt, Int.not_le, Int.not_lt, beq_eq_false_iff_ne, bne_eq_false_iff_eq, ne_eq, Decidable.not_not, ZZ, Yd, Yb] at hc1
    refine ZH (ZI (Zw (ZG (Zc (Zd ?_)))))
    obtain rfl : k = l.length := by omega
    rw [mskT_all]
    refine Za ?_
    refine Zp (env' := u27) rfl rfl (Zb (.inl rfl) rfl) rfl ?_
    refine L_gh (Gh.freezeL (l := (msk l t).map iW) 22 0 rfl rfl (by rw [show l.length * 1 = (msk l t).length * 1 by rw [Ye]]; exact mapW_all) (Nat.le_refl _) rfl) ?_
    refine Zv rfl rfl rfl (by exact size_m _ _ _ (by rw [Ye]) (by rw [Ye]; omega)) ?_
    rintro _ _ ⟨rfl, rfl⟩
    refine L_env (env' := u27) rfl ?_
    refine Zp (env' := u27) rfl rfl (Zb (.inl rfl) rfl) rfl ?_
    refine Zp (env' := u27) rfl rfl (rfl) rfl ?_
    refine Zp (env' := u27) rfl rfl (rfl) rfl ?_
    refine Zp (env' := u27) rfl rfl (Zb (.inr rfl) rfl) rfl ?_
    refine Ze (Zc (Zi ?_))
    refine Yz (.inr rfl) (Zh rfl rfl) XH12 XH15 ?_
    exact ⟨by unfold Yj; rw [beq_nat], rfl⟩
end MM
open Go Go.V Go.RowKit
abbrev u33 {a0 a1 a2 a3 a4 a5 a6 a7 a8 a9 a10 a11 a12 a13 a14 a15 a16 a17 a18 a19 a20 a21 a22 a23 a24 a25 a26 a27 a28 a29 a30 a31 a32 : VVal} : VEnv := a0 :: a1 :: a2 :: a3 :: a4 :: a5 :: a6 :: a7 :: a8 :: a9 :: a10 :: a11 :: a12 :: a13 :: a14 :: a15 :: a16 :: a17 :: a18 :: a19 :: a20 :: a21 :: a22 :: a23 :: a24 :: a25 :: a26 :: a27 :: a28 :: a29 :: a30 :: a31 :: a32 :: []
abbrev u43 {a0 a1 a2 a3 a4 a5 a6 a7 a8 a9 a10 a11 a12 a13 a14 a15 a16 a17 a18 a19 a20 a21 a22 a23 a24 a25 a26 a27 a28 a29 a30 a31 a32 a33 a34 a35 a36 a37 a38 a39 a40 a41 a42 : VVal} : VEnv := a0 :: a1 :: a2 :: a3 :: a4 :: a5 :: a6 :: a7 :: a8 :: a9 :: a10 :: a11 :: a12 :: a13 :: a14 :: a15 :: a16 :: a17 :: a18 :: a19 :: a20 :: a21 :: a22 :: a23 :: a24 :: a25 :: a26 :: a27 :: a28 :: a29 :: a30 :: a31 :: a32 :: a33 :: a34 :: a35 :: a36 :: a37 :: a38 :: a39 :: a40 :: a41 :: a42 :: []
namespace MM
theorem full_spec {x : SW} (H : Zf) (l : List (BitVec 64)) (t : BitVec 64) (hl : l.length ≤ 1000000) : F (psys x) 102 [fzW l, iW t] H fun v G => v = .bool (Yj l t) ∧ G = H := by
  by_cases h : l = []
  · subst h; exact full_0 H t
  · exact full_c H l t h hl
theorem del_cells {l : List (BitVec 64)} {i : Nat} (hi : i < l.length) : ZD (ZD (l.map iW) i ((l.map iW).drop (i + 1))) (0 + (l.length - 1)) (ZC [VVal.int .u64 0] (l.length - (l.length - 1))) = (l.eraseIdx i ++ [0#64]).map iW := by
  rw [show l.length - (l.length - 1) = 1 by omega, show 0 + (l.length - 1) = l.length - 1 by omega]
  have hlen : ((l.eraseIdx i).map iW).length = l.length - 1 := by rw [List.length_map, List.length_eraseIdx_of_lt hi]
  have h1 : ZD (l.map iW) i ((l.map iW).drop (i + 1)) = (l.eraseIdx i).map iW ++ (l.map iW).drop (l.length - 1) := by
    unfold ZD
    rw [List.length_drop, List.length_map, show i + (l.length - (i + 1)) = l.length - 1 by omega, List.eraseIdx_eq_take_drop_succ, List.map_append, List.map_take, List.map_drop]
  rw [h1]
  unfold ZD
  rw [List.take_append_of_le_length (by omega), List.take_of_length_le (by omega), List.drop_of_length_le (by
    rw [List.length_append, hlen, List.length_drop, List.length_map]
    show _ ≤ l.length - 1 + 1
    omega), List.append_nil, List.map_append]
  rfl
theorem erase_all {l : List (BitVec 64)} {i : Nat} : Zt ((l.eraseIdx i ++ [0#64]).map iW) 0 ((l.eraseIdx i).length * 1) = some ((l.eraseIdx i).map iW) := by
  unfold Zt
  rw [if_pos (by rw [List.length_map, List.length_append]; omega), List.drop_zero, List.map_append, List.take_append_of_le_length XH18, List.take_of_length_le XH18]
theorem Delete_spec {x : SW} (H : Zf) (p : Nat) (l : List (BitVec 64)) (i : Nat) (ex : Bool) (hp : H[p]? = some (.cells (l.map iW) true)) (hi : i < l.length) (hl : l.length ≤ 1000000) : F (psys x) 98 [.slice (some (p, 0)) l.length l.length ex 1, iI (i : Nat), iI ((i : Int) + 1)] H fun v G => v = .slice (some (p, 0)) (l.length - 1) l.length ex 1 ∧ G = H.set p (.cells ((l.eraseIdx i ++ [0#64]).map iW) true) := by
  have hpl := ZV hp
  refine Zq Tryd.func98 rfl u33 rfl ?_
  refine Zd (Za ?_)
  refine Zp (env' := u33) rfl rfl (Zg (VVal.slice none 0 0 true 0) (.inr rfl) rfl) rfl ?_
  refine Ze (Zc (Zd (Za ?_)))
  refine Zp (env' := u33) rfl rfl (Zb (.inl rfl) rfl) rfl ?_
  refine Zp (env' := u33) rfl rfl (Zb (.inl rfl) rfl) rfl ?_
  refine Zp (env' := u33) rfl rfl (Zb (.inl rfl) rfl) rfl ?_
  refine Zp (env' := u33) rfl rfl (Zb (.inl rfl) rfl) rfl ?_
  refine Zp (env' := u33) rfl rfl (rfl) rfl ?_
  refine Zp (env' := u33) rfl rfl (v_slLH (l := i) (h := i + 1) (m := l.length) rfl rfl rfl rfl rfl rfl (vb_lhm (l := i) (h := i + 1) (m := l.length) (len := l.length) (cap := l.length) (by omega) (by omega) (by omega)) rfl (Nat.le_refl _) (by omega)) rfl ?_
  refine Ze (Zc (Zd (Zd (Za ?_))))
  refine Zp (env' := u33) rfl rfl (Zb (.inl rfl) rfl) rfl ?_
  refine Zp (env' := u33) rfl rfl (Zb (.inl rfl) rfl) rfl ?_
  refine Zp (env' := u33) rfl rfl (v_is false rfl (by rw [beq_eq_false_iff_ne]; omega)) rfl ?_
  refine Ze (Zc ?_)
  refine Ym rfl rfl ?_
  refine Zj (Zc (Zd (Za ?_)))
  refine Zp (env' := u33) rfl rfl (Zb (.inl rfl) rfl) rfl ?_
  refine Zp (env' := u33) rfl rfl (rfl) rfl ?_
  refine Zp (env' := u33) rfl rfl (Zb (.inr rfl) rfl) rfl ?_
  refine Ze (Zc (Zd ?_))
  refine ZS [0, 1, 2, 3, 4, 5, 6, 7] #[0, 0, 3, 0, 0, 24, 63, 127] XH5 XH5 XH5 ?_
  refine Z7 (env' := u33) (c := .calm) rfl rfl rfl (Zb (.inl rfl) rfl) rfl rfl rfl ?_
  refine Z7 (env' := u33) (c := .calm) rfl rfl rfl (Zb (.inl rfl) rfl) rfl rfl rfl ?_
  refine Z7 (env' := u33) (c := .calm) rfl rfl rfl (v_val (v_slLH (l := 0) (h := i) (m := l.length) rfl rfl rfl rfl rfl rfl (vb_hi (by omega)) rfl (Nat.le_refl _) (by omega)) (show _ = VVal.slice (some (p, 0)) i l.length ex 1 by simp)) rfl rfl rfl ?_
  refine Z7 (env' := u33) (c := .calm) rfl rfl rfl (Zb (.inl rfl) rfl) rfl rfl rfl ?_
  refine Z7 (env' := u33) (c := .calm) rfl rfl rfl (Zb (.inl rfl) rfl) rfl rfl rfl ?_
  refine O_opX .calm rfl rfl rfl (v_slTail (l := i + 1) rfl rfl rfl rfl rfl rfl rfl (by omega) (get_out hp) (by rw [List.length_map])) rfl rfl ?_
  rintro v2 _ ⟨rfl, hsl, hsc⟩
  refine O_env (env' := u33) rfl ?_
  refine Z7 (env' := u33) (c := .turn) rfl rfl rfl (v_appIn rfl rfl rfl rfl rfl rfl rfl (get_out hp) hsl hsc (by rw [List.length_drop, List.length_map]) (by rw [← List.map_drop]; exact mapW_one _) (by show (i + (l.length - (i + 1))) * 8 ≤ _ ∧ _; omega) (by omega) XH18) rfl rfl rfl ?_
  refine Z7 (env' := u33) (c := .calm) rfl rfl rfl (Zb (.inr rfl) rfl) rfl rfl rfl ?_
  refine ZY [] XH5 (trivial) ?_
  refine Zc (Zd ?_)
  rw [Yr hpl, show i + (l.length - (i + 1)) = l.length - 1 by omega]
  refine Za ?_
  refine Zp (env' := u33) rfl rfl (Zb (.inl rfl) rfl) rfl ?_
  refine Zp (env' := u33) rfl rfl (Zb (.inl rfl) rfl) rfl ?_
  refine Zp (env' := u33) rfl rfl (rfl) rfl ?_
  refine Zp (env' := u33) rfl rfl (Zb (.inl rfl) rfl) rfl ?_
  refine Zp (env' := u33) rfl rfl (v_slLH (l := l.length - 1) (h := l.length) (m := l.length) rfl rfl rfl rfl rfl rfl (vb_lh (by omega) (Nat.le_refl _)) rfl (by omega) (by omega)) rfl ?_
  refine Zp (env' := u33) rfl rfl (v_clear1 rfl rfl rfl rfl rfl rfl rfl (get_out (List.getElem?_set_self hpl)) (by unfold ZD; simp; omega)) rfl ?_
  refine L_heap (H' := H.set p (.cells ((l.eraseIdx i ++ [0#64]).map iW) true) ++ []) (by rw [Yr (by rw [List.length_set]; exact hpl), List.set_set]; exact congrArg (fun c => H.set p (.cells c true) ++ []) (del_cells hi)) ?_
  refine Ze (Zc (Zd (Za ?_)))
  refine Zp (env' := u33) rfl rfl (Zb (.inl rfl) rfl) rfl ?_
  refine Zp (env' := u33) rfl rfl (Zb (.inr rfl) rfl) rfl ?_
  refine Ze (Zc (Zi ?_))
  refine Yz (.inr rfl) (Zh rfl rfl) (by exact BaseOk.set (BaseOk.refl _) _ (Yy _ _)) XH15 ?_
  exact ⟨rfl, rfl⟩
theorem Del_at {x : SW} (H : Zf) (l : List (BitVec 64)) (i : Nat) (ex : Bool) (hi : i < l.length) (hl : l.length ≤ 1000000) : F (psys x) 98 [.slice (some (H.length + 0, 0)) l.length l.length ex 1, iI (i : Nat), iI ((i : Int) + 1)] (H ++ [.cells (l.map iW) true]) fun v G => v = fzW (l.eraseIdx i) ∧ G = H ++ [.dead] := by
  refine F.gh (Delete_spec (H ++ [.cells (l.map iW) true]) (H.length + 0) l i ex (ZL rfl rfl) hi hl) fun v G h => ?_
  obtain ⟨rfl, rfl⟩ := h
  refine ⟨fzW (l.eraseIdx i), H ++ [.dead], ?_, rfl, rfl⟩
  rw [ZQ rfl, show l.length - 1 = (l.eraseIdx i).length by rw [List.length_eraseIdx_of_lt hi]]
  exact Gh.freezeL 0 0 rfl rfl erase_all (by rw [List.length_eraseIdx_of_lt hi]; omega) rfl
theorem Del_atI {x : SW} (H : Zf) (l : List (BitVec 64)) (i : Int) (ex : Bool) (h0 : 0 ≤ i) (hi : i < l.length) (hl : l.length ≤ 1000000) : F (psys x) 98 [.slice (some (H.length + 0, 0)) l.length l.length ex 1, iI i, iI (i + 1)] (H ++ [.cells (l.map iW) true]) fun v G => v = fzW (l.eraseIdx i.toNat) ∧ G = H ++ [.dead] := by
  have := Del_at (x := x) H l i.toNat ex (by omega) hl
  rw [show ((i.toNat : Nat) : Int) = i by omega] at this
  exact this
def freeV (l : List (BitVec 64)) (i : Int) : BitVec 64 := if l.length ≤ 12 ∧ 0 ≤ i ∧ i < l.length then frW l i.toNat else 0#64
theorem Free_spec {x : SW} (H : Zf) (l : List (BitVec 64)) (i : Int) (hl : l.length ≤ 1000000) : F (psys x) 61 [fzW l, iI i] H fun v G => v = iW (freeV l i) ∧ G = H := by
  refine Zq Tryd.func61 rfl u43 rfl ?_
  refine Zd (Za ?_)
  refine Zp (env' := u43) rfl rfl (Zg (VVal.int .u64 0) (.inr rfl) rfl) rfl ?_
  refine Ze (Zc (Zd (Zd (Za ?_))))
  refine Zp (env' := u43) rfl rfl (Zb (.inl rfl) rfl) rfl ?_
  refine Zv rfl rfl rfl (by exact fits_spec _ _) ?_
  rintro _ _ ⟨rfl, rfl⟩
  refine L_env (env' := u43) rfl ?_
  refine Zp (env' := u43) rfl rfl (rfl) rfl ?_
  refine Zp (env' := u43) rfl rfl (Zb (.inl rfl) rfl) rfl ?_
  refine Zy 11 (env1 := u43) (env2 := u43) rfl rfl rfl (fun hg1 => ?_) (fun hg1 => ?_)
  · try simp only [decide_eq_true_eq, decide_eq_false_iff_not, Bool.not_eq_true', Bool.not_eq_false', bne_iff_ne, beq_iff_eq, Bool.and_eq_true, Bool.or_eq_true, Bool.not_eq_true, ge_iff_le, gt_iff_lt, Int.not_le, Int.not_lt, beq_eq_false_iff_ne, bne_eq_false_iff_eq, ne_eq, Decidable.not_not, ZZ, Yd, Yb] at hg1
    refine L_off (env' := u43) rfl rfl ?_
    refine L_off (env' := u43) rfl rfl ?_
    refine Zp (env' := u43) rfl rfl (ZF (VVal.bool true) rfl rfl rfl) rfl ?_
    refine Zp (env' := u43) rfl rfl (Zb (.inl rfl) rfl) rfl ?_
    refine L_off (env' := u43) rfl rfl ?_
    refine L_off (env' := u43) rfl rfl ?_
    refine L_off (env' := u43) rfl rfl ?_
    refine L_off (env' := u43) rfl rfl ?_
    refine Zp (env' := u43) rfl rfl (ZF (VVal.bool true) rfl rfl rfl) rfl ?_
    refine Ze (Zc ?_)
    refine ZM rfl rfl ?_
    refine Zd (Za ?_)
    refine Zp (env' := u43) rfl rfl (Zg (VVal.int .u64 0) (.inr rfl) rfl) rfl ?_
    refine Ze (Zc (Zi (Zm ?_)))
    refine Yz (.inr rfl) (Zh rfl rfl) XH12 XH15 ?_
    first
      | exact ⟨by rw [freeV, if_neg (by omega)]; rfl, rfl⟩
      | exact ⟨by rw [freeV, if_pos (by omega)]; rfl, rfl⟩
  · try simp only [decide_eq_true_eq, decide_eq_false_iff_not, Bool.not_eq_true', Bool.not_eq_false', bne_iff_ne, beq_iff_eq, Bool.and_eq_true, Bool.or_eq_true, Bool.not_eq_true, ge_iff_le, gt_iff_lt, Int.not_le, Int.not_lt, beq_eq_false_iff_ne, bne_eq_false_iff_eq, ne_eq, Decidable.not_not, ZZ, Yd, Yb] at hg1
    refine Zp (env' := u43) rfl rfl (Zb (.inl rfl) rfl) rfl ?_
    refine Zp (env' := u43) rfl rfl (rfl) rfl ?_
    refine Zp (env' := u43) rfl rfl (ZW rfl rfl rfl) rfl ?_
    refine Zp (env' := u43) rfl rfl (Zb (.inl rfl) rfl) rfl ?_
    refine Zy 15 (env1 := u43) (env2 := u43) rfl rfl rfl (fun hg2 => ?_) (fun hg2 => ?_)
    · try simp only [decide_eq_true_eq, decide_eq_false_iff_not, Bool.not_eq_true', Bool.not_eq_false', bne_iff_ne, beq_iff_eq, Bool.and_eq_true, Bool.or_eq_true, Bool.not_eq_true, ge_iff_le, gt_iff_lt, Int.not_le, Int.not_lt, beq_eq_false_iff_ne, bne_eq_false_iff_eq, ne_eq, Decidable.not_not, ZZ, Yd, Yb] at hg2
      refine L_off (env' := u43) rfl rfl ?_
      refine L_off (env' := u43) rfl rfl ?_
      refine L_off (env' := u43) rfl rfl ?_
      refine L_off (env' := u43) rfl rfl ?_
      refine Zp (env' := u43) rfl rfl (ZF (VVal.bool true) rfl rfl rfl) rfl ?_
      refine Ze (Zc ?_)
      refine ZM rfl rfl ?_
      refine Zd (Za ?_)
      refine Zp (env' := u43) rfl rfl (Zg (VVal.int .u64 0) (.inr rfl) rfl) rfl ?_
      refine Ze (Zc (Zi (Zm ?_)))
      refine Yz (.inr rfl) (Zh rfl rfl) XH12 XH15 ?_
      first
        | exact ⟨by rw [freeV, if_neg (by omega)]; rfl, rfl⟩
        | exact ⟨by rw [freeV, if_pos (by omega)]; rfl, rfl⟩
    · try simp only [decide_eq_true_eq, decide_eq_false_iff_not, Bool.not_eq_true', Bool.not_eq_false', bne_iff_ne, beq_iff_eq, Bool.and_eq_true, Bool.or_eq_true, Bool.not_eq_true, ge_iff_le, gt_iff_lt, Int.not_le, Int.not_lt, beq_eq_false_iff_ne, bne_eq_false_iff_eq, ne_eq, Decidable.not_not, ZZ, Yd, Yb] at hg2
      refine Zp (env' := u43) rfl rfl (Zb (.inl rfl) rfl) rfl ?_
      refine Zp (env' := u43) rfl rfl (Zb (.inl rfl) rfl) rfl ?_
      refine Zp (env' := u43) rfl rfl (rfl) rfl ?_
      refine Zp (env' := u43) rfl rfl (rfl) rfl ?_
      refine Zp (env' := u43) rfl rfl (ZW rfl rfl rfl) rfl ?_
      refine Ze (Zc ?_)
      refine Zk _ rfl (fun hc3 => ?_) (fun hc3 => ?_)
      · try simp only [decide_eq_true_eq, decide_eq_false_iff_not, Bool.not_eq_true', Bool.not_eq_false', bne_iff_ne, beq_iff_eq, Bool.and_eq_true, Bool.or_eq_true, Bool.not_eq_true, ge_iff_le, gt_iff_lt, Int.not_le, Int.not_lt, beq_eq_false_iff_ne, bne_eq_false_iff_eq, ne_eq, Decidable.not_not, ZZ, Yd, Yb] at hc3
        refine Zd (Za ?_)
        refine Zp (env' := u43) rfl rfl (Zg (VVal.int .u64 0) (.inr rfl) rfl) rfl ?_
        refine Ze (Zc (Zi (Zm ?_)))
        refine Yz (.inr rfl) (Zh rfl rfl) XH12 XH15 ?_
        first
          | exact ⟨by rw [freeV, if_neg (by omega)]; rfl, rfl⟩
          | exact ⟨by rw [freeV, if_pos (by omega)]; rfl, rfl⟩
      · try simp only [decide_eq_true_eq, decide_eq_false_iff_not, Bool.not_eq_true', Bool.not_eq_false', bne_iff_ne, beq_iff_eq, Bool.and_eq_true, Bool.or_eq_true, Bool.not_eq_true, ge_iff_le, gt_iff_lt, Int.not_le, Int.not_lt, beq_eq_false_iff_ne, bne_eq_false_iff_eq, ne_eq, Decidable.not_not, ZZ, Yd, Yb] at hc3
        refine Zj (Zc (Zd (Za ?_)))
        have hne : l ≠ [] := fun e => by have h9 := congrArg List.length e; simp only [List.length_nil] at h9; omega
        refine Zp (env' := u43) rfl rfl (Zb (.inl rfl) rfl) rfl ?_
        refine Zv rfl rfl rfl (by exact Clone_L _ _ _ hne hl) ?_
        rintro _ _ ⟨rfl, rfl⟩
        refine L_env (env' := u43) rfl ?_
        refine Zp (env' := u43) rfl rfl (Zb (.inl rfl) rfl) rfl ?_
        refine Zp (env' := u43) rfl rfl (Zb (.inl rfl) rfl) rfl ?_
        refine Zp (env' := u43) rfl rfl (YY rfl rfl rfl XH1) rfl ?_
        refine Zv rfl rfl rfl (by exact Del_atI _ _ i _ (by omega) (by omega) hl) ?_
        rintro _ _ ⟨rfl, rfl⟩
        refine L_env (env' := u43) rfl ?_
        refine Zp (env' := u43) rfl rfl (ZT rfl rfl) rfl ?_
        refine Zp (env' := u43) rfl rfl (ZT rfl rfl) rfl ?_
        refine Zp (env' := u43) rfl rfl (Z5 rfl rfl rfl rfl rfl rfl rfl XH7 XH6 XH20) rfl ?_
        refine Zp (env' := u43) rfl rfl (YE (VVal.int .u64 0) rfl rfl rfl rfl rfl rfl rfl XH7 XH6 XH20) rfl ?_
        refine Ze (Zc (Zd (Zd (Za ?_))))
        refine Zp (env' := u43) rfl rfl (Zb (.inl rfl) rfl) rfl ?_
        refine Zp (env' := u43) rfl rfl (Zb (.inl rfl) rfl) rfl ?_
        refine Zp (env' := u43) rfl rfl XH42 rfl ?_
        refine Zp (env' := u43) rfl rfl XH43 rfl ?_
        refine Zv rfl rfl rfl (by exact mset_spec _ _) ?_
        rintro _ _ ⟨rfl, rfl⟩
        refine L_env (env' := u43) rfl ?_
        refine Zv rfl rfl rfl (by exact All_spec _ _) ?_
        rintro _ _ ⟨rfl, rfl⟩
        refine L_env (env' := u43) rfl ?_
        refine Ze (Zc (Zl ?_))
        refine Zu [true,true,true,true,true,false,false,true,true,true,true,true,true,true,true,true,true,true,true,true,true,true,true,true,true,true,true,true,true,true,true,true,false,true,true,true,true,true,true,true,true,true,true] (env' := u43) rfl ?_
        refine B_rangeM cI (pl (l.getD i.toNat 0) 0) (fun l0 h => by cases h) rfl (fun l G R h => All1_spec _ _ _ _ h) (σ := BitVec 64) (fun k s => H ++ [.dead, .cells [fzW (l.eraseIdx i.toNat)] true, .cells [iW s] true, k]) 0#64 (fun k => by rw [List.append_assoc]; rfl) (fun k s => by rw [List.length_append]; exact ZL rfl rfl) (fun k k1 s => by rw [List.length_append]; exact ZQ rfl) (fun pre s => s = frF l i.toNat pre) ?_ (fun j pre c s => False) rfl ?_ ?_ ?_
        · rfl
        · intro pre c post s hx hI kr kb hkr hkb
          try dsimp only at hI ⊢
          subst hI
          have hc : c ∈ pl (l.getD i.toNat 0) 0 := by rw [hx]; simp
          obtain ⟨_, hc64, hcb⟩ := mem_pl.1 hc
          refine ZR (env' := u43) rfl ?_
          refine Za ?_
          refine Zp (env' := u43) rfl rfl (Zb (.inr rfl) rfl) rfl ?_
          refine Ze ?_
          refine ⟨rfl, (frF l i.toNat pre), rfl, ?_⟩
          try dsimp only
          refine Zl (Zd ?_)
          refine ZS [0, 1, 2, 3] #[0, 0, 2, 7] XH5 XH5 XH5 ?_
          refine Z7 (env' := u43) (c := .look) rfl rfl rfl XH43 rfl rfl rfl ?_
          refine Z7 (env' := u43) (c := .calm) rfl rfl rfl (Zb (.inl rfl) rfl) rfl rfl rfl ?_
          refine Z7 (env' := u43) (c := .calm) rfl rfl rfl (v_shl1 rfl rfl rfl XH1) rfl rfl rfl ?_
          refine Yc (env' := u43) rfl rfl rfl rfl rfl (by exact full_spec _ _ _ (by first | assumption | (rw [List.length_eraseIdx_of_lt (by omega)]; omega))) XH10 rfl rfl ?_
          refine ZY [] XH5 (trivial) ?_
          refine Zc ?_
          refine Zk _ rfl (fun hc4 => ?_) (fun hc4 => ?_)
          · try simp only [decide_eq_true_eq, decide_eq_false_iff_not, Bool.not_eq_true', Bool.not_eq_false', bne_iff_ne, beq_iff_eq, Bool.and_eq_true, Bool.or_eq_true, Bool.not_eq_true, ge_iff_le, gt_iff_lt, Int.not_le, Int.not_lt, beq_eq_false_iff_ne, bne_eq_false_iff_eq, ne_eq, Decidable.not_not, ZZ, Yd, Yb] at hc4
            refine ZS [0, 1, 2, 3, 4] #[0, 0, 2, 7, 15] XH5 XH5 XH5 ?_
            refine Z7 (env' := u43) (c := .look) rfl rfl rfl XH43 rfl rfl rfl ?_
            refine Z7 (env' := u43) (c := .calm) rfl rfl rfl (Zb (.inl rfl) rfl) rfl rfl rfl ?_
            refine Z7 (env' := u43) (c := .calm) rfl rfl rfl (v_shl1 rfl rfl rfl XH1) rfl rfl rfl ?_
            refine Z7 (env' := u43) (c := .calm) rfl rfl rfl (v_orW rfl rfl rfl) rfl rfl rfl ?_
            refine Z7 (env' := u43) (c := .turn) rfl rfl rfl (Z5 rfl rfl rfl rfl rfl rfl rfl XH7 XH6 XH20) rfl rfl rfl ?_
            refine ZY [] XH5 (trivial) ?_
            refine Zr ?_
            refine ⟨_, rfl, .inl ⟨rfl, ?_⟩⟩
            rw [frF_snoc]
            first
              | rw [if_pos (by assumption)]; rfl
              | rw [if_neg (Yp (by assumption))]
          · try simp only [decide_eq_true_eq, decide_eq_false_iff_not, Bool.not_eq_true', Bool.not_eq_false', bne_iff_ne, beq_iff_eq, Bool.and_eq_true, Bool.or_eq_true, Bool.not_eq_true, ge_iff_le, gt_iff_lt, Int.not_le, Int.not_lt, beq_eq_false_iff_ne, bne_eq_false_iff_eq, ne_eq, Decidable.not_not, ZZ, Yd, Yb] at hc4
            refine Zj (Zr ?_)
            refine ⟨_, rfl, .inl ⟨rfl, ?_⟩⟩
            rw [frF_snoc]
            first
              | rw [if_pos (by assumption)]; rfl
              | rw [if_neg (Yp (by assumption))]
        · intro s k hk hI
          try dsimp only at hI ⊢
          subst hI
          refine Zr (Zc (Zd (Za ?_)))
          refine Zp (env' := u43) rfl rfl XH43 rfl ?_
          refine Zp (env' := u43) rfl rfl (Zb (.inr rfl) rfl) rfl ?_
          refine Ze (Zc (Zi ?_))
          refine Yz (.inr rfl) (Zh rfl rfl) XH12 XH15 ?_
          first
            | exact ⟨by rw [freeV, if_neg (by omega)]; rfl, rfl⟩
            | exact ⟨by rw [freeV, if_pos (by omega)]; rfl, rfl⟩
        · rintro j pre c post s k hk hx ⟨⟩
end MM
open Go Go.V Go.RowKit
abbrev u77 {a0 a1 a2 a3 a4 a5 a6 a7 a8 a9 a10 a11 a12 a13 a14 a15 a16 a17 a18 a19 a20 a21 a22 a23 a24 a25 a26 a27 a28 a29 a30 a31 a32 a33 a34 a35 a36 a37 a38 a39 a40 a41 a42 a43 a44 a45 a46 a47 a48 a49 a50 a51 a52 a53 a54 a55 a56 a57 a58 a59 a60 a61 a62 a63 a64 a65 a66 a67 a68 a69 a70 a71 a72 a73 a74 a75 a76 : VVal} : VEnv := a0 :: a1 :: a2 :: a3 :: a4 :: a5 :: a6 :: a7 :: a8 :: a9 :: a10 :: a11 :: a12 :: a13 :: a14 :: a15 :: a16 :: a17 :: a18 :: a19 :: a20 :: a21 :: a22 :: a23 :: a24 :: a25 :: a26 :: a27 :: a28 :: a29 :: a30 :: a31 :: a32 :: a33 :: a34 :: a35 :: a36 :: a37 :: a38 :: a39 :: a40 :: a41 :: a42 :: a43 :: a44 :: a45 :: a46 :: a47 :: a48 :: a49 :: a50 :: a51 :: a52 :: a53 :: a54 :: a55 :: a56 :: a57 :: a58 :: a59 :: a60 :: a61 :: a62 :: a63 :: a64 :: a65 :: a66 :: a67 :: a68 :: a69 :: a70 :: a71 :: a72 :: a73 :: a74 :: a75 :: a76 :: []
namespace MM
theorem minW {a b : BitVec 64} : (if (b.toNat : Int) < (a.toNat : Int) then (b.toNat : Int) else (a.toNat : Int)) = ((Ya a b.toNat).toNat : Int) := by
  rw [Ys]; split <;> omega
theorem rep_w : ∀ {n : Nat}, ZC [VVal.int .u64 0] n = (List.replicate n 0#64).map iW
  | 0 => rfl
  | n + 1 => by rw [ZC, rep_w, List.replicate_succ]; rfl
section
variable {T : TypeId → Option VTy} {ρ : Operand → VVal} {H : Zf} {op : Op}
theorem pow12 {i : Nat} (h : i ≤ 12) : 2 ^ i ≤ 4096 := Nat.pow_le_pow_right (by decide) h
theorem v_shlI1 {t ty : TypeId} {y : Operand} {k : IntKind} {i : Nat} (ho : op = .binOp .shl t (.const (.int .i64 1)) y ty) (hy : ρ y = .int k (i : Nat)) (hr : ρ (.const (.int .i64 1)) = .int .i64 1) (h : i ≤ 12) : vop T ρ H op = some (.int .i64 ((2 ^ i : Nat) : Int), H) := by
  rw [ho]; simp only [vop, hr, hy, vbin, vshift]
  rw [if_neg (by omega), show min (i : Int).toNat IntKind.i64.bits = i from by show min (i : Int).toNat 64 = i; omega, Int.one_mul]
  have e : (2 : Int) ^ i = ((2 ^ i : Nat) : Int) := by rw [Int.natCast_pow]; rfl
  have := pow12 h
  rw [e]
  generalize 2 ^ i = p at this ⊢
  rw [wrap_i _ (by omega)]; rfl
theorem v_shrI {t ty : TypeId} {x y : Operand} {k : IntKind} {s i : Nat} (ho : op = .binOp .shr t x y ty) (hx : ρ x = .int .i64 (s : Nat)) (hy : ρ y = .int k (i : Nat)) (h : i ≤ 12) : vop T ρ H op = some (.int .i64 ((s / 2 ^ i : Nat) : Int), H) := by
  rw [ho]; simp only [vop, hx, hy, vbin, vshift]
  rw [if_neg (by omega), show min (i : Int).toNat IntKind.i64.bits = i from by show min (i : Int).toNat 64 = i; omega]
  have e : (2 : Int) ^ i = ((2 ^ i : Nat) : Int) := by rw [Int.natCast_pow]; rfl
  rw [e, ← Int.ofNat_fdiv]; rfl
end
theorem and1 {n : Nat} (h : n < 2 ^ 63) : vbits .and .i64 (n : Int) 1 = ((n % 2 : Nat) : Int) := by
  show IntKind.i64.wrap ((BitVec.ofInt 64 (n : Int) &&& BitVec.ofInt 64 ((1 : Nat) : Int)).toNat : Int) = _
  rw [BitVec.ofInt_natCast, BitVec.ofInt_natCast, BitVec.toNat_and, BitVec.toNat_ofNat, BitVec.toNat_ofNat, Nat.mod_eq_of_lt (Nat.lt_trans h (by decide)), Nat.mod_eq_of_lt (by decide : 1 < 2 ^ 64), show (1 : Nat) = 2 ^ 1 - 1 from rfl, Nat.and_two_pow_sub_one_eq_mod]
  exact wrap_i _ (by have : n % 2 ^ 1 < 2 := Nat.mod_lt _ (by decide); omega)
theorem tb_is {s i : Nat} (hs : s < 4096) : (vbits .and .i64 ((s / 2 ^ i : Nat) : Int) 1 == 1) = s.testBit i := by
  have h1 : s / 2 ^ i ≤ s := Nat.div_le_self _ _
  rw [and1 (by omega), Nat.testBit_eq_decide_div_mod_eq, Bool.eq_iff_iff, beq_iff_eq, decide_eq_true_eq]; omega
theorem andNot_less {s i : Nat} (hs : s < 4096) (hi : i ≤ 12) (h : s.testBit i = true) : vbits .andNot .i64 (s : Int) ((2 ^ i : Nat) : Int) = ((less s i : Nat) : Int) := by
  have hl := less_lt h
  have hp := pow12 hi
  show IntKind.i64.wrap ((BitVec.ofInt 64 (s : Int) &&& ~~~(BitVec.ofInt 64 ((2 ^ i : Nat) : Int))).toNat : Int) = _
  have e : (BitVec.ofInt 64 (s : Int) &&& ~~~(BitVec.ofInt 64 ((2 ^ i : Nat) : Int))).toNat = less s i := by
    rw [BitVec.ofInt_natCast, BitVec.ofInt_natCast]
    apply Nat.eq_of_testBit_eq
    intro j
    rw [less_bit h]
    by_cases hj : j < 64
    · have : (BitVec.ofNat 64 s &&& ~~~BitVec.ofNat 64 (2 ^ i)).getLsbD j = (s.testBit j && decide (j ≠ i)) := by
        rw [BitVec.getLsbD_and, BitVec.getLsbD_not, BitVec.getLsbD_ofNat, BitVec.getLsbD_ofNat, Nat.testBit_two_pow, decide_eq_true hj]
        by_cases e : j = i
        · subst e; simp
        · have : ¬ i = j := fun x => e x.symm
          simp [e, this]
      exact this
    · have h1 : s.testBit j = false := Nat.testBit_lt_two_pow (Nat.lt_of_lt_of_le (show s < 2 ^ 12 from hs) (Nat.pow_le_pow_right (by decide) (by omega)))
      rw [h1, Bool.false_and]
      exact Nat.testBit_lt_two_pow (Nat.lt_of_lt_of_le (BitVec.isLt _) (Nat.pow_le_pow_right (by decide) (by omega)))
  rw [e]
  exact wrap_i _ (by omega)
theorem way_start {rows : List (BitVec 64)} {most : BitVec 64} : (List.replicate (2 ^ rows.length) 0#64).set 0 (Ya most 1) = wayL rows.length (wU rows most 0) := by
  have h0 : List.replicate (2 ^ rows.length) 0#64 = wayL rows.length fun _ => 0#64 := by
    unfold wayL
    rw [List.map_const', List.length_range]
  rw [h0]
  refine wayL_set ?_ fun s hs hne => ?_
  · unfold wU; rw [wS_0]
  · unfold wU; rw [wS_start hs, if_neg hne, satW_0]
theorem way_top {rows : List (BitVec 64)} {most : BitVec 64} {u : Nat} : wayL rows.length (wU rows most u) = wayL rows.length (wF rows most u (2 ^ rows.length - 1) 0) := wayL_congr fun s hs => by
  unfold wU wF; rw [if_neg (by omega)]; split
  · rename_i h; subst h; rfl
  · rfl
theorem way_down {rows : List (BitVec 64)} {most : BitVec 64} {u s : Nat} (hu : u < 64) (hs : 0 < s) : wayL rows.length (wF rows most u s rows.length) = wayL rows.length (wF rows most u (s - 1) 0) := wayL_congr fun s' hs' => by
  unfold wF
  by_cases h1 : s < s'
  · rw [if_pos h1, if_pos (by omega)]
  · by_cases h2 : s' = s
    · subst h2; rw [if_neg h1, if_pos rfl, if_pos (by omega), wP_all hu]
    · rw [if_neg h1, if_neg h2, if_neg (by omega)]
      by_cases h3 : s' = s - 1
      · rw [if_pos h3, h3]; rfl
      · rw [if_neg h3]
theorem way_end {rows : List (BitVec 64)} {most : BitVec 64} {u : Nat} : wayL rows.length (wF rows most u 0 0) = wayL rows.length (wU rows most (u + 1)) := wayL_congr fun s' _ => by
  unfold wF wU
  by_cases h : s' = 0
  · subst h; rw [if_neg (by omega), if_pos rfl, wS_0]; show Ya most (wS rows u 0) = _; rw [wS_0]
  · rw [if_pos (by omega)]
theorem way_set {rows : List (BitVec 64)} {most : BitVec 64} {u s k : Nat} (hm : most.toNat ≤ 65536) (hs : s < 2 ^ rows.length) (h1 : s.testBit k = true) (h2 : (rows.getD k 0).getLsbD u = true) :
    (wayL rows.length (wF rows most u s k)).set s (Ya most (wP rows u s k + wS rows u (less s k))) = wayL rows.length (wF rows most u s (k + 1)) := by
  refine wayL_set ?_ fun s' hs' hne => ?_
  · unfold wF; rw [if_neg (by omega), if_pos rfl, wP, if_pos ⟨h1, h2⟩]
  · unfold wF; rw [if_neg hne, if_neg hne]
theorem way_same {rows : List (BitVec 64)} {most : BitVec 64} {u s k : Nat} (h : ¬ (s.testBit k = true ∧ (rows.getD k 0).getLsbD u = true)) : wF rows most u s k = wF rows most u s (k + 1) := by
  funext s'
  unfold wF; rw [wP, if_neg h]
theorem way_at {rows : List (BitVec 64)} {most : BitVec 64} {u s k : Nat} (hs : s < 2 ^ rows.length) : (wayL rows.length (wF rows most u s k)).getD s 0 = Ya most (wP rows u s k) := by
  rw [wayL_get hs]; unfold wF; rw [if_neg (by omega), if_pos rfl]
theorem way_less {rows : List (BitVec 64)} {most : BitVec 64} {u s k i : Nat} (hs : s < 2 ^ rows.length) (h : s.testBit i = true) : (wayL rows.length (wF rows most u s k)).getD (less s i) 0 = Ya most (wS rows u (less s i)) := by
  have hl := less_lt h
  rw [wayL_get (by omega)]; unfold wF; rw [if_neg (by omega), if_neg (by omega)]
def coV (rows : List (BitVec 64)) (m : BitVec 64) : BitVec 64 := if rows.length ≤ 12 then Ya m (cnT rows 0#64) else 0#64
theorem mCount_spec {x : SW} (H : Zf) (rows : List (BitVec 64)) (most : BitVec 64) (hl : rows.length ≤ 1000000) : F (psys x) 58 [fzW rows, iW most] H fun v G => v = iW (coV rows (Ya most 65536)) ∧ G = H := by
  refine Zq Tryd.func58 rfl u77 rfl ?_
  refine Zd (Za ?_)
  refine Zp (env' := u77) rfl rfl (Zg (VVal.int .u64 0) (.inr rfl) rfl) rfl ?_
  refine Ze (Zc (Zd (Zd (Za ?_))))
  refine Zp (env' := u77) rfl rfl (Zb (.inl rfl) rfl) rfl ?_
  refine Zv rfl rfl rfl (by exact fits_spec _ _) ?_
  rintro _ _ ⟨rfl, rfl⟩
  refine L_env (env' := u77) rfl ?_
  refine Zp (env' := u77) rfl rfl (rfl) rfl ?_
  refine Ze (Zc ?_)
  refine Zk _ rfl (fun hc1 => ?_) (fun hc1 => ?_)
  · try simp only [decide_eq_true_eq, decide_eq_false_iff_not, Bool.not_eq_true', Bool.not_eq_false', bne_iff_ne, beq_iff_eq, Bool.and_eq_true, Bool.or_eq_true, Bool.not_eq_true, ge_iff_le, gt_iff_lt, Int.not_le, Int.not_lt, beq_eq_false_iff_ne, bne_eq_false_iff_eq, ne_eq, Decidable.not_not, ZZ, Yd, Yb] at hc1
    refine Zd (Za ?_)
    refine Zp (env' := u77) rfl rfl (Zg (VVal.int .u64 0) (.inr rfl) rfl) rfl ?_
    refine Ze (Zc (Zi (Zm ?_)))
    refine Yz (.inr rfl) (Zh rfl rfl) XH12 XH15 ?_
    first
      | exact ⟨by rw [coV, if_neg (by omega)]; rfl, rfl⟩
      | (obtain rfl : u = 64 := by omega); exact ⟨by rw [coV, if_pos (by omega), show (wayL rows.length (wU rows (Ya most 65536) 64)).getD ((2 ^ rows.length - 1 : Nat) : Int).toNat 0 = _ from wayL_get (by omega)]; unfold wU; rw [Int.toNat_natCast, wS_end], rfl⟩
  · try simp only [decide_eq_true_eq, decide_eq_false_iff_not, Bool.not_eq_true', Bool.not_eq_false', bne_iff_ne, beq_iff_eq, Bool.and_eq_true, Bool.or_eq_true, Bool.not_eq_true, ge_iff_le, gt_iff_lt, Int.not_le, Int.not_lt, beq_eq_false_iff_ne, bne_eq_false_iff_eq, ne_eq, Decidable.not_not, ZZ, Yd, Yb] at hc1
    refine Zj (Zc (Zd (Za ?_)))
    have hm : (Ya most 65536).toNat ≤ 65536 := by rw [Ys]; omega
    have hp := pow12 (i := rows.length) (by omega)
    have hp0 : 0 < 2 ^ rows.length := Nat.two_pow_pos _
    refine Zp (env' := u77) rfl rfl (Zb (.inl rfl) rfl) rfl ?_
    refine Zp (env' := u77) rfl rfl (v_val rfl ((congrArg (VVal.int .u64) (minW (a := most) (b := 65536#64))).trans rfl)) rfl ?_
    refine Zp (env' := u77) rfl rfl (Zb (.inr rfl) rfl) rfl ?_
    refine Ze (Zc (Zd (Za ?_)))
    refine Zp (env' := u77) rfl rfl (Zb (.inl rfl) rfl) rfl ?_
    refine Zp (env' := u77) rfl rfl (rfl) rfl ?_
    refine Zp (env' := u77) rfl rfl (v_shlI1 rfl rfl rfl (by omega)) rfl ?_
    refine Zp (env' := u77) rfl rfl (YS rfl rfl rfl rfl rfl (by decide) ⟨by omega, Int.le_refl _, by show ((2 ^ rows.length : Nat) : Int) * (8 : Nat) ≤ _; omega, by omega⟩) rfl ?_
    refine L_heap (H' := H ++ [.cells ((List.replicate (2 ^ rows.length) 0#64).map iW) true]) (by show _ ++ [VBlk.cells (ZC [VVal.int .u64 0] _) true] = _; rw [rep_w]; rfl) ?_
    refine Zp (env' := u77) rfl rfl (Zb (.inr rfl) rfl) rfl ?_
    refine Ze (Zc (Zd (Za ?_)))
    refine Zp (env' := u77) rfl rfl (Zb (.inl rfl) rfl) rfl ?_
    refine Zp (env' := u77) rfl rfl (Zb (.inl rfl) rfl) rfl ?_
    refine Zp (env' := u77) rfl rfl (v_val rfl ((congrArg (VVal.int .u64) (minW (a := 1#64) (b := (Ya most 65536)))).trans (by rw [show Ya 1#64 (Ya most 65536).toNat = Ya (Ya most 65536) 1 from by apply BitVec.eq_of_toNat_eq; rw [Ys, Ys (most := (Ya most 65536)) (n := 1)]; exact Nat.min_comm _ _]))) rfl ?_
    refine Zp (env' := u77) rfl rfl (by first | exact v_idxF rfl rfl rfl rfl rfl rfl rfl (by show (0 : Int) ≤ 0 ∧ (0 : Int) < ((2 ^ rows.length : Nat) : Int); omega) | exact v_idx rfl rfl rfl rfl rfl rfl rfl (by show (0 : Int) ≤ 0 ∧ (0 : Int) < ((2 ^ rows.length : Nat) : Int); omega)) rfl ?_
    refine Zp (env' := u77) rfl rfl (Z5 rfl rfl rfl rfl rfl rfl rfl XH7 (by rw [List.length_map, List.length_replicate]; show 0 + 0 * 1 + 1 ≤ _; omega) (by exact (ZQ rfl).trans (congrArg (fun c => H ++ [VBlk.cells c true]) ((splice_w (l := List.replicate (2 ^ rows.length) 0#64) (k := 0) (w := Ya (Ya most 65536) 1) (by rw [List.length_replicate]; omega)).trans (by rw [way_start]))))) rfl ?_
    refine Ze (Zc (Zd (Zd (Za ?_))))
    refine Zp (env' := u77) rfl rfl (Zg (VVal.int .i64 0) (.inl rfl) rfl) rfl ?_
    refine Ze (Zc (Zl ?_))
    refine Zu (false :: false :: true :: true :: true :: false :: true :: true :: true :: true :: true :: true :: true :: true :: true :: true :: true :: true :: true :: true :: true :: true :: true :: false :: true :: true :: true :: true :: true :: true :: true :: true :: true :: true :: true :: true :: true :: true :: true :: true :: true :: true :: true :: true :: true :: true :: true :: true :: true :: true :: true :: true :: true :: true :: true :: true :: true :: true :: true :: true :: true :: true :: true :: true :: true :: true :: true :: true :: true :: true :: true :: true :: true :: true :: true :: true :: true :: []) (env' := u77) rfl ?_
    refine ZA (fun (u : Nat) => 64 - u) (fun (u : Nat) => [(23, iI (u : Nat))]) (fun (u : Nat) G => (u ≤ 64) ∧ G = H ++ [.cells ((wayL rows.length (wU rows (Ya most 65536) u)).map iW) true]) 0 rfl ?_ ?_
    · refine ⟨?_, rfl⟩
      exact Nat.zero_le _
    rintro u _ ⟨hu, rfl⟩
    refine ZR (env' := u77) rfl ?_
    refine Zd (Za ?_)
    refine Zp (env' := u77) rfl rfl (rfl) rfl ?_
    refine Ze (Zc (Zd ?_))
    refine Zk _ rfl (fun hc2 => ?_) (fun hc2 => ?_)
    · try simp only [decide_eq_true_eq, decide_eq_false_iff_not, Bool.not_eq_true', Bool.not_eq_false', bne_iff_ne, beq_iff_eq, Bool.and_eq_true, Bool.or_eq_true, Bool.not_eq_true, ge_iff_le, gt_iff_lt, Int.not_le, Int.not_lt, beq_eq_false_iff_ne, bne_eq_false_iff_eq, ne_eq, Decidable.not_not, ZZ, Yd, Yb] at hc2
      refine Zj (Zc (Zd (Zl (Zd (Za ?_)))))
      refine Zp (env' := u77) rfl rfl (Zb (.inl rfl) rfl) rfl ?_
      refine Zp (env' := u77) rfl rfl (Zb (.inr rfl) rfl) rfl ?_
      refine Ze (Zc (Zd (Za ?_)))
      refine Zp (env' := u77) rfl rfl (Zb (.inl rfl) rfl) rfl ?_
      refine Zp (env' := u77) rfl rfl (rfl) rfl ?_
      refine Zp (env' := u77) rfl rfl (v_val (v_subI rfl rfl rfl (by show -9223372036854775808 ≤ ((2 ^ rows.length : Nat) : Int) - 1 ∧ ((2 ^ rows.length : Nat) : Int) - 1 < 9223372036854775808; omega)) (congrArg iI (show ((2 ^ rows.length : Nat) : Int) - 1 = ((2 ^ rows.length - 1 : Nat) : Int) by omega))) rfl ?_
      refine Zp (env' := u77) rfl rfl (Zb (.inr rfl) rfl) rfl ?_
      refine Ze (Zc (Zl ?_))
      refine Zu (false :: false :: true :: true :: true :: false :: false :: false :: true :: true :: true :: true :: true :: true :: true :: true :: true :: true :: true :: true :: true :: true :: true :: false :: true :: true :: true :: true :: true :: true :: true :: true :: true :: true :: true :: true :: true :: true :: true :: true :: true :: true :: true :: true :: true :: true :: true :: true :: true :: true :: true :: true :: true :: true :: true :: true :: true :: true :: true :: true :: true :: true :: true :: true :: true :: true :: true :: true :: true :: true :: true :: true :: true :: true :: true :: true :: true :: []) (env' := u77) rfl ?_
      refine ZA (fun (s : Nat) => s) (fun (s : Nat) => [(7, iI (s : Nat))]) (fun (s : Nat) G => (s < 2 ^ rows.length) ∧ G = H ++ [.cells ((wayL rows.length (wF rows (Ya most 65536) u s 0)).map iW) true]) (2 ^ rows.length - 1) rfl ?_ ?_
      · refine ⟨?_, (by rw [way_top])⟩
        omega
      rintro s _ ⟨hs, rfl⟩
      refine ZR (env' := u77) rfl ?_
      refine Zd (Zd (Za ?_))
      refine Zp (env' := u77) rfl rfl (Zb (.inl rfl) rfl) rfl ?_
      refine Zp (env' := u77) rfl rfl (rfl) rfl ?_
      refine Ze (Zc ?_)
      refine Zk _ rfl (fun hc3 => ?_) (fun hc3 => ?_)
      · try simp only [decide_eq_true_eq, decide_eq_false_iff_not, Bool.not_eq_true', Bool.not_eq_false', bne_iff_ne, beq_iff_eq, Bool.and_eq_true, Bool.or_eq_true, Bool.not_eq_true, ge_iff_le, gt_iff_lt, Int.not_le, Int.not_lt, beq_eq_false_iff_ne, bne_eq_false_iff_eq, ne_eq, Decidable.not_not, ZZ, Yd, Yb] at hc3
        refine Zj (Zc (Zd (Zl (Zd (Za ?_)))))
        refine Zp (env' := u77) rfl rfl (Zb (.inl rfl) rfl) rfl ?_
        refine Zp (env' := u77) rfl rfl (rfl) rfl ?_
        refine Zp (env' := u77) rfl rfl (Zg (VVal.int .i64 0) (.inl rfl) rfl) rfl ?_
        refine Ze (Zc (Zl ?_))
        refine Zu (false :: false :: true :: true :: true :: false :: false :: false :: true :: true :: true :: true :: true :: true :: true :: true :: true :: true :: true :: true :: true :: true :: true :: false :: true :: true :: true :: true :: true :: true :: true :: true :: true :: false :: false :: false :: true :: true :: true :: true :: true :: true :: true :: true :: true :: true :: true :: true :: true :: true :: true :: true :: true :: true :: true :: true :: true :: true :: true :: true :: true :: true :: true :: true :: true :: true :: true :: true :: true :: true :: true :: true :: true :: true :: true :: true :: true :: []) (env' := u77) rfl ?_
        refine ZA (fun (k : Nat) => rows.length - k) (fun (k : Nat) => [(35, iI (k : Nat))]) (fun (k : Nat) G => (k ≤ rows.length) ∧ G = H ++ [.cells ((wayL rows.length (wF rows (Ya most 65536) u s k)).map iW) true]) 0 rfl ?_ ?_
        · refine ⟨?_, rfl⟩
          exact Nat.zero_le _
        rintro k _ ⟨hk, rfl⟩
        refine ZR (env' := u77) rfl ?_
        refine Zd (Za ?_)
        refine Zp (env' := u77) rfl rfl (rfl) rfl ?_
        refine Ze (Zc (Zd ?_))
        refine Zk _ rfl (fun hc4 => ?_) (fun hc4 => ?_)
        · try simp only [decide_eq_true_eq, decide_eq_false_iff_not, Bool.not_eq_true', Bool.not_eq_false', bne_iff_ne, beq_iff_eq, Bool.and_eq_true, Bool.or_eq_true, Bool.not_eq_true, ge_iff_le, gt_iff_lt, Int.not_le, Int.not_lt, beq_eq_false_iff_ne, bne_eq_false_iff_eq, ne_eq, Decidable.not_not, ZZ, Yd, Yb] at hc4
          refine Zj (Zc (Zd (Zl (Zd (Za ?_)))))
          refine Zp (env' := u77) rfl rfl (Zb (.inl rfl) rfl) rfl ?_
          refine Zp (env' := u77) rfl rfl XH42 rfl ?_
          refine Zp (env' := u77) rfl rfl (by first | exact v_loadF rfl rfl rfl rfl (by first | exact fget (α := BitVec 64) 0 (by omega) | exact fget0 (α := BitVec 64) 0 (by omega) | rfl) | exact v_load rfl rfl rfl rfl XH7 (by first | exact fget (α := BitVec 64) 0 (by omega) | exact fget0 (α := BitVec 64) 0 (by omega) | rfl)) rfl ?_
          refine Zp (env' := u77) rfl rfl (Zb (.inr rfl) rfl) rfl ?_
          refine Zp (env' := u77) rfl rfl (Zb (.inr rfl) rfl) rfl ?_
          refine Ze (Zc (Zd (Za ?_)))
          refine Zp (env' := u77) rfl rfl (Zb (.inl rfl) rfl) rfl ?_
          refine Zp (env' := u77) rfl rfl (Zb (.inl rfl) rfl) rfl ?_
          refine Zp (env' := u77) rfl rfl (v_shrI rfl rfl rfl (by omega)) rfl ?_
          refine Zp (env' := u77) rfl rfl (rfl) rfl ?_
          refine Zp (env' := u77) rfl rfl (v_is (s.testBit k) rfl (tb_is (by omega))) rfl ?_
          refine Zp (env' := u77) rfl rfl (Zb (.inl rfl) rfl) rfl ?_
          refine Zy 45 (env1 := u77) (env2 := u77) rfl rfl rfl (fun hg5 => ?_) (fun hg5 => ?_)
          · try simp only [decide_eq_true_eq, decide_eq_false_iff_not, Bool.not_eq_true', Bool.not_eq_false', bne_iff_ne, beq_iff_eq, Bool.and_eq_true, Bool.or_eq_true, Bool.not_eq_true, ge_iff_le, gt_iff_lt, Int.not_le, Int.not_lt, beq_eq_false_iff_ne, bne_eq_false_iff_eq, ne_eq, Decidable.not_not, ZZ, Yd, Yb] at hg5
            refine Zp (env' := u77) rfl rfl (Zb (.inl rfl) rfl) rfl ?_
            refine Zp (env' := u77) rfl rfl (Zb (.inl rfl) rfl) rfl ?_
            refine Zp (env' := u77) rfl rfl (v_shrW rfl rfl rfl XH1) rfl ?_
            refine Zp (env' := u77) rfl rfl (v_andW (b := 1#64) rfl rfl rfl) rfl ?_
            refine Zp (env' := u77) rfl rfl (rfl) rfl ?_
            refine Zp (env' := u77) rfl rfl (ZP rfl rfl rfl) rfl ?_
            refine Ze (Zc ?_)
            refine Zk _ rfl (fun hc6 => ?_) (fun hc6 => ?_)
            · try simp only [decide_eq_true_eq, decide_eq_false_iff_not, Bool.not_eq_true', Bool.not_eq_false', bne_iff_ne, beq_iff_eq, Bool.and_eq_true, Bool.or_eq_true, Bool.not_eq_true, ge_iff_le, gt_iff_lt, Int.not_le, Int.not_lt, beq_eq_false_iff_ne, bne_eq_false_iff_eq, ne_eq, Decidable.not_not, ZZ, Yd, Yb] at hc6
              refine ZS [0, 1, 2, 3, 4, 5, 6, 7, 8, 9, 10, 11, 12, 13, 14, 15, 16, 17] #[0, 0, 0, 0, 12, 28, 0, 0, 0, 256, 896, 1984, 4032, 8188, 0, 32764, 65535, 131071] XH5 XH5 XH5 ?_
              refine Z7 (env' := u77) (c := .calm) rfl rfl rfl (Zb (.inl rfl) rfl) rfl rfl rfl ?_
              refine Z7 (env' := u77) (c := .calm) rfl rfl rfl (Zb (.inl rfl) rfl) rfl rfl rfl ?_
              refine Z7 (env' := u77) (c := .calm) rfl rfl rfl (Zb (.inl rfl) rfl) rfl rfl rfl ?_
              refine Z7 (env' := u77) (c := .calm) rfl rfl rfl (Zb (.inl rfl) rfl) rfl rfl rfl ?_
              refine Z7 (env' := u77) (c := .calm) rfl rfl rfl XH42 rfl rfl rfl ?_
              refine Z7 (env' := u77) (c := .look) rfl rfl rfl (by first | exact v_loadF rfl rfl rfl rfl (by exact fget0 (α := BitVec 64) (l := wayL rows.length (wF rows (Ya most 65536) u s k)) (n := (s : Nat)) 0 (by rw [wayL_len]; omega)) | exact v_load rfl rfl rfl rfl XH7 (by exact fget0 (α := BitVec 64) (l := wayL rows.length (wF rows (Ya most 65536) u s k)) (n := (s : Nat)) 0 (by rw [wayL_len]; omega))) rfl rfl rfl ?_
              refine Z7 (env' := u77) (c := .calm) rfl rfl rfl (Zb (.inl rfl) rfl) rfl rfl rfl ?_
              refine Z7 (env' := u77) (c := .calm) rfl rfl rfl (Zb (.inl rfl) rfl) rfl rfl rfl ?_
              refine Z7 (env' := u77) (c := .calm) rfl rfl rfl (Zb (.inl rfl) rfl) rfl rfl rfl ?_
              refine Z7 (env' := u77) (c := .calm) rfl rfl rfl (v_shlI1 rfl rfl rfl (by omega)) rfl rfl rfl ?_
              refine Z7 (env' := u77) (c := .calm) rfl rfl rfl (v_val rfl (congrArg (VVal.int .i64) (andNot_less (by omega) (by omega) (by assumption)))) rfl rfl rfl ?_
              refine Z7 (env' := u77) (c := .calm) rfl rfl rfl (by first | exact v_idxF rfl rfl rfl rfl rfl rfl rfl XH32 | exact v_idx rfl rfl rfl rfl rfl rfl rfl XH32) rfl rfl rfl ?_
              refine Z7 (env' := u77) (c := .look) rfl rfl rfl (by first | exact v_loadF rfl rfl rfl rfl XH30 | exact v_load rfl rfl rfl rfl XH7 XH30) rfl rfl rfl ?_
              refine Z7 (env' := u77) (c := .calm) rfl rfl rfl (v_addW rfl rfl rfl) rfl rfl rfl ?_
              refine Z7 (env' := u77) (c := .calm) rfl rfl rfl (Zb (.inl rfl) rfl) rfl rfl rfl ?_
              refine Z7 (env' := u77) (c := .calm) rfl rfl rfl (v_val rfl ((congrArg (VVal.int .u64) (by rw [show (wayL rows.length (wF rows (Ya most 65536) u s k)).getD (s : Int).toNat 0 = Ya (Ya most 65536) (wP rows u s k) from way_at hs, show (wayL rows.length (wF rows (Ya most 65536) u s k)).getD ((less s k : Nat) : Int).toNat 0 = Ya (Ya most 65536) (wS rows u (less s k)) from way_less hs (by assumption)]; exact sat_add hm) : _ = VVal.int .u64 ((Ya (Ya most 65536) (wP rows u s k + wS rows u (less s k))).toNat : Int)))) rfl rfl rfl ?_
              refine Z7 (env' := u77) (c := .calm) rfl rfl rfl XH42 rfl rfl rfl ?_
              refine Z7 (env' := u77) (c := .turn) rfl rfl rfl (Z5 rfl rfl rfl rfl rfl rfl rfl XH7 (by rw [List.length_map, wayL_len]; show 0 + s * 1 + 1 ≤ _; omega) (by exact (ZQ rfl).trans (congrArg (fun c => H ++ [VBlk.cells c true]) ((splice_w (l := wayL rows.length (wF rows (Ya most 65536) u s k)) (k := s) (w := Ya (Ya most 65536) (wP rows u s k + wS rows u (less s k))) (by rw [wayL_len]; exact hs)).trans (by rw [way_set hm hs (by assumption) (sh1.1 (by assumption))]))))) rfl rfl rfl ?_
              refine ZY [] XH5 (trivial) ?_
              refine Zr (Zc (Za ?_))
              refine Zp (env' := u77) rfl rfl (YY rfl rfl rfl XH1) rfl ?_
              refine Zp (env' := u77) rfl rfl (Zb (.inl rfl) rfl) rfl ?_
              refine Ze ?_
              refine Zs (false :: false :: true :: true :: true :: false :: false :: false :: true :: true :: true :: true :: true :: true :: true :: true :: true :: true :: true :: true :: true :: true :: true :: false :: true :: true :: true :: true :: true :: true :: true :: true :: true :: false :: false :: false :: true :: true :: true :: true :: true :: true :: true :: true :: true :: true :: true :: true :: true :: true :: true :: true :: true :: true :: true :: true :: true :: true :: true :: true :: true :: true :: true :: true :: true :: true :: true :: true :: true :: true :: true :: true :: true :: true :: true :: true :: true :: []) (env' := u77) rfl ⟨k + 1, ?_, rfl, ?_⟩
              · first | omega | (simp only []; omega)
              · first | exact ⟨by omega, rfl⟩ | exact ⟨by omega, by rw [way_same (fun e => absurd e.1 (Yp (by assumption)))]⟩ | exact ⟨by omega, by rw [way_same (fun e => absurd (sh1.2 e.2) (by assumption))]⟩
            · try simp only [decide_eq_true_eq, decide_eq_false_iff_not, Bool.not_eq_true', Bool.not_eq_false', bne_iff_ne, beq_iff_eq, Bool.and_eq_true, Bool.or_eq_true, Bool.not_eq_true, ge_iff_le, gt_iff_lt, Int.not_le, Int.not_lt, beq_eq_false_iff_ne, bne_eq_false_iff_eq, ne_eq, Decidable.not_not, ZZ, Yd, Yb] at hc6
              refine Zj (Zr (Zc (Za ?_)))
              refine Zp (env' := u77) rfl rfl (YY rfl rfl rfl XH1) rfl ?_
              refine Zp (env' := u77) rfl rfl (Zb (.inl rfl) rfl) rfl ?_
              refine Ze ?_
              refine Zs (false :: false :: true :: true :: true :: false :: false :: false :: true :: true :: true :: true :: true :: true :: true :: true :: true :: true :: true :: true :: true :: true :: true :: false :: true :: true :: true :: true :: true :: true :: true :: true :: true :: false :: false :: false :: true :: true :: true :: true :: true :: true :: true :: true :: true :: true :: true :: true :: true :: true :: true :: true :: true :: true :: true :: true :: true :: true :: true :: true :: true :: true :: true :: true :: true :: true :: true :: true :: true :: true :: true :: true :: true :: true :: true :: true :: true :: []) (env' := u77) rfl ⟨k + 1, ?_, rfl, ?_⟩
              · first | omega | (simp only []; omega)
              · first | exact ⟨by omega, rfl⟩ | exact ⟨by omega, by rw [way_same (fun e => absurd e.1 (Yp (by assumption)))]⟩ | exact ⟨by omega, by rw [way_same (fun e => absurd (sh1.2 e.2) (by assumption))]⟩
          · try simp only [decide_eq_true_eq, decide_eq_false_iff_not, Bool.not_eq_true', Bool.not_eq_false', bne_iff_ne, beq_iff_eq, Bool.and_eq_true, Bool.or_eq_true, Bool.not_eq_true, ge_iff_le, gt_iff_lt, Int.not_le, Int.not_lt, beq_eq_false_iff_ne, bne_eq_false_iff_eq, ne_eq, Decidable.not_not, ZZ, Yd, Yb] at hg5
            refine L_off (env' := u77) rfl rfl ?_
            refine L_off (env' := u77) rfl rfl ?_
            refine L_off (env' := u77) rfl rfl ?_
            refine L_off (env' := u77) rfl rfl ?_
            refine L_off (env' := u77) rfl rfl ?_
            refine Zp (env' := u77) rfl rfl (ZB (VVal.bool false) rfl rfl rfl) rfl ?_
            refine Ze (Zc ?_)
            refine Ym rfl rfl ?_
            refine Zj (Zr (Zc (Za ?_)))
            refine Zp (env' := u77) rfl rfl (YY rfl rfl rfl XH1) rfl ?_
            refine Zp (env' := u77) rfl rfl (Zb (.inl rfl) rfl) rfl ?_
            refine Ze ?_
            refine Zs (false :: false :: true :: true :: true :: false :: false :: false :: true :: true :: true :: true :: true :: true :: true :: true :: true :: true :: true :: true :: true :: true :: true :: false :: true :: true :: true :: true :: true :: true :: true :: true :: true :: false :: false :: false :: true :: true :: true :: true :: true :: true :: true :: true :: true :: true :: true :: true :: true :: true :: true :: true :: true :: true :: true :: true :: true :: true :: true :: true :: true :: true :: true :: true :: true :: true :: true :: true :: true :: true :: true :: true :: true :: true :: true :: true :: true :: []) (env' := u77) rfl ⟨k + 1, ?_, rfl, ?_⟩
            · first | omega | (simp only []; omega)
            · first | exact ⟨by omega, rfl⟩ | exact ⟨by omega, by rw [way_same (fun e => absurd e.1 (Yp (by assumption)))]⟩ | exact ⟨by omega, by rw [way_same (fun e => absurd (sh1.2 e.2) (by assumption))]⟩
        · try simp only [decide_eq_true_eq, decide_eq_false_iff_not, Bool.not_eq_true', Bool.not_eq_false', bne_iff_ne, beq_iff_eq, Bool.and_eq_true, Bool.or_eq_true, Bool.not_eq_true, ge_iff_le, gt_iff_lt, Int.not_le, Int.not_lt, beq_eq_false_iff_ne, bne_eq_false_iff_eq, ne_eq, Decidable.not_not, ZZ, Yd, Yb] at hc4
          refine ZH (ZI (Zw (ZG (Zr (Zc (Za ?_))))))
          refine Zp (env' := u77) rfl rfl (Zb (.inl rfl) rfl) rfl ?_
          refine Zp (env' := u77) rfl rfl (v_subI rfl rfl rfl XH1) rfl ?_
          refine Zp (env' := u77) rfl rfl (Zb (.inr rfl) rfl) rfl ?_
          refine Ze ?_
          obtain rfl : k = rows.length := by omega
          rw [show (s : Int) - 1 = ((s - 1 : Nat) : Int) by omega]
          refine Zs (false :: false :: true :: true :: true :: false :: false :: false :: true :: true :: true :: true :: true :: true :: true :: true :: true :: true :: true :: true :: true :: true :: true :: false :: true :: true :: true :: true :: true :: true :: true :: true :: true :: true :: true :: true :: true :: true :: true :: true :: true :: true :: true :: true :: true :: true :: true :: true :: true :: true :: true :: true :: true :: true :: true :: true :: true :: true :: true :: true :: true :: true :: true :: true :: true :: true :: true :: true :: true :: true :: true :: true :: true :: true :: true :: true :: true :: []) (env' := u77) rfl ⟨(s - 1), ?_, rfl, ?_⟩
          · first | omega | (simp only []; omega)
          · exact ⟨by omega, by rw [way_down (by omega) (by omega)]⟩
      · try simp only [decide_eq_true_eq, decide_eq_false_iff_not, Bool.not_eq_true', Bool.not_eq_false', bne_iff_ne, beq_iff_eq, Bool.and_eq_true, Bool.or_eq_true, Bool.not_eq_true, ge_iff_le, gt_iff_lt, Int.not_le, Int.not_lt, beq_eq_false_iff_ne, bne_eq_false_iff_eq, ne_eq, Decidable.not_not, ZZ, Yd, Yb] at hc3
        refine ZH (ZI (Zw (ZG (Zr (Zc (Za ?_))))))
        refine Zp (env' := u77) rfl rfl (YY rfl rfl rfl XH1) rfl ?_
        refine Zp (env' := u77) rfl rfl (Zb (.inl rfl) rfl) rfl ?_
        refine Ze ?_
        refine Zs (false :: false :: true :: true :: true :: false :: true :: true :: true :: true :: true :: true :: true :: true :: true :: true :: true :: true :: true :: true :: true :: true :: true :: false :: true :: true :: true :: true :: true :: true :: true :: true :: true :: true :: true :: true :: true :: true :: true :: true :: true :: true :: true :: true :: true :: true :: true :: true :: true :: true :: true :: true :: true :: true :: true :: true :: true :: true :: true :: true :: true :: true :: true :: true :: true :: true :: true :: true :: true :: true :: true :: true :: true :: true :: true :: true :: true :: []) (env' := u77) rfl ⟨u + 1, ?_, rfl, ?_⟩
        · first | omega | (simp only []; omega)
        · exact ⟨by omega, by rw [← way_end, show s = 0 by omega]⟩
    · try simp only [decide_eq_true_eq, decide_eq_false_iff_not, Bool.not_eq_true', Bool.not_eq_false', bne_iff_ne, beq_iff_eq, Bool.and_eq_true, Bool.or_eq_true, Bool.not_eq_true, ge_iff_le, gt_iff_lt, Int.not_le, Int.not_lt, beq_eq_false_iff_ne, bne_eq_false_iff_eq, ne_eq, Decidable.not_not, ZZ, Yd, Yb] at hc2
      refine ZH (ZI (Zw (ZG (Zc (Zd (Za ?_))))))
      refine Zp (env' := u77) rfl rfl (Zb (.inl rfl) rfl) rfl ?_
      refine Zp (env' := u77) rfl rfl (Zb (.inl rfl) rfl) rfl ?_
      refine Zp (env' := u77) rfl rfl (rfl) rfl ?_
      refine Zp (env' := u77) rfl rfl (v_val (v_subI rfl rfl rfl (by show -9223372036854775808 ≤ ((2 ^ rows.length : Nat) : Int) - 1 ∧ ((2 ^ rows.length : Nat) : Int) - 1 < 9223372036854775808; omega)) (congrArg iI (show ((2 ^ rows.length : Nat) : Int) - 1 = ((2 ^ rows.length - 1 : Nat) : Int) by omega))) rfl ?_
      refine Zp (env' := u77) rfl rfl XH42 rfl ?_
      refine Zp (env' := u77) rfl rfl (by first | exact v_loadF rfl rfl rfl rfl XH33 | exact v_load rfl rfl rfl rfl XH7 XH33) rfl ?_
      refine Zp (env' := u77) rfl rfl (Zb (.inr rfl) rfl) rfl ?_
      refine Ze (Zc (Zi ?_))
      refine Yz (.inr rfl) (Zh rfl rfl) XH12 XH15 ?_
      first
        | exact ⟨by rw [coV, if_neg (by omega)]; rfl, rfl⟩
        | (obtain rfl : u = 64 := by omega); exact ⟨by rw [coV, if_pos (by omega), show (wayL rows.length (wU rows (Ya most 65536) 64)).getD ((2 ^ rows.length - 1 : Nat) : Int).toNat 0 = _ from wayL_get (by omega)]; unfold wU; rw [Int.toNat_natCast, wS_end], rfl⟩
end MM
open Go Go.V Go.RowKit
theorem W4q {T : TypeId → Option VTy} {H : Zf} {op : Op} {ρ : Operand → VVal} {t : TypeId} {a : Operand} {y : VTy} {p v : VVal} (ho : op = .load t a) (ha : ρ a = p) (hy : T t = some y) (hd : Zo y.desc = false) (h : LdOk H p v := by first | exact .inl ⟨_, _, rfl, by first | exact fget (α := BitVec 64) 0 (by omega) | exact fget0 (α := BitVec 64) 0 (by omega) | exact YW (α := BitVec 64) 0 (by omega)⟩ | exact .inr ⟨_, _, _, _, rfl, by exact Zx hb, by first | exact fget (α := BitVec 64) 0 (by omega) | exact fget0 (α := BitVec 64) 0 (by omega) | exact YW (α := BitVec 64) 0 (by omega)⟩) : vop T ρ H op = some (v, H) := v_ld ho ha hy hd h
theorem W4s {T : TypeId → Option VTy} {H : Zf} {op : Op} {ρ : Operand → VVal} {t : TypeId} {a : Operand} {y : VTy} {p : VVal} {n : Nat} {vs : List VVal} (ho : op = .load t a) (ha : ρ a = p) (hy : T t = some y) (hd : Zo y.desc = true) (hn : y.size = n) (h : LdOkA H p n vs := by first | exact .inl ⟨_, _, rfl, XH47⟩ | exact .inr ⟨_, _, _, _, rfl, XH44, XH47⟩) : vop T ρ H op = some (.agg vs, H) := v_ldA ho ha hy hd hn h
theorem W4t {S : V.Sys} {H : Zf} {fn : Func} {ex : Exit} {env : VEnv} {B L : Zf} {v : VVal} {R : VVal → Zf → Prop} (hx : ex = .normal ∨ ex = .ret) (hv : ZX S.C.T env (B ++ L) fn.results = some v) (h : R v B) (hB : BaseOk H B := by exact XH51) (hu : v.under H.length = true := by first | rfl | exact Yy _ _) : fnK S fn H R ex env (B ++ L) := Yz hx hv hB hu h
theorem W4u {P : Prop} (h : P := by first | exact ⟨by rw [liA_no (by assumption)]; rfl, rfl⟩ | exact ⟨by rw [liA_0 (by omega)]; rfl, rfl⟩ | exact ⟨by rw [liA_in h0, hE]; show _ = VVal.fsl _ s9.length 1 false; rw [hsl], rfl⟩) : P := h
theorem W4v {T : TypeId → Option VTy} {H : Zf} {op : Op} {ρ : Operand → VVal} {t : TypeId} {a : Operand} {y : VTy} {p v : VVal} (ho : op = .load t a) (ha : ρ a = p) (hy : T t = some y) (hd : Zo y.desc = false) (h : LdOk H p v := by first | exact .inl ⟨_, _, rfl, XH47⟩ | exact .inr ⟨_, _, _, _, rfl, XH44, XH47⟩) : vop T ρ H op = some (v, H) := v_ld ho ha hy hd h
theorem W4x {T : TypeId → Option VTy} {H : Zf} {op : Op} {ρ : Operand → VVal} {t e : TypeId} {x i : Operand} {y z : VTy} {k : IntKind} {n : Int} {p v : VVal} {es : Nat} (ho : op = .indexAddr t x i) (hx : ρ x = p) (hi : ρ i = .int k n) (hy : T t = some y) (hd : y.desc = .slice e) (hz : T e = some z) (hs : z.size = es) (h : IxOk p es n v := by first | exact .inl ⟨_, _, _, rfl, by constructor <;> omega, rfl⟩ | exact .inr ⟨_, _, _, _, _, rfl, by constructor <;> omega, rfl⟩) : vop T ρ H op = some (v, H) := v_ix ho hx hi hy hd hz hs h
theorem W4y {T : TypeId → Option VTy} {H : Zf} {op : Op} {ρ : VEnv} {H' : Zf} {t : TypeId} {a : Operand} {i : Nat} {v : VVal} {y : VTy} {b off : Nat} {cs new : List VVal} (ho : op = .store t a (.tmp i)) (hv : ρ[i]? = some v) (ha : ρ.eval a = .ptr (some (b, off))) (hy : T t = some y) (hx : v.cells = some new) (hn : new.length = y.size) (h1 : new.all VVal.one = true) (hb : H[b]? = some (.cells cs true) := by exact XH44) (hl : off + new.length ≤ cs.length := by show 0 + ((k : Nat) : Int).toNat * 1 + 1 ≤ _; rw [List.length_map, wsK_len]; omega) (hH : H.set b (.cells (ZD cs off new) true) = H' := by exact (ZQ rfl).trans (congrArg (fun z => H ++ [VBlk.dead, _, VBlk.cells z true, _, _]) (wsK_set (by omega)))) : vop T ρ.eval H op = some (.skip, H') := Z5 ho hv ha hy hx hn h1 hb hl hH
theorem W4z {T : TypeId → Option VTy} {H : Zf} {op : Op} {ρ : Operand → VVal} {t : TypeId} {a : Operand} {y : VTy} {p v : VVal} (ho : op = .load t a) (ha : ρ a = p) (hy : T t = some y) (hd : Zo y.desc = false) (h : LdOk H p v := by first | exact .inl ⟨_, _, rfl, XH47⟩ | exact .inr ⟨_, _, _, _, rfl, by exact getB rfl rfl, XH47⟩) : vop T ρ H op = some (v, H) := v_ld ho ha hy hd h
theorem W50 {T : TypeId → Option VTy} {H : Zf} {op : Op} {ρ : VEnv} {H' : Zf} {t : TypeId} {a : Operand} {i : Nat} {v : VVal} {y : VTy} {b off : Nat} {cs new : List VVal} (ho : op = .store t a (.tmp i)) (hv : ρ[i]? = some v) (ha : ρ.eval a = .ptr (some (b, off))) (hy : T t = some y) (hx : v.cells = some new) (hn : new.length = y.size) (h1 : new.all VVal.one = true) (hb : H[b]? = some (.cells cs true) := by exact getB rfl rfl) (hl : off + new.length ≤ cs.length := by show 0 + ((k : Nat) : Int).toNat * 1 + 1 ≤ _; rw [List.length_map, YC]; omega) (hH : H.set b (.cells (ZD cs off new) true) = H' := by exact (setB rfl (show 1 < 6 by decide)).trans (congrArg (fun z => (H ++ [VBlk.dead, VBlk.cells z true, _, _, _, _]) ++ _) (liK_st (by omega) (by omega)))) : vop T ρ.eval H op = some (.skip, H') := Z5 ho hv ha hy hx hn h1 hb hl hH
theorem W51 {T : TypeId → Option VTy} {H : Zf} {op : Op} {ρ : Operand → VVal} {t : TypeId} {a : Operand} {y : VTy} {p v : VVal} (ho : op = .load t a) (ha : ρ a = p) (hy : T t = some y) (hd : Zo y.desc = false) (h : LdOk H p v := by first | exact .inl ⟨_, _, rfl, XH47⟩ | exact .inr ⟨_, _, _, _, rfl, by exact ZL rfl rfl, XH47⟩) : vop T ρ H op = some (v, H) := v_ld ho ha hy hd h
def liA (p : Pb) : List (BitVec 64) := if pck p = 0 then liF (wsP p) (ptP p) (List.replicate p.who.length 0#64) else []
theorem liA_no {p : Pb} (h : ¬ pck p = 0) : liA p = [] := if_neg h
theorem liA_in {p : Pb} (h : pck p = 0) : liA p = liF (wsP p) (ptP p) (List.replicate p.who.length 0#64) := if_pos h
theorem liA_len {p : Pb} (h : pck p = 0) : (liA p).length = p.who.length := by rw [liA_in h, liF_len (by rw [List.length_replicate, ZO]), ZO]
theorem liA_0 {p : Pb} (h : p.who.length = 0) : liA p = [] := by
  by_cases e : pck p = 0
  · exact List.eq_nil_of_length_eq_zero ((liA_len e).trans h)
  · exact liA_no e
def wsK (p : Pb) (k : Nat) : List (BitVec 64) := (List.range p.who.length).map fun i => if i < k then wrd p i else 0#64
theorem wsK_len {p : Pb} {k : Nat} : (wsK p k).length = p.who.length := by unfold wsK; simp
theorem wsK_0 {p : Pb} : wsK p 0 = List.replicate p.who.length 0#64 := by
  apply List.ext_getElem (by rw [wsK_len, List.length_replicate])
  intro i h1 h2
  unfold wsK; simp
theorem wsK_all {p : Pb} : wsK p p.who.length = wsP p := by
  apply List.ext_getElem (by rw [wsK_len, ZO])
  intro i h1 h2
  simp only [wsK_len] at h1
  simp [wsK, wsP, h1]
theorem wsK_set {p : Pb} {k : Nat} (h : k < p.who.length) : ZD ((wsK p k).map iW) (0 + ((k : Nat) : Int).toNat * 1) [iW (wrd p k)] = (wsK p (k + 1)).map iW := by
  rw [Int.toNat_natCast, spl_W (by rw [wsK_len]; exact h)]
  congr 1
  apply List.ext_getElem (by rw [List.length_set, wsK_len, wsK_len])
  intro i h1 h2
  have h3 : i < p.who.length := by rw [wsK_len] at h2; exact h2
  rw [List.getElem_set]
  by_cases e : k = i
  · subst e; simp [wsK]
  · have e3 : i < k ↔ i < k + 1 := by omega
    simp [wsK, e, e3]
theorem liK_st {ws : List (BitVec 64)} {a : List Nat} {l : List (BitVec 64)} {b k : Nat} (hk : k < l.length) (h : a.getD k 0 = b) : ZD ((liK ws a l b k).map iW) (0 + ((k : Nat) : Int).toNat * 1) [iW ((liK ws a l b k).getD ((k : Nat) : Int).toNat 0 ||| frW (Z8 ws a a.length) b)] = (liK ws a l b (k + 1)).map iW := by
  rw [Int.toNat_natCast, spl_W (by rw [YC]; exact hk), liK_set hk h]
theorem fv_is {l : List (BitVec 64)} {b : Nat} (h1 : l.length ≤ 12) (h2 : b < l.length) : MM.freeV l ((b : Nat) : Int) = frW l b := by
  unfold MM.freeV; rw [if_pos ⟨h1, by omega, by omega⟩, Int.toNat_natCast]
theorem EqualW_spec {x : SW} (H : Zf) (b : Nat) (e : Bool) (l m : List (BitVec 64)) (hb : H[b]? = some (.cells (l.map iW) true)) (h1 : l.length ≤ 1000000) : F (psys x) 62 [.slice (some (b, 0)) l.length l.length e 1, fzW m] H fun v G => v = .bool (decide (l = m)) ∧ G = H := by
 refine Zq Tryd.func62 rfl u26 rfl ?_
 refine Zd (Za ?_)
 refine Lo u26 (Zg (VVal.bool false) (.inr rfl) rfl) ?_
 refine Ze (Zc (Zd (Zd (Za ?_))))
 refine Lo u26 (Zb (.inl rfl) rfl) ?_
 refine Lo u26 (rfl) ?_
 refine Lo u26 (Zb (.inl rfl) rfl) ?_
 refine Lo u26 (rfl) ?_
 refine Lo u26 (rfl) ?_
 refine Ze (Zc ?_)
 refine Zk _ rfl (fun hc1 => ?_) (fun hc1 => ?_)
 ·try simp only [qB, qN] at hc1
  refine Zd (Za ?_)
  refine Lo u26 (Zg (VVal.bool false) (.inr rfl) rfl) ?_
  refine Ze (Zc (Zi (Zm ?_)))
  refine W10 (.inr rfl) (Zh rfl rfl) ?_
  exact ⟨by rw [decide_eq_false (fun e => by rw [e] at hc1; omega)], rfl⟩
 ·try simp only [qB, qN] at hc1
  refine Zj (Zc (Zd (Zd (Za ?_))))
  refine Lo u26 (Zb (.inl rfl) rfl) ?_
  refine Lo u26 (rfl) ?_
  refine Lo u26 (Zg (VVal.int .i64 0) (.inl rfl) rfl) ?_
  refine Ze (Zc (Zl ?_))
  refine Zu (mk 26 67096572) (env' := u26) rfl ?_
  refine ZA (fun (k : Nat) => l.length - k) (fun (k : Nat) => [(13, iI (k : Nat))]) (fun (k : Nat) G => (k ≤ l.length ∧ ∀ j, j < k → l.getD j 0 = m.getD j 0) ∧ G = H ++ []) 0 rfl ?_ ?_
  ·refine ⟨?_, rfl⟩
   exact ⟨Nat.zero_le _, fun j h => by omega⟩
  rintro k _ ⟨⟨hk, hall⟩, rfl⟩
  refine ZR (env' := u26) rfl ?_
  refine Zd (Za ?_)
  refine Lo u26 (rfl) ?_
  refine Ze (Zc (Zd ?_))
  refine Zk _ rfl (fun hc2 => ?_) (fun hc2 => ?_)
  ·try simp only [qB, qN] at hc2
   refine Zj (Zc (Zd (Zl (Zd (Za ?_)))))
   refine Lo u26 (Zb (.inl rfl) rfl) ?_
   refine Lo u26 (Zb (.inr rfl) rfl) ?_
   refine Ze (Zc (Zd ?_))
   refine ZS [0, 1, 2, 3, 4, 5, 6, 7, 8] #[0, 0, 3, 7, 0, 0, 48, 112, 255] XH5 XH5 XH5 ?_
   refine Oo u26 .calm rfl (Zb (.inl rfl) rfl) ?_
   refine Oo u26 .calm rfl (Zb (.inl rfl) rfl) ?_
   refine Oo u26 .calm rfl (W18 rfl rfl rfl rfl rfl rfl rfl) ?_
   refine Oo u26 .look rfl (W4q rfl rfl rfl rfl) ?_
   refine Oo u26 .calm rfl (Zb (.inl rfl) rfl) ?_
   refine Oo u26 .calm rfl (Zb (.inl rfl) rfl) ?_
   refine Oo u26 .calm rfl (W18 rfl rfl rfl rfl rfl rfl rfl) ?_
   refine Oo u26 .look rfl (W4q rfl rfl rfl rfl) ?_
   refine Oo u26 .calm rfl (rfl) ?_
   refine ZY [] XH5 (trivial) ?_
   refine Zc ?_
   refine Zk _ rfl (fun hc3 => ?_) (fun hc3 => ?_)
   ·try simp only [qB, qN] at hc3
    refine Zd (Za ?_)
    refine Lo u26 (Zg (VVal.bool false) (.inr rfl) rfl) ?_
    refine Ze (Zc (Zi (ZE (Zm (Yf (ZE (Zm ?_)))))))
    refine W10 (.inr rfl) (Zh rfl rfl) ?_
    exact ⟨by rw [decide_eq_false (fun e => by subst e; exact hc3 rfl)], rfl⟩
   ·try simp only [qB, qN] at hc3
    refine Zj (Zr (Zc (Za ?_)))
    refine Lo u26 (W14 rfl rfl rfl) ?_
    refine Lo u26 (Zb (.inl rfl) rfl) ?_
    refine Ze ?_
    refine Zs (mk 26 67096572) (env' := u26) rfl ⟨k + 1, ?_, rfl, ?_⟩
    ·first | omega | (simp only []; omega)
    ·exact ⟨⟨by omega, fun j hj => by by_cases e : j = k; (subst e; assumption); exact hall j (by omega)⟩, rfl⟩
  ·try simp only [qB, qN] at hc2
   refine ZH (ZI (Zw (ZG (Zc (Zd (Za ?_))))))
   refine Lo u26 (Zg (VVal.bool true) (.inr rfl) rfl) ?_
   refine Ze (Zc (Zi ?_))
   refine W10 (.inr rfl) (Zh rfl rfl) ?_
   have e := eq_getD (d := 0) (by omega) (fun j hj => hall j (by omega))
   exact ⟨by rw [decide_eq_true e], rfl⟩
theorem EqualW_n {x : SW} (H : Zf) (b n n2 : Nat) (e : Bool) (l m : List (BitVec 64)) (hb : H[b]? = some (.cells (l.map iW) true)) (h1 : n ≤ 1000000) (hn : l.length = n) (hm : m.length = n2) : F (psys x) 62 [.slice (some (b, 0)) n n e 1, .fsl (m.map iW) n2 1 false] H fun v G => v = .bool (decide (l = m)) ∧ G = H := by
  subst hn; subst hm
  exact EqualW_spec H b e l m hb h1
theorem tLive_spec {x : SW} (H : Zf) (p : Pb) (hp : PbL p) : F (psys x) 33 [.agg (pbB p)] H fun v G => v = fzW (liA p) ∧ G = H := by
 refine Zq Tryd.func33 rfl u76 rfl ?_
 refine Zd (Za ?_)
 refine Lo u76 (ZK rfl rfl rfl) ?_
 refine Lo u76 (Zg (VVal.slice none 0 0 true 0) (.inr rfl) rfl) ?_
 refine Ze (Zc (Zd (Zd ?_)))
 refine Yo (Gh.freezePtrL (cs := pbB p) 1 0 rfl rfl rfl) ?_
 refine Za ?_
 refine Lo u76 (W4s rfl rfl rfl rfl rfl) ?_
 refine Zv rfl rfl rfl (by exact sCheck_spec _ p hp) ?_
 rintro _ _ ⟨rfl, rfl⟩
 refine Le u76 ?_
 refine Lo u76 (rfl) ?_
 refine Lo u76 (Zb (.inl rfl) rfl) ?_
 refine Zy 15 (env1 := u76) (env2 := u76) rfl rfl rfl (fun hg1 => ?_) (fun hg1 => ?_)
 ·try simp only [qB, qN] at hg1
  refine Lf u76 ?_
  refine Lf u76 ?_
  refine Lf u76 ?_
  refine Lf u76 ?_
  refine Lo u76 (ZF (VVal.bool true) rfl rfl rfl) ?_
  refine Ze (Zc ?_)
  refine ZM rfl rfl ?_
  refine Zd (Za ?_)
  refine Lo u76 (Zg (VVal.slice none 0 0 true 0) (.inr rfl) rfl) ?_
  refine Ze (Zc ?_)
  refine Yo (Gh.freezeNil 2 (es' := 1) rfl rfl) ?_
  refine Zi (Zm ?_)
  refine W4t (.inr rfl) (Zh rfl rfl) ?_
  exact W4u
 ·try simp only [qB, qN] at hg1
  refine Lo u76 (rfl) ?_
  refine Lo u76 (W4v rfl rfl rfl rfl) ?_
  refine Lo u76 (rfl) ?_
  refine Lo u76 (rfl) ?_
  refine Lo u76 (ZW rfl rfl rfl) ?_
  refine Ze (Zc ?_)
  refine Zk _ rfl (fun hc2 => ?_) (fun hc2 => ?_)
  ·try simp only [qB, qN] at hc2
   refine Zd (Za ?_)
   refine Lo u76 (Zg (VVal.slice none 0 0 true 0) (.inr rfl) rfl) ?_
   refine Ze (Zc ?_)
   refine Yo (Gh.freezeNil 2 (es' := 1) rfl rfl) ?_
   refine Zi (Zm ?_)
   refine W4t (.inr rfl) (Zh rfl rfl) ?_
   exact W4u
  ·try simp only [qB, qN] at hc2
   refine Zj (Zc (Zd ?_))
   have h0 : pck p = 0 := by first | assumption | simp_all
   have g := pck_good.1 h0
   have g1 := g.n12; have g5 := g.fx
   have hne : ¬ p.who.length = 0 := by first | (have h9 := hc2; simp at h9; omega) | omega | simp_all
   have hwl := ZO (p := p)
   refine ZS [0, 1, 2, 3, 4, 5, 6, 7, 8, 9, 10, 11] #[0, 1, 3, 7, 0, 16, 48, 112, 0, 0, 783, 2047] XH5 XH5 XH5 ?_
   refine Oo u76 .calm rfl (rfl) ?_
   refine Oo u76 .look rfl (W4v rfl rfl rfl rfl) ?_
   refine Oo u76 .look rfl (rfl) ?_
   refine Oo u76 .grow rfl (YS rfl rfl rfl rfl rfl (by decide) ⟨by omega, Int.le_refl _, by show (p.who.length : Int) * (8 : Nat) ≤ _; omega, by omega⟩) ?_
   refine Oo u76 .calm rfl (rfl) ?_
   refine Yu (env' := u76) (x := .look _ _) rfl rfl rfl (W4v rfl rfl rfl rfl) rfl rfl rfl ?_
   refine Yu (env' := u76) (x := .look _ _) rfl rfl rfl (rfl) rfl rfl rfl ?_
   refine Yu (env' := u76) (x := .grow _) rfl rfl rfl (YS rfl rfl rfl rfl rfl (by decide) ⟨by omega, Int.le_refl _, by show (p.who.length : Int) * (8 : Nat) ≤ _; omega, by omega⟩) rfl rfl rfl ?_
   refine Oo u76 .grow rfl (ZT rfl rfl) ?_
   refine Oo u76 .grow rfl (ZT rfl rfl) ?_
   refine Yu (env' := u76) (x := .turn _ _) rfl rfl rfl (W13 rfl rfl rfl rfl rfl rfl rfl) rfl rfl rfl ?_
   refine Oo u76 .turn rfl (W13 rfl rfl rfl rfl rfl rfl rfl) ?_
   refine O_nilP [(5, 10), (6, 10), (7, 10)] XH5 (And.intro ⟨_, _, _, _, ⟨(gA (gA (gA (gA (gA (gA (gL XH5))))))), (gA (gL XH5)), And.intro (W4v rfl rfl rfl rfl) (W4v rfl rfl rfl rfl)⟩⟩ (And.intro ⟨_, _, _, _, ⟨(gA (gA (gA (gA (gA (gL XH5)))))), (gA (gL XH5)), And.intro (rfl) (rfl)⟩⟩ (And.intro ⟨_, _, _, _, ⟨(gA (gA (gA (gA (gL XH5))))), (gA (gL XH5)), (by simp [V.fine])⟩⟩ (trivial)))) ?_
   refine Zc (Zd (Zd ?_))
   refine B_heap (H' := H ++ [.dead, .cells ((List.replicate p.who.length 0#64).map iW) true, .cells ((wsK p 0).map iW) true, .cells [.slice (some (H.length + 1, 0)) p.who.length p.who.length true 1] true, .cells [.slice (some (H.length + 2, 0)) p.who.length p.who.length true 1] true]) (by rw [wsK_0, ← MM.rep_w]; rfl) ?_
   refine Za ?_
   refine Lo u76 (W4v rfl rfl rfl rfl) ?_
   refine Lo u76 (rfl) ?_
   refine Lo u76 (Zg (VVal.int .i64 0) (.inl rfl) rfl) ?_
   refine Ze (Zc (Zl ?_))
   refine Zu (mk 76 75557863725911102193637) (env' := u76) rfl ?_
   refine ZA (fun (k : Nat) => p.who.length - k) (fun (k : Nat) => [(31, iI (k : Nat))]) (fun (k : Nat) G => (k ≤ p.who.length) ∧ G = H ++ [.dead, .cells ((List.replicate p.who.length 0#64).map iW) true, .cells ((wsK p k).map iW) true, .cells [.slice (some (H.length + 1, 0)) p.who.length p.who.length true 1] true, .cells [.slice (some (H.length + 2, 0)) p.who.length p.who.length true 1] true]) 0 rfl ?_ ?_
   ·refine ⟨?_, rfl⟩
    exact Nat.zero_le _
   rintro k _ ⟨hk, rfl⟩
   refine ZR (env' := u76) rfl ?_
   refine Zd (Za ?_)
   refine Lo u76 (rfl) ?_
   refine Ze (Zc (Zd ?_))
   refine Zk _ rfl (fun hc3 => ?_) (fun hc3 => ?_)
   ·try simp only [qB, qN] at hc3
    refine Zj (Zc (Zd (Zl (Zd (Za ?_)))))
    refine Lo u76 (Zb (.inl rfl) rfl) ?_
    refine Lo u76 (Zb (.inr rfl) rfl) ?_
    refine Ze (Zc ?_)
    refine ZS [0, 1, 2, 3, 4, 5, 6] #[0, 0, 0, 0, 12, 31, 63] XH5 XH5 XH5 ?_
    refine Yu (env' := u76) (x := .look _ _) rfl rfl rfl (W4v rfl rfl rfl rfl) rfl rfl rfl ?_
    refine Oo u76 .calm rfl (Zb (.inl rfl) rfl) ?_
    refine Oo u76 .look rfl (W4s rfl rfl rfl rfl rfl) ?_
    refine Oo u76 .calm rfl (Zb (.inl rfl) rfl) ?_
    refine Yc (env' := u76) rfl rfl rfl rfl rfl (by exact Word_spec _ p k (by omega) (by omega)) XH10 rfl rfl ?_
    refine Oo u76 .calm rfl (W4x rfl rfl rfl rfl rfl rfl rfl) ?_
    refine Oo u76 .turn rfl (W4y rfl rfl rfl rfl rfl rfl rfl) ?_
    refine O_nilP [(0, 4)] XH5 (And.intro ⟨_, _, _, _, ⟨(gA (gA (gA (gA (gA (gA (gL XH5))))))), (gA (gA (gL XH5))), And.intro (W4v rfl rfl rfl rfl) (W4v rfl rfl rfl rfl)⟩⟩ (trivial)) ?_
    refine Zr (Zc (Za ?_))
    refine Lo u76 (W14 rfl rfl rfl) ?_
    refine Lo u76 (Zb (.inl rfl) rfl) ?_
    refine Ze ?_
    refine Zs (mk 76 75557863725911102193637) (env' := u76) rfl ⟨k + 1, ?_, rfl, ?_⟩
    ·first | omega | (simp only []; omega)
    ·exact ⟨by omega, rfl⟩
   ·try simp only [qB, qN] at hc3
    refine ZH (ZI (Zw (ZG (Zc (Zd (Zd ?_))))))
    obtain rfl : k = p.who.length := by omega
    rw [wsK_all]
    refine Yo (Gh.cellL (l := (wsP p).map iW) 4 0 2 rfl rfl (by decide) rfl (Yn (by simp [hwl])) (Nat.le_refl _)) ?_
    refine Za ?_
    refine Lo u76 (W4s rfl rfl rfl rfl rfl) ?_
    refine Zv rfl rfl rfl (by exact tpat_spec _ p) ?_
    rintro _ _ ⟨rfl, rfl⟩
    refine Le u76 ?_
    refine Ze (Zc (Zl ?_))
    refine Zu (mk 76 75557863721516276908007) (env' := u76) rfl ?_
    refine B_rangeJ (fvP p) 2 (fun _ => rfl) (ptP p) (fun l0 h => by cases h) rfl (fun l9 G9 K9 hI9 => tpat1_spec l9 p hp G9 K9 hI9) (σ := {q : List (BitVec 64) // q.length = p.who.length}) (fun k s => H ++ [.dead, .cells ((s.1).map iW) true, .dead, .cells [.slice (some (H.length + 1, 0)) p.who.length p.who.length true 1] true, .cells [.fsl ((wsP p).map iW) p.who.length 1 false] true, k]) ⟨(List.replicate p.who.length 0#64), List.length_replicate ..⟩ (fun k => by rw [List.append_assoc]; rfl) (fun k s => by simp) (fun k s => by rw [show (H ++ _ : Zf).length = H.length + 5 by simp]; exact ZL rfl rfl) (fun k k1 s => by rw [show (H ++ _ : Zf).length = H.length + 5 by simp]; exact ZQ rfl) (fun pre s => ∀ z, ptP p = pre ++ z → liF (wsP p) (ptP p) (List.replicate p.who.length 0#64) = liF (wsP p) z s.1) ?_ (fun j pre c s => (j = Code.exit 2 ∧ (liF (wsP p) (ptP p) (List.replicate p.who.length 0#64) = s.1))) rfl ?_ ?_ ?_
    ·exact fun z hz => by rw [hz]; rfl
    ·intro pre c post s hx hI Lp kr kb hkr hkb
     obtain ⟨s9, hs9⟩ := s
     try dsimp only at hI ⊢
     have hs9 : s9.length = p.who.length := hs9
     have hc9 : c ∈ ptP p := by rw [hx]; simp
     obtain ⟨h0, hpc, hcl, _, _⟩ := ptP_mem hc9
     have hbl := @Yx (wsP p) c c.length
     have hz := @szP_le c c.length
     have hI9 := hI _ hx
     refine ZR (env' := u76) rfl ?_
     refine Zd (Za ?_)
     refine Lo u76 (Zb (.inr rfl) rfl) ?_
     refine Ze (Zc (Za ?_))
     refine Lo u76 (Zb (.inr rfl) rfl) ?_
     refine Ze ?_
     refine ⟨rfl, ⟨s9, hs9⟩, rfl, ?_⟩
     try dsimp only
     refine Zl (Zd (Zd (Za ?_)))
     refine Lo u76 (Zb (.inl rfl) rfl) ?_
     refine Lo u76 (rfl) ?_
     refine Lo u76 (Zg (VVal.int .i64 0) (.inl rfl) rfl) ?_
     refine Ze (Zc (Zl ?_))
     refine Zu (mk 76 75557863514808090885927) (env' := u76) rfl ?_
     refine ZA (fun (b : Nat) => szP c c.length - b) (fun (b : Nat) => [(47, iI (b : Nat))]) (fun (b : Nat) G => (b ≤ szP c c.length) ∧ G = (H ++ [.dead, .cells (((liK (wsP p) c s9 b 0)).map iW) true, .dead, .cells [.slice (some (H.length + 1, 0)) p.who.length p.who.length true 1] true, .cells [.fsl ((wsP p).map iW) p.who.length 1 false] true, kb]) ++ Lp) 0 rfl ?_ ?_
     ·refine ⟨?_, (by rw [liK_0])⟩
      exact Nat.zero_le _
     rintro b _ ⟨hb9, rfl⟩
     refine ZR (env' := u76) rfl ?_
     refine Zd (Za ?_)
     refine Lo u76 (rfl) ?_
     refine Ze (Zc (Zd ?_))
     refine Zk _ rfl (fun hc4 => ?_) (fun hc4 => ?_)
     ·try simp only [qB, qN] at hc4
      refine Zj (Zc (Zd (Zl (Zd (Za ?_)))))
      refine Lo u76 (Zb (.inl rfl) rfl) ?_
      refine Lo u76 (Zb (.inr rfl) rfl) ?_
      refine Ze (Zc (Zd (Za ?_)))
      refine Lo u76 (Zb (.inl rfl) rfl) ?_
      refine Lo u76 (Zb (.inl rfl) rfl) ?_
      refine Zv rfl rfl rfl (by exact MM.Free_spec _ (Z8 (wsP p) c c.length) ((b : Nat) : Int) (by omega)) ?_
      rintro _ _ ⟨rfl, rfl⟩; rw [fv_is (by omega) (by omega)]
      refine Le u76 ?_
      refine Lo u76 (Zb (.inr rfl) rfl) ?_
      refine Ze (Zc (Zd (Za ?_)))
      refine Lo u76 (Zb (.inl rfl) rfl) ?_
      refine Lo u76 (rfl) ?_
      refine Lo u76 (Zg (VVal.int .i64 0) (.inl rfl) rfl) ?_
      refine Ze (Zc (Zl ?_))
      refine Zu (mk 76 75557800464413307698215) (env' := u76) rfl ?_
      refine ZA (fun (k : Nat) => c.length - k) (fun (k : Nat) => [(55, iI (k : Nat))]) (fun (k : Nat) G => (k ≤ c.length) ∧ G = (H ++ [.dead, .cells (((liK (wsP p) c s9 b k)).map iW) true, .dead, .cells [.slice (some (H.length + 1, 0)) p.who.length p.who.length true 1] true, .cells [.fsl ((wsP p).map iW) p.who.length 1 false] true, kb]) ++ Lp) 0 rfl ?_ ?_
      ·refine ⟨?_, rfl⟩
       exact Nat.zero_le _
      rintro k _ ⟨hk9, rfl⟩
      refine ZR (env' := u76) rfl ?_
      refine Zd (Za ?_)
      refine Lo u76 (rfl) ?_
      refine Ze (Zc (Zd ?_))
      refine Zk _ rfl (fun hc5 => ?_) (fun hc5 => ?_)
      ·try simp only [qB, qN] at hc5
       refine Zj (Zc (Zd (Zl (Zd (Za ?_)))))
       refine Lo u76 (Zb (.inl rfl) rfl) ?_
       refine Lo u76 (W18 rfl rfl rfl rfl rfl rfl rfl) ?_
       refine Lo u76 (W4v rfl rfl rfl rfl) ?_
       refine Lo u76 (Zb (.inr rfl) rfl) ?_
       refine Lo u76 (Zb (.inr rfl) rfl) ?_
       refine Ze (Zc (Zd (Za ?_)))
       refine Lo u76 (Zb (.inl rfl) rfl) ?_
       refine Lo u76 (Zb (.inl rfl) rfl) ?_
       refine Lo u76 (rfl) ?_
       refine Ze (Zc ?_)
       refine Zk _ rfl (fun hc6 => ?_) (fun hc6 => ?_)
       ·try simp only [qB, qN] at hc6
        refine Za ?_
        refine Lo u76 (W4z rfl rfl rfl rfl) ?_
        refine Lo u76 (Zb (.inl rfl) rfl) ?_
        refine Lo u76 (W4x rfl rfl rfl rfl rfl rfl rfl) ?_
        refine Lo u76 (W4z rfl rfl rfl rfl) ?_
        refine Lo u76 (Zb (.inl rfl) rfl) ?_
        refine Lo u76 (v_orW rfl rfl rfl) ?_
        refine Lo u76 (W4x rfl rfl rfl rfl rfl rfl rfl) ?_
        refine Lo u76 (W50 rfl rfl rfl rfl rfl rfl rfl) ?_
        refine Ze (Zr (Zc (Za ?_)))
        refine Lo u76 (W14 rfl rfl rfl) ?_
        refine Lo u76 (Zb (.inl rfl) rfl) ?_
        refine Ze ?_
        refine Zs (mk 76 75557800464413307698215) (env' := u76) rfl ⟨k + 1, ?_, rfl, ?_⟩
        ·first | omega | (simp only []; omega)
        ·first | exact ⟨by omega, rfl⟩ | exact ⟨by omega, by rw [liK_same (by omega)]⟩
       ·try simp only [qB, qN] at hc6
        refine Zj (Zr (Zc (Za ?_)))
        refine Lo u76 (W14 rfl rfl rfl) ?_
        refine Lo u76 (Zb (.inl rfl) rfl) ?_
        refine Ze ?_
        refine Zs (mk 76 75557800464413307698215) (env' := u76) rfl ⟨k + 1, ?_, rfl, ?_⟩
        ·first | omega | (simp only []; omega)
        ·first | exact ⟨by omega, rfl⟩ | exact ⟨by omega, by rw [liK_same (by omega)]⟩
      ·try simp only [qB, qN] at hc5
       refine ZH (ZI (Zw (ZG (Zr (Zc (Za ?_))))))
       refine Lo u76 (W14 rfl rfl rfl) ?_
       refine Lo u76 (Zb (.inl rfl) rfl) ?_
       refine Ze ?_
       obtain rfl : k = c.length := by omega
       refine Zs (mk 76 75557863514808090885927) (env' := u76) rfl ⟨b + 1, ?_, rfl, ?_⟩
       ·first | omega | (simp only []; omega)
       ·exact ⟨by omega, by rw [liK_next (by omega)]⟩
     ·try simp only [qB, qN] at hc4
      refine ZH (ZI (Zw (ZG (Zc (Zd ?_)))))
      obtain rfl : b = szP c c.length := by omega
      refine Za ?_
      refine Lo u76 (W4z rfl rfl rfl rfl) ?_
      refine Lo u76 (W4z rfl rfl rfl rfl) ?_
      refine Zv rfl rfl rfl (by exact EqualW_n _ (H.length + 1) _ _ true (liU (wsP p) c s9) (wsP p) (getB rfl rfl) (by omega) (by rw [liU_len]; exact hs9) hwl) ?_
      rintro _ _ ⟨rfl, rfl⟩
      refine Le u76 ?_
      refine Ze (Zc ?_)
      refine Zk _ rfl (fun hc7 => ?_) (fun hc7 => ?_)
      ·try simp only [qB, qN] at hc7
       refine ZH ?_
       refine K_blkO rfl ?_
       refine ⟨⟨liU (wsP p) c s9, by rw [liU_len]; exact hs9⟩, [], (by simp [liU]), .inr ⟨Code.exit 2, rfl, ⟨rfl, ?_⟩⟩⟩
       exact hI9.trans ((liF_hit (by assumption)).trans (show wsP p = liU (wsP p) c s9 from (show liU (wsP p) c s9 = wsP p by assumption).symm))
      ·try simp only [qB, qN] at hc7
       refine Zj (Zr ?_)
       refine ⟨⟨liU (wsP p) c s9, by rw [liU_len]; exact hs9⟩, [], (by simp [liU]), .inl ⟨rfl, ?_⟩⟩
       exact fun z hz9 => by rw [hx, List.append_assoc] at hz9; obtain rfl : post = z := (by simpa using hz9); exact hI9.trans (liF_on (by assumption))
    ·intro s k hk hI J9
     obtain ⟨s9, hs9⟩ := s
     try dsimp only at hI ⊢
     have hE : liF (wsP p) (ptP p) (List.replicate p.who.length 0#64) = s9 := (hI [] (List.append_nil _).symm)
     refine Zr (Zc (Zd ?_))
     have hsl : s9.length = p.who.length := by first | exact hs9 | assumption
     refine B_heap (List.append_assoc _ _ _) ?_
     refine Za ?_
     refine Lo u76 (W51 rfl rfl rfl rfl) ?_
     refine Lo u76 (Zb (.inr rfl) rfl) ?_
     refine Ze (Zc ?_)
     refine Yo (Gh.freezeL (l := s9.map iW) 2 1 rfl rfl (Yn (by simp [hsl])) (Nat.le_refl _) rfl) ?_
     refine Zi ?_
     refine W4t (.inr rfl) (Zh rfl rfl) ?_
     exact W4u
    ·rintro j pre c post s k hk hx (⟨rfl, hE⟩) J9
     obtain ⟨s9, hs9⟩ := s
     try dsimp only
     refine J_exit ?_
     refine ZG (Zc (Zd ?_))
     have hsl : s9.length = p.who.length := by first | exact hs9 | assumption
     refine B_heap (List.append_assoc _ _ _) ?_
     refine Za ?_
     refine Lo u76 (W51 rfl rfl rfl rfl) ?_
     refine Lo u76 (Zb (.inr rfl) rfl) ?_
     refine Ze (Zc ?_)
     refine Yo (Gh.freezeL (l := s9.map iW) 2 1 rfl rfl (Yn (by simp [hsl])) (Nat.le_refl _) rfl) ?_
     refine Zi ?_
     refine W4t (.inr rfl) (Zh rfl rfl) ?_
     exact W4u
abbrev u56 {a0 a1 a2 a3 a4 a5 a6 a7 a8 a9 a10 a11 a12 a13 a14 a15 a16 a17 a18 a19 a20 a21 a22 a23 a24 a25 a26 a27 a28 a29 a30 a31 a32 a33 a34 a35 a36 a37 a38 a39 a40 a41 a42 a43 a44 a45 a46 a47 a48 a49 a50 a51 a52 a53 a54 a55 : VVal} : VEnv := a0 :: a1 :: a2 :: a3 :: a4 :: a5 :: a6 :: a7 :: a8 :: a9 :: a10 :: a11 :: a12 :: a13 :: a14 :: a15 :: a16 :: a17 :: a18 :: a19 :: a20 :: a21 :: a22 :: a23 :: a24 :: a25 :: a26 :: a27 :: a28 :: a29 :: a30 :: a31 :: a32 :: a33 :: a34 :: a35 :: a36 :: a37 :: a38 :: a39 :: a40 :: a41 :: a42 :: a43 :: a44 :: a45 :: a46 :: a47 :: a48 :: a49 :: a50 :: a51 :: a52 :: a53 :: a54 :: a55 :: []
theorem W57 {S : V.Sys} {H : Zf} {fn : Func} {ex : Exit} {env : VEnv} {B L : Zf} {v : VVal} {R : VVal → Zf → Prop} (hx : ex = .normal ∨ ex = .ret) (hv : ZX S.C.T env (B ++ L) fn.results = some v) (h : R v B) (hB : BaseOk H B := by exact XH51) (hu : v.under H.length = true := by first | exact (show ((VVal.agg (pbB z0P)).under H.length && (true && true)) = true by rw [pb_under]; rfl) | exact (show ((VVal.agg (pbB (p.users, p.who, p.fixed.set s.toNat u, p.rules, ()))).under H.length && (true && true)) = true by rw [pb_under]; rfl)) : fnK S fn H R ex env (B ++ L) := Yz hx hv hB hu h
theorem W58 {P : Prop} (h : P := by first | exact ⟨by rw [fxP_ok hE, hE]; show _ = VVal.tuple [.agg [iI p.users, fzW p.who, .fsl ((p.fixed.set s.toNat u).map iI) (p.fixed.set s.toNat u).length 1 false, fzR p.rules], iI 0]; rw [List.length_set]; rfl, rfl⟩ | exact ⟨by have h9 : ¬ fxE p s u = 0 := (fun e => by have := fxE_ok.1 e; omega); rw [fxP_no h9]; unfold fxE; rw [if_neg (fun e => e (by assumption)), if_pos (by omega)]; rfl, rfl⟩ | exact ⟨by have h9 : ¬ fxE p s u = 0 := (fun e => absurd (pck_good.2 (fxE_ok.1 e).1) (by assumption)); rw [fxP_no h9]; unfold fxE; rw [if_pos (by assumption)]; rfl, rfl⟩) : P := h
theorem W59 {T : TypeId → Option VTy} {H : Zf} {op : Op} {ρ : VEnv} {H' : Zf} {t : TypeId} {a : Operand} {i : Nat} {v : VVal} {y : VTy} {b off : Nat} {cs new : List VVal} (ho : op = .store t a (.tmp i)) (hv : ρ[i]? = some v) (ha : ρ.eval a = .ptr (some (b, off))) (hy : T t = some y) (hx : v.cells = some new) (hn : new.length = y.size) (h1 : new.all VVal.one = true) (hb : H[b]? = some (.cells cs true) := by exact ZL rfl (Zx hY)) (hl : off + new.length ≤ cs.length := by show 0 + s.toNat * 1 + 1 ≤ _; rw [List.length_map]; omega) (hH : H.set b (.cells (ZD cs off new) true) = H' := by exact (ZQ rfl).trans (by rw [Yr (ZV hY)])) : vop T ρ.eval H op = some (.skip, H') := Z5 ho hv ha hy hx hn h1 hb hl hH
theorem W5a {T : TypeId → Option VTy} {H : Zf} {op : Op} {ρ : Operand → VVal} {t : TypeId} {a : Operand} {y : VTy} {p : VVal} {n : Nat} {vs : List VVal} (ho : op = .load t a) (ha : ρ a = p) (hy : T t = some y) (hd : Zo y.desc = true) (hn : y.size = n) (h : LdOkA H p n vs := by first | exact .inl ⟨_, _, rfl, XH46⟩ | exact .inr ⟨_, _, _, _, rfl, by exact ZL rfl (List.getElem?_set_self (by simp)), XH46⟩) : vop T ρ H op = some (.agg vs, H) := v_ldA ho ha hy hd hn h
theorem W5b {T : TypeId → Option VTy} {H : Zf} {op : Op} {ρ : VEnv} {H' : Zf} {t : TypeId} {a : Operand} {i : Nat} {v : VVal} {y : VTy} {b off : Nat} {cs new : List VVal} (ho : op = .store t a (.tmp i)) (hv : ρ[i]? = some v) (ha : ρ.eval a = .ptr (some (b, off))) (hy : T t = some y) (hx : v.cells = some new) (hn : new.length = y.size) (h1 : new.all VVal.one = true) (hb : H[b]? = some (.cells cs true) := by exact getB rfl rfl) (hl : off + new.length ≤ cs.length := by exact XH48) (hH : H.set b (.cells (ZD cs off new) true) = H' := by exact setB rfl (show 1 < 2 by decide)) : vop T ρ.eval H op = some (.skip, H') := Z5 ho hv ha hy hx hn h1 hb hl hH
def CpR (H : Zf) (p : Pb) (v : VVal) (G : Zf) : Prop := ∃ Y j, v = .agg [iI p.users, fzW p.who, .slice (some (H.length + j, 0)) p.fixed.length p.fixed.length false 1, fzR p.rules] ∧ G = H ++ Y ∧ Y[j]? = some (.cells (p.fixed.map iI) true)
theorem Twin_spec {x : SW} (H : Zf) (p : Pb) (hp : PbL p) (hne : 0 < p.fixed.length) (hnw : 0 < p.who.length) (hst : ∀ r, r ∈ p.rules → 0 < r.steps.length) : F (psys x) 103 [.agg (pbB p)] H (CpR H p) := by
 have h1 := hp.w; have h2 := hp.f; have h3 := hp.r; have h4 := hp.s
 refine Zq Tryd.func103 rfl u56 rfl ?_
 refine Zd (Za ?_)
 refine Lo u56 (ZK rfl rfl rfl) ?_
 refine Lo u56 (ZT rfl rfl) ?_
 refine Ze (Zc (Zd ?_))
 refine Yo (Gh.freezePtrL (cs := pbB p) 1 0 rfl rfl rfl) ?_
 refine Za ?_
 refine Lo u56 (rfl) ?_
 refine Lo u56 (W2r rfl rfl rfl rfl) ?_
 refine Lo u56 (rfl) ?_
 refine Lo u56 (ZT rfl rfl) ?_
 refine Lo u56 (W13 rfl rfl rfl rfl rfl rfl rfl) ?_
 refine Ze (Zc (Zd (Za ?_)))
 refine Lo u56 (rfl) ?_
 refine Lo u56 (W2r rfl rfl rfl rfl) ?_
 refine Lo u56 (rfl) ?_
 refine Lo u56 (W2r rfl rfl rfl rfl) ?_
 refine Lo u56 (v_appNF rfl rfl rfl rfl rfl rfl rfl XH27 (mapW_one _) (by decide) hnw (by show p.who.length * 8 ≤ _ ∧ _; omega)) ?_
 refine Lo u56 (rfl) ?_
 refine Lo u56 (W13 rfl rfl rfl rfl rfl rfl rfl) ?_
 refine Ze (Zc (Zd ?_))
 refine Yo (Gh.cellL (l := p.who.map iW) 2 1 3 rfl rfl (by decide) rfl wApp_c (Nat.le_refl _)) ?_
 refine Za ?_
 refine Lo u56 (rfl) ?_
 refine Lo u56 (W2r rfl rfl rfl rfl) ?_
 refine Lo u56 (rfl) ?_
 refine Lo u56 (W2r rfl rfl rfl rfl) ?_
 refine Lo u56 (v_appNF rfl rfl rfl rfl rfl rfl rfl XH27 (mapI_one _) (by decide) hne (by show p.fixed.length * 8 ≤ _ ∧ _; omega)) ?_
 refine Lo u56 (rfl) ?_
 refine Lo u56 (W13 rfl rfl rfl rfl rfl rfl rfl) ?_
 refine Ze (Zc (Zd (Zd (Za ?_))))
 refine Lo u56 (Zg (VVal.int .i64 0) (.inr rfl) rfl) ?_
 refine Ze (Zc (Zl ?_))
 refine Zu (mk 56 72057594037927905) (env' := u56) rfl ?_
 refine ZA (fun (k : Nat) => p.rules.length - k) (fun (k : Nat) => [(4, iI (k : Nat))]) (fun (k : Nat) G => (k ≤ p.rules.length) ∧ ∃ lv X, G = (H ++ [.dead, pqB 0 YK YK YK, .cells [iI p.users, fzW p.who, .slice (some (H.length + 4, 0)) p.fixed.length p.fixed.length false 1, lv] true, .dead, .cells (p.fixed.map iI) true]) ++ X ∧ LV (H.length + 5) 3 X lv ((p.rules.take k).flatMap rlB) (p.rules.take k).length) 0 rfl ?_ ?_
 ·refine ⟨?_, ⟨_, [], by rw [List.append_nil]; rfl, LV.nil _ _ _⟩⟩
  exact Nat.zero_le _
 rintro k _ ⟨hk, ⟨lv, X, rfl, hl⟩⟩
 refine ZR (env' := u56) rfl ?_
 refine Zd (Zd (Za ?_))
 refine Lo u56 (Zb (.inl rfl) rfl) ?_
 refine Lo u56 (rfl) ?_
 refine Lo u56 (W2r rfl rfl rfl rfl) ?_
 refine Lo u56 (rfl) ?_
 refine Lo u56 (rfl) ?_
 refine Ze (Zc ?_)
 refine Zk _ rfl (fun hc1 => ?_) (fun hc1 => ?_)
 ·try simp only [qB, qN] at hc1
  refine Zj (Zc (Zd (Zl (Zd (Za ?_)))))
  refine Lo u56 (Zg (VVal.slice none 0 0 true 0) (.inr rfl) rfl) ?_
  refine Ze (Zc (Zd ?_))
  have hr1 := rul_mem (l := p.rules) (k := k) (by omega)
  have hs1 := h4 _ hr1
  have hs2 := hst _ hr1
  refine Za ?_
  refine Lo u56 (Zb (.inl rfl) rfl) ?_
  refine Lo u56 (rfl) ?_
  refine Lo u56 (W2r rfl rfl rfl rfl) ?_
  refine Lo u56 (Zb (.inl rfl) rfl) ?_
  refine Lo u56 (W18 rfl rfl rfl rfl rfl rfl rfl) ?_
  refine Lo u56 (rfl) ?_
  refine Lo u56 (W2r rfl rfl rfl rfl) ?_
  refine Lo u56 (v_appNF rfl rfl rfl rfl rfl rfl rfl XH27 (mapI_one _) (by decide) hs2 (by show (p.rules.getD k r0).steps.length * 8 ≤ _ ∧ _; omega)) ?_
  refine Lo u56 (Zb (.inr rfl) rfl) ?_
  refine Ze (Zc ?_)
  refine Yo (Gh.freezeL (l := (p.rules.getD k r0).steps.map iI) 5 X.length rfl get_end map_all (Nat.le_refl _) rfl) ?_
  rw [set_end]
  refine ZS [0, 1, 2, 3, 4, 5, 6, 7, 8, 9, 10, 11, 12, 13, 14, 15, 16, 17, 18, 19] #[0, 1, 0, 4, 0, 28, 60, 124, 0, 256, 0, 1792, 3840, 7936, 0, 32764, 65532, 131071, 262143, 524287] XH5 XH5 XH5 ?_
  refine Oo u56 .calm rfl (rfl) ?_
  refine Oo u56 .look rfl (W2r rfl rfl rfl rfl) ?_
  refine Oo u56 .calm rfl (rfl) ?_
  refine Oo u56 .look rfl (W2r rfl rfl rfl rfl) ?_
  refine Oo u56 .calm rfl (Zb (.inl rfl) rfl) ?_
  refine Oo u56 .calm rfl (W18 rfl rfl rfl rfl rfl rfl rfl) ?_
  refine Oo u56 .calm rfl (rfl) ?_
  refine Oo u56 .look rfl (W2r rfl rfl rfl rfl) ?_
  refine Oo u56 .calm rfl (rfl) ?_
  refine Oo u56 .look rfl (W2r rfl rfl rfl rfl) ?_
  refine Oo u56 .calm rfl (Zb (.inl rfl) rfl) ?_
  refine Oo u56 .calm rfl (W18 rfl rfl rfl rfl rfl rfl rfl) ?_
  refine Oo u56 .calm rfl (rfl) ?_
  refine Oo u56 .look rfl (W2r rfl rfl rfl rfl) ?_
  refine Oo u56 .calm rfl (Zb (.inl rfl) rfl) ?_
  refine Oo u56 .calm rfl (rfl) ?_
  refine Oo u56 .grow rfl (ZJ rfl rfl (by decide) rfl) ?_
  refine O_opX .turn rfl rfl rfl (v_appXh rfl rfl rfl rfl rfl rfl rfl (by simp) (hl.app _) rfl rfl (by decide) (by rw [List.length_take]; show (_ + 1) * 40 ≤ _ ∧ _ + 1 ≤ _; omega) (by decide)) rfl rfl ?_
  rintro _ _ ⟨Y1, rfl, rfl, hY1, hY2, hY3⟩
  refine O_env (env' := u56) rfl ?_
  refine Oo u56 .calm rfl (rfl) ?_
  refine Oo u56 .turn rfl (W13 rfl rfl rfl rfl rfl rfl rfl) ?_
  refine ZY [] XH5 (trivial) ?_
  refine Zr (Zc (Za ?_))
  refine Lo u56 (Zb (.inl rfl) rfl) ?_
  refine Lo u56 (W14 rfl rfl rfl) ?_
  refine Lo u56 (Zb (.inr rfl) rfl) ?_
  refine Ze ?_
  refine Zs (mk 56 72057594037927905) (env' := u56) rfl ⟨k + 1, ?_, rfl, ?_⟩
  ·first | omega | (simp only []; omega)
  ·exact ⟨by omega, _, _, rfl, by rw [Yh (d := r0) (by omega)]; exact LV.pushF hY3⟩
 ·try simp only [qB, qN] at hc1
  refine ZH (ZI (Zw (ZG (Zc (Zd ?_)))))
  obtain rfl : k = p.rules.length := by omega
  rw [List.take_length] at hl
  refine B_ghCell 2 3 hl rfl rfl (by simp) fun X5 _ _ => ?_
  refine B_heap (List.append_assoc _ _ _) ?_
  refine Za ?_
  refine Lo u56 (W2p rfl rfl rfl rfl rfl) ?_
  refine Lo u56 (W13 rfl rfl rfl rfl rfl rfl rfl) ?_
  refine Ze (Zc (Zi ?_))
  refine E_keep (.inr rfl) (YT rfl rfl rfl rfl XH0 XH8) ?_
  exact ⟨_, 4, rfl, rfl, rfl⟩
def z0P : Pb := (0, [], [], [], ())
def fxE (p : Pb) (s u : Int) : Int := if pck p ≠ 0 then pck p else if s < 0 ∨ (p.who.length : Int) ≤ s ∨ u < 0 ∨ p.users ≤ u then 1 else 0
def fxP (p : Pb) (s u : Int) : Pb := if fxE p s u = 0 then (p.users, p.who, p.fixed.set s.toNat u, p.rules, ()) else z0P
theorem fxE_ok {p : Pb} {s u : Int} : fxE p s u = 0 ↔ Go.V.Good p ∧ (0 ≤ s ∧ s < p.who.length) ∧ 0 ≤ u ∧ u < p.users := by
  unfold fxE
  constructor
  · intro h
    split at h
    · rename_i h1; exact absurd h h1
    · rename_i h1
      split at h
      · cases h
      · exact ⟨pck_good.1 (Decidable.of_not_not h1), by omega, by omega⟩
  · rintro ⟨g, h1, h2⟩
    rw [if_neg (fun e => e (pck_good.2 g)), if_neg (by omega)]
theorem fxP_ok {p : Pb} {s u : Int} (h : fxE p s u = 0) : fxP p s u = (p.users, p.who, p.fixed.set s.toNat u, p.rules, ()) := if_pos h
theorem fxP_no {p : Pb} {s u : Int} (h : ¬ fxE p s u = 0) : fxP p s u = z0P := if_neg h
theorem spl_I {l : List Int} {k : Nat} {w : Int} (h : k < l.length) : ZD (l.map iI) (0 + k * 1) [iI w] = (l.set k w).map iI := by
  rw [show 0 + k * 1 = k by omega]
  unfold ZD
  rw [List.map_set, List.set_eq_take_append_cons_drop, if_pos XH36]; simp
theorem fFix_spec {x : SW} (H : Zf) (p : Pb) (s u : Int) (hp : PbL p) : F (psys x) 63 [.agg (pbB p), iI s, iI u] H fun v G => v = .tuple [.agg (pbB (fxP p s u)), iI (fxE p s u)] ∧ G = H := by
 refine Zq Tryd.func63 rfl u44 rfl ?_
 refine Zd (Za ?_)
 refine Lo u44 (ZK rfl rfl rfl) ?_
 refine Lo u44 (ZT rfl rfl) ?_
 refine Lo u44 (Zg (VVal.int .i64 0) (.inr rfl) rfl) ?_
 refine Ze (Zc (Zd ?_))
 refine Yo (Gh.freezePtrL (cs := pbB p) 3 0 rfl rfl rfl) ?_
 refine Za ?_
 refine Lo u44 (W2p rfl rfl rfl rfl rfl) ?_
 refine Zv rfl rfl rfl (by exact fpCheck_spec _ _ hp) ?_
 rintro _ _ ⟨rfl, rfl⟩
 refine Le u44 ?_
 refine Lo u44 (Zb (.inr rfl) rfl) ?_
 refine Ze (Zc (Zd (Zd (Za ?_))))
 refine Lo u44 (Zb (.inl rfl) rfl) ?_
 refine Lo u44 (rfl) ?_
 refine Ze (Zc ?_)
 refine Zk _ rfl (fun hc1 => ?_) (fun hc1 => ?_)
 ·try simp only [qB, qN] at hc1
  refine Zd (Za ?_)
  refine Lo u44 (rfl) ?_
  refine Lo u44 (Zb (.inl rfl) rfl) ?_
  refine Lo u44 (W13 rfl rfl rfl rfl rfl rfl rfl) ?_
  refine Lo u44 (Zb (.inr rfl) rfl) ?_
  refine Ze (Zc ?_)
  refine Yo (Gh.cellNilL 1 1 (es' := 1) rfl rfl) ?_
  refine Yo (Gh.cellNilL 1 2 (es' := 1) rfl rfl) ?_
  refine Yo (Gh.cellNilL 1 3 (es' := 3) rfl rfl) ?_
  refine Zi (Zm ?_)
  refine W57 (.inr rfl) (vres_cAt rfl rfl rfl rfl XH25 XH8 rfl) ?_
  exact W58
 ·try simp only [qB, qN] at hc1
  refine Zj (Zc (Zd (Zd (Za ?_))))
  refine Lo u44 (Zb (.inl rfl) rfl) ?_
  refine Lo u44 (rfl) ?_
  refine Lo u44 (Zb (.inl rfl) rfl) ?_
  refine Zy 18 (env1 := u44) (env2 := u44) rfl rfl rfl (fun hg2 => ?_) (fun hg2 => ?_)
  ·try simp only [qB, qN] at hg2
   refine Lf u44 ?_
   refine Lf u44 ?_
   refine Lf u44 ?_
   refine Lf u44 ?_
   refine Lf u44 ?_
   refine Lo u44 (ZF (VVal.bool true) rfl rfl rfl) ?_
   refine Lo u44 (Zb (.inl rfl) rfl) ?_
   refine Lf u44 ?_
   refine Lf u44 ?_
   refine Lo u44 (ZF (VVal.bool true) rfl rfl rfl) ?_
   refine Lo u44 (Zb (.inl rfl) rfl) ?_
   refine Lf u44 ?_
   refine Lf u44 ?_
   refine Lf u44 ?_
   refine Lf u44 ?_
   refine Lo u44 (ZF (VVal.bool true) rfl rfl rfl) ?_
   refine Ze (Zc ?_)
   refine ZM rfl rfl ?_
   refine Zd (Za ?_)
   refine Lo u44 (rfl) ?_
   refine Lo u44 (W13 rfl rfl rfl rfl rfl rfl rfl) ?_
   refine Lo u44 (Zg (VVal.int .i64 1) (.inr rfl) rfl) ?_
   refine Ze (Zc ?_)
   refine Yo (Gh.cellNilL 1 1 (es' := 1) rfl rfl) ?_
   refine Yo (Gh.cellNilL 1 2 (es' := 1) rfl rfl) ?_
   refine Yo (Gh.cellNilL 1 3 (es' := 3) rfl rfl) ?_
   refine Zi (Zm ?_)
   refine W57 (.inr rfl) (vres_cAt rfl rfl rfl rfl XH25 XH8 rfl) ?_
   exact W58
  ·try simp only [qB, qN] at hg2
   refine Lo u44 (Zb (.inl rfl) rfl) ?_
   refine Lo u44 (rfl) ?_
   refine Lo u44 (W2r rfl rfl rfl rfl) ?_
   refine Lo u44 (rfl) ?_
   refine Lo u44 (rfl) ?_
   refine Lo u44 (ZW rfl rfl rfl) ?_
   refine Lo u44 (Zb (.inl rfl) rfl) ?_
   refine Zy 25 (env1 := u44) (env2 := u44) rfl rfl rfl (fun hg3 => ?_) (fun hg3 => ?_)
   ·try simp only [qB, qN] at hg3
    refine Lf u44 ?_
    refine Lf u44 ?_
    refine Lo u44 (ZF (VVal.bool true) rfl rfl rfl) ?_
    refine Lo u44 (Zb (.inl rfl) rfl) ?_
    refine Lf u44 ?_
    refine Lf u44 ?_
    refine Lf u44 ?_
    refine Lf u44 ?_
    refine Lo u44 (ZF (VVal.bool true) rfl rfl rfl) ?_
    refine Ze (Zc ?_)
    refine ZM rfl rfl ?_
    refine Zd (Za ?_)
    refine Lo u44 (rfl) ?_
    refine Lo u44 (W13 rfl rfl rfl rfl rfl rfl rfl) ?_
    refine Lo u44 (Zg (VVal.int .i64 1) (.inr rfl) rfl) ?_
    refine Ze (Zc ?_)
    refine Yo (Gh.cellNilL 1 1 (es' := 1) rfl rfl) ?_
    refine Yo (Gh.cellNilL 1 2 (es' := 1) rfl rfl) ?_
    refine Yo (Gh.cellNilL 1 3 (es' := 3) rfl rfl) ?_
    refine Zi (Zm ?_)
    refine W57 (.inr rfl) (vres_cAt rfl rfl rfl rfl XH25 XH8 rfl) ?_
    exact W58
   ·try simp only [qB, qN] at hg3
    refine Lo u44 (Zb (.inl rfl) rfl) ?_
    refine Lo u44 (rfl) ?_
    refine Lo u44 (ZW rfl rfl rfl) ?_
    refine Lo u44 (Zb (.inl rfl) rfl) ?_
    refine Zy 29 (env1 := u44) (env2 := u44) rfl rfl rfl (fun hg4 => ?_) (fun hg4 => ?_)
    ·try simp only [qB, qN] at hg4
     refine Lf u44 ?_
     refine Lf u44 ?_
     refine Lf u44 ?_
     refine Lf u44 ?_
     refine Lo u44 (ZF (VVal.bool true) rfl rfl rfl) ?_
     refine Ze (Zc ?_)
     refine ZM rfl rfl ?_
     refine Zd (Za ?_)
     refine Lo u44 (rfl) ?_
     refine Lo u44 (W13 rfl rfl rfl rfl rfl rfl rfl) ?_
     refine Lo u44 (Zg (VVal.int .i64 1) (.inr rfl) rfl) ?_
     refine Ze (Zc ?_)
     refine Yo (Gh.cellNilL 1 1 (es' := 1) rfl rfl) ?_
     refine Yo (Gh.cellNilL 1 2 (es' := 1) rfl rfl) ?_
     refine Yo (Gh.cellNilL 1 3 (es' := 3) rfl rfl) ?_
     refine Zi (Zm ?_)
     refine W57 (.inr rfl) (vres_cAt rfl rfl rfl rfl XH25 XH8 rfl) ?_
     exact W58
    ·try simp only [qB, qN] at hg4
     refine Lo u44 (Zb (.inl rfl) rfl) ?_
     refine Lo u44 (rfl) ?_
     refine Lo u44 (W2r rfl rfl rfl rfl) ?_
     refine Lo u44 (rfl) ?_
     refine Lo u44 (ZW rfl rfl rfl) ?_
     refine Ze (Zc ?_)
     refine Zk _ rfl (fun hc5 => ?_) (fun hc5 => ?_)
     ·try simp only [qB, qN] at hc5
      refine Zd (Za ?_)
      refine Lo u44 (rfl) ?_
      refine Lo u44 (W13 rfl rfl rfl rfl rfl rfl rfl) ?_
      refine Lo u44 (Zg (VVal.int .i64 1) (.inr rfl) rfl) ?_
      refine Ze (Zc ?_)
      refine Yo (Gh.cellNilL 1 1 (es' := 1) rfl rfl) ?_
      refine Yo (Gh.cellNilL 1 2 (es' := 1) rfl rfl) ?_
      refine Yo (Gh.cellNilL 1 3 (es' := 3) rfl rfl) ?_
      refine Zi (Zm ?_)
      refine W57 (.inr rfl) (vres_cAt rfl rfl rfl rfl XH25 XH8 rfl) ?_
      exact W58
     ·try simp only [qB, qN] at hc5
      refine Zj (Zc (Zd ?_))
      have hE : fxE p s u = 0 := fxE_ok.2 ⟨pck_good.1 (by assumption), by omega, by omega⟩
      have g := (fxE_ok.1 hE).1
      have g5 := g.fx
      have hs9 := (fxE_ok.1 hE).2.1
      refine Za ?_
      refine Lo u44 (W2p rfl rfl rfl rfl rfl) ?_
      refine Zv rfl rfl rfl (by exact Twin_spec _ p hp (by omega) (by omega) (fun r hr => List.length_pos_iff.2 (rck_steps (g.ru r hr)).1)) ?_
      rintro _ _ ⟨Y, j, rfl, rfl, hY⟩
      refine Le u44 ?_
      refine Lo u44 (ZT rfl rfl) ?_
      refine Lo u44 (W13 rfl rfl rfl rfl rfl rfl rfl) ?_
      refine Ze (Zc (Zd (Za ?_)))
      refine Lo u44 (rfl) ?_
      refine Lo u44 (W2r rfl rfl rfl rfl) ?_
      refine Lo u44 (Zb (.inl rfl) rfl) ?_
      refine Lo u44 (Zb (.inl rfl) rfl) ?_
      refine Lo u44 (W18 rfl rfl rfl rfl rfl rfl rfl) ?_
      refine Lo u44 (W59 rfl rfl rfl rfl rfl rfl rfl) ?_
      refine Ze (Zc (Zd ?_))
      have hj := ZV hY
      refine Yo (Gh.cellL (H := H ++ [.dead, .cells _ true]) (cs := (p.fixed.set s.toNat u).map iI) (l := (p.fixed.set s.toNat u).map iI) Y.length 2 j (by rw [List.getElem?_append_right (by rw [List.length_set]; exact Nat.le_refl _), List.length_set, Nat.sub_self]; rfl) rfl (by omega) (by rw [Zx (List.getElem?_set_self hj)]; show some (VBlk.cells (ZD (p.fixed.map iI) (0 + s.toNat * 1) [iI u]) true) = _; rw [spl_I (by omega)]) (Yn (by rw [List.length_map, List.length_set])) (Nat.le_refl _)) ?_
      refine Za ?_
      refine Lo u44 (W5a rfl rfl rfl rfl rfl) ?_
      refine Lo u44 (W5b rfl rfl rfl rfl rfl rfl rfl) ?_
      refine Lo u44 (Zg (VVal.int .i64 0) (.inr rfl) rfl) ?_
      refine Ze (Zc ?_)
      refine B_heap (List.append_assoc _ _ _) ?_
      refine Zi ?_
      refine W57 (.inr rfl) (vres_cAt rfl rfl rfl rfl XH25 XH8 rfl) ?_
      exact W58
theorem fx_good {q : Pb} {s u : Int} (h : fxE q s u = 0) : Go.V.Good (fxP q s u) := by
  obtain ⟨g, h1, h2⟩ := fxE_ok.1 h
  rw [fxP_ok h]
  have g5 := g.fx
  refine ⟨g.n12, g.u64, g.r32, g.u0, ?_, fun i hi => ?_, g.ru⟩
  · show (q.fixed.set _ _).length = _; rw [List.length_set]; exact g5
  · show okW q.users ((q.fixed.set s.toNat u).getD i 0) (q.who.getD i 0) = true
    have hi : i < q.who.length := hi
    have ok := okW_in g hi
    unfold okW
    rw [YI, Bool.and_eq_true, decide_eq_true_eq, decide_eq_true_eq]
    refine ⟨?_, ok.2⟩
    split
    · omega
    · exact ok.1
theorem fx_hds {q : Pb} {s u : Int} (h : fxE q s u = 0) (hm : myB q s.toNat u = true) {us : List Int} (hd : hds (fxP q s u) us = true) : hds q us = true ∧ us.getD s.toNat 0 = u := by
  obtain ⟨g, h1, h2⟩ := fxE_ok.1 h
  have gx := fx_good h
  have g5 := g.fx
  obtain ⟨_, hl, h3, h4⟩ := hds_iff.1 hd
  have ex := fxP_ok h
  rw [ex] at hl h3 h4 gx
  have hl : us.length = q.who.length := hl
  have hs : s.toNat < q.who.length := by omega
  have hfx : ∀ i, i < q.who.length → i ≠ s.toNat → myB q i (us.getD i 0) = true := fun i hi hne => by
    have h5 := h3 i hi
    have hw : wrd (q.users, q.who, q.fixed.set s.toNat u, q.rules, ()) i = wrd q i := by
      have hg : (q.fixed.set s.toNat u).getD i 0 = q.fixed.getD i 0 := by rw [YI, if_neg (fun e : i = s.toNat ∧ _ => hne e.1)]
      show (if 0 ≤ (q.fixed.set s.toNat u).getD i 0 then 1#64 <<< ((q.fixed.set s.toNat u).getD i 0).toNat else q.who.getD i 0) = _
      rw [hg]; rfl
    unfold myB at h5 ⊢
    rw [hw] at h5; exact h5
  have hus : us.getD s.toNat 0 = u := by
    have h5 := h3 s.toNat hs
    rw [myB_f gx hs (by show 0 ≤ (q.fixed.set s.toNat u).getD s.toNat 0; rw [YI, if_pos ⟨rfl, by omega⟩]; omega), decide_eq_true_eq] at h5
    have h6 : us.getD s.toNat 0 = (q.fixed.set s.toNat u).getD s.toNat 0 := h5
    rw [h6, YI, if_pos ⟨rfl, by omega⟩]
  refine ⟨hds_iff.2 ⟨g, hl, fun i hi => ?_, h4⟩, hus⟩
  by_cases e : i = s.toNat
  · subst e; rw [hus]; exact hm
  · exact hfx i hi e
theorem fxP_L {p : Pb} {s u : Int} (h : PbL p) : PbL (fxP p s u) := by
  by_cases e : fxE p s u = 0
  · rw [fxP_ok e]
    exact ⟨h.u, h.w, by show (p.fixed.set _ _).length ≤ _; rw [List.length_set]; exact h.f, h.r, h.s⟩
  · rw [fxP_no e]; exact ⟨by decide, by decide, by decide, by decide, fun r hr => by cases hr⟩
abbrev seB (w : BitVec 64) : VBlk := .cells [iW w] true
abbrev jN (u : Nat) : VVal := iI (u : Nat)
theorem Yp {b : Bool} (h : b = false) : ¬ b = true := by rw [h]; decide
theorem beq_nat {a b : Nat} : ((a : Int) == (b : Int)) = (a == b) := Bool.eq_iff_iff.2 (by rw [beq_iff_eq, beq_iff_eq]; omega)
theorem find_no' {pre : List Nat} {f : Nat → Bool} (h : ∀ v, v ∈ pre → f v = false) : pre.find? f = none := List.find?_eq_none.2 fun v hv => by rw [h v hv]; decide
theorem find_yes {pre post : List Nat} {c : Nat} {f : Nat → Bool} (h : ∀ v, v ∈ pre → f v = false) (hc : f c = true) : (pre ++ c :: post).find? f = some c := by
  rw [List.find?_append, find_no' h, List.find?_cons, hc]; rfl
theorem full0 {l : List (BitVec 64)} : Yj l 0#64 = true ↔ Mat l := by rw [fullB_iff, msk_0]
def szV (l : List (BitVec 64)) : Int := if l.length ≤ 12 then (szN l : Nat) else 0
def leV (rows : List (BitVec 64)) : VVal := if rows.length ≤ 12 ∧ Yj rows 0#64 = true then .tuple [fzN (lst rows 0#64), .bool true] else .tuple [fzN [], .bool false]
abbrev u38 {a0 a1 a2 a3 a4 a5 a6 a7 a8 a9 a10 a11 a12 a13 a14 a15 a16 a17 a18 a19 a20 a21 a22 a23 a24 a25 a26 a27 a28 a29 a30 a31 a32 a33 a34 a35 a36 a37 : VVal} : VEnv := a0 :: a1 :: a2 :: a3 :: a4 :: a5 :: a6 :: a7 :: a8 :: a9 :: a10 :: a11 :: a12 :: a13 :: a14 :: a15 :: a16 :: a17 :: a18 :: a19 :: a20 :: a21 :: a22 :: a23 :: a24 :: a25 :: a26 :: a27 :: a28 :: a29 :: a30 :: a31 :: a32 :: a33 :: a34 :: a35 :: a36 :: a37 :: []
abbrev u39 {a0 a1 a2 a3 a4 a5 a6 a7 a8 a9 a10 a11 a12 a13 a14 a15 a16 a17 a18 a19 a20 a21 a22 a23 a24 a25 a26 a27 a28 a29 a30 a31 a32 a33 a34 a35 a36 a37 a38 : VVal} : VEnv := a0 :: a1 :: a2 :: a3 :: a4 :: a5 :: a6 :: a7 :: a8 :: a9 :: a10 :: a11 :: a12 :: a13 :: a14 :: a15 :: a16 :: a17 :: a18 :: a19 :: a20 :: a21 :: a22 :: a23 :: a24 :: a25 :: a26 :: a27 :: a28 :: a29 :: a30 :: a31 :: a32 :: a33 :: a34 :: a35 :: a36 :: a37 :: a38 :: []
theorem W5f {P : Prop} (h : P := by first | exact ⟨by rw [myB_f g hi (by assumption), beq_d], rfl⟩ | exact ⟨by rw [myB_w g hi (by omega), decide_eq_false (by omega)]; rfl, rfl⟩ | exact ⟨by rw [myB_w g hi (by omega), decide_eq_true (by omega), Bool.true_and]; exact congrArg VVal.bool bit_eq, rfl⟩) : P := h
theorem W5g {P : Prop} (h : P := by first | exact ⟨rfl, rfl⟩ | (exfalso; omega)) : P := h
theorem W5h {T : TypeId → Option VTy} {H : Zf} {op : Op} {ρ : Operand → VVal} {t : TypeId} {a : Operand} {y : VTy} {p v : VVal} (ho : op = .load t a) (ha : ρ a = p) (hy : T t = some y) (hd : Zo y.desc = false) (h : LdOk H p v := by exact XH56) : vop T ρ H op = some (v, H) := v_ld ho ha hy hd h
theorem May_spec {x : SW} (H : Zf) (p : Pb) (g : Go.V.Good p) (i : Nat) (hi : i < p.who.length) (u : Int) : F (psys x) 43 [.agg (pbB p), iI (i : Nat), iI u] H fun v G => v = .bool (myB p i u) ∧ G = H := by
 have g5 := g.fx
 refine Zq Tryd.func43 rfl u39 rfl ?_
 refine Zd (Za ?_)
 refine Lo u39 (ZK rfl rfl rfl) ?_
 refine Lo u39 (Zg (VVal.bool false) (.inr rfl) rfl) ?_
 refine Ze (Zc (Zd (Zd (Za ?_))))
 refine Lo u39 (rfl) ?_
 refine Lo u39 (W2r rfl rfl rfl rfl) ?_
 refine Lo u39 (Zb (.inl rfl) rfl) ?_
 refine Lo u39 (W18 rfl rfl rfl rfl rfl rfl rfl) ?_
 refine Lo u39 (W2r rfl rfl rfl rfl) ?_
 refine Lo u39 (rfl) ?_
 refine Ze (Zc ?_)
 refine Zk _ rfl (fun hc1 => ?_) (fun hc1 => ?_)
 ·try simp only [qB, qN] at hc1
  refine Zd (Za ?_)
  refine Lo u39 (Zb (.inl rfl) rfl) ?_
  refine Lo u39 (rfl) ?_
  refine Lo u39 (W2r rfl rfl rfl rfl) ?_
  refine Lo u39 (Zb (.inl rfl) rfl) ?_
  refine Lo u39 (W18 rfl rfl rfl rfl rfl rfl rfl) ?_
  refine Lo u39 (W2r rfl rfl rfl rfl) ?_
  refine Lo u39 (rfl) ?_
  refine Lo u39 (Zb (.inr rfl) rfl) ?_
  refine Ze (Zc (Zi (Zm ?_)))
  refine W10 (.inr rfl) (Zh rfl rfl) ?_
  exact W5f
 ·try simp only [qB, qN] at hc1
  refine Zj (Zc (Zd (Za ?_)))
  refine Lo u39 (Zb (.inl rfl) rfl) ?_
  refine Lo u39 (rfl) ?_
  refine Lo u39 (Zb (.inl rfl) rfl) ?_
  refine Zy 22 (env1 := u39) (env2 := u39) rfl rfl rfl (fun hg2 => ?_) (fun hg2 => ?_)
  ·try simp only [qB, qN] at hg2
   refine Lo u39 (Zb (.inl rfl) rfl) ?_
   refine Lo u39 (rfl) ?_
   refine Lo u39 (W2r rfl rfl rfl rfl) ?_
   refine Lo u39 (rfl) ?_
   refine Lo u39 (ZP rfl rfl rfl) ?_
   refine Lo u39 (Zb (.inl rfl) rfl) ?_
   refine Zy 28 (env1 := u39) (env2 := u39) rfl rfl rfl (fun hg3 => ?_) (fun hg3 => ?_)
   ·try simp only [qB, qN] at hg3
    refine Lo u39 (rfl) ?_
    refine Lo u39 (W2r rfl rfl rfl rfl) ?_
    refine Lo u39 (Zb (.inl rfl) rfl) ?_
    refine Lo u39 (W18 rfl rfl rfl rfl rfl rfl rfl) ?_
    refine Lo u39 (W2r rfl rfl rfl rfl) ?_
    refine Lo u39 (Zb (.inl rfl) rfl) ?_
    refine Lo u39 (v_shrW rfl rfl rfl XH1) ?_
    refine Lo u39 (v_andW (b := 1#64) rfl rfl rfl) ?_
    refine Lo u39 (rfl) ?_
    refine Lo u39 (ZP rfl rfl rfl) ?_
    refine Lo u39 (Zb (.inr rfl) rfl) ?_
    refine Ze (Zc (Zi ?_))
    refine W10 (.inr rfl) (Zh rfl rfl) ?_
    exact W5f
   ·try simp only [qB, qN] at hg3
    refine Lf u39 ?_
    refine Lf u39 ?_
    refine Lf u39 ?_
    refine Lf u39 ?_
    refine Lf u39 ?_
    refine Lf u39 ?_
    refine Lf u39 ?_
    refine Lf u39 ?_
    refine Lf u39 ?_
    refine Lo u39 (ZB (VVal.bool false) rfl rfl rfl) ?_
    refine Lo u39 (Zb (.inr rfl) rfl) ?_
    refine Ze (Zc (Zi ?_))
    refine W10 (.inr rfl) (Zh rfl rfl) ?_
    exact W5f
  ·try simp only [qB, qN] at hg2
   refine Lf u39 ?_
   refine Lf u39 ?_
   refine Lf u39 ?_
   refine Lf u39 ?_
   refine Lo u39 (ZB (VVal.bool false) rfl rfl rfl) ?_
   refine Lo u39 (Zb (.inl rfl) rfl) ?_
   refine Lf u39 ?_
   refine Lf u39 ?_
   refine Lf u39 ?_
   refine Lf u39 ?_
   refine Lf u39 ?_
   refine Lf u39 ?_
   refine Lf u39 ?_
   refine Lf u39 ?_
   refine Lf u39 ?_
   refine Lo u39 (ZB (VVal.bool false) rfl rfl rfl) ?_
   refine Lo u39 (Zb (.inr rfl) rfl) ?_
   refine Ze (Zc (Zi ?_))
   refine W10 (.inr rfl) (Zh rfl rfl) ?_
   exact W5f
theorem szP_succ {a : List Nat} {k : Nat} : szP a (k + 1) = if a.getD k 0 = szP a k then szP a k + 1 else szP a k := rfl
theorem Legal_spec {x : SW} (H : Zf) (a : List Nat) (ha : Pat a) (hl : a.length ≤ 12) : F (psys x) 126 [fzN a] H fun v G => v = .bool true ∧ G = H := by
 refine Zq Tryd.func126 rfl u38 rfl ?_
 refine Zd (Za ?_)
 refine Lo u38 (Zg (VVal.bool false) (.inr rfl) rfl) ?_
 refine Ze (Zc (Zd (Zd (Za ?_))))
 refine Lo u38 (Zb (.inl rfl) rfl) ?_
 refine Lo u38 (rfl) ?_
 refine Lo u38 (rfl) ?_
 refine Ze (Zc ?_)
 refine Zk _ rfl (fun hc1 => ?_) (fun hc1 => ?_)
 ·try simp only [qB, qN] at hc1
  refine Zd (Za ?_)
  refine Lo u38 (Zg (VVal.bool false) (.inr rfl) rfl) ?_
  refine Ze (Zc (Zi (Zm ?_)))
  refine W10 (.inr rfl) (Zh rfl rfl) ?_
  exact W5g
 ·try simp only [qB, qN] at hc1
  refine Zj (Zc (Zd (Za ?_)))
  refine Lo u38 (Zg (VVal.int .i64 (-1)) (.inr rfl) rfl) ?_
  refine Ze (Zc (Zd (Zd (Za ?_))))
  refine Lo u38 (Zg (VVal.int .i64 0) (.inr rfl) rfl) ?_
  refine Ze (Zc (Zl ?_))
  refine Zu (mk 38 274877906918) (env' := u38) rfl ?_
  refine ZA (fun (k : Nat) => a.length - k) (fun (k : Nat) => [(3, iI (((szP a k : Nat) : Int) - 1)), (4, iI (k : Nat))]) (fun (k : Nat) G => (k ≤ a.length) ∧ G = H ++ []) 0 rfl ?_ ?_
  ·refine ⟨?_, rfl⟩
   exact Nat.zero_le _
  rintro k _ ⟨hk, rfl⟩
  refine ZR (env' := u38) rfl ?_
  refine Zd (Zd (Za ?_))
  refine Lo u38 (Zb (.inl rfl) rfl) ?_
  refine Lo u38 (Zb (.inl rfl) rfl) ?_
  refine Lo u38 (rfl) ?_
  refine Lo u38 (rfl) ?_
  refine Ze (Zc ?_)
  refine Zk _ rfl (fun hc2 => ?_) (fun hc2 => ?_)
  ·try simp only [qB, qN] at hc2
   refine Zj (Zc (Zd (Zl (Zd (Zd ?_)))))
   have hpk := ha k (by omega)
   have hz := @szP_le a k
   refine Za ?_
   refine Lo u38 (Zb (.inl rfl) rfl) ?_
   refine Lo u38 (Zb (.inl rfl) rfl) ?_
   refine Lo u38 (W18 rfl rfl rfl rfl rfl rfl rfl) ?_
   refine Lo u38 (W5h rfl rfl rfl rfl) ?_
   refine Lo u38 (rfl) ?_
   refine Lo u38 (Zb (.inl rfl) rfl) ?_
   refine Zy 19 (env1 := u38) (env2 := u38) rfl rfl rfl (fun hg3 => ?_) (fun hg3 => ?_)
   ·try simp only [qB, qN] at hg3
    refine Lf u38 ?_
    refine Lf u38 ?_
    refine Lf u38 ?_
    refine Lf u38 ?_
    refine Lf u38 ?_
    refine Lf u38 ?_
    refine Lf u38 ?_
    refine Lo u38 (ZF (VVal.bool true) rfl rfl rfl) ?_
    refine Ze (Zc ?_)
    refine ZM rfl rfl ?_
    refine Zd (Za ?_)
    refine Lo u38 (Zg (VVal.bool false) (.inr rfl) rfl) ?_
    refine Ze (Zc (Zi (Zm (ZE (Zm (Yf (ZE (Zm ?_))))))))
    refine W10 (.inr rfl) (Zh rfl rfl) ?_
    exact W5g
   ·try simp only [qB, qN] at hg3
    refine Lo u38 (Zb (.inl rfl) rfl) ?_
    refine Lo u38 (Zb (.inl rfl) rfl) ?_
    refine Lo u38 (W18 rfl rfl rfl rfl rfl rfl rfl) ?_
    refine Lo u38 (W5h rfl rfl rfl rfl) ?_
    refine Lo u38 (Zb (.inl rfl) rfl) ?_
    refine Lo u38 (W14 rfl rfl rfl) ?_
    refine Lo u38 (rfl) ?_
    refine Lo u38 (ZW rfl rfl rfl) ?_
    refine Ze (Zc ?_)
    refine Zk _ rfl (fun hc4 => ?_) (fun hc4 => ?_)
    ·try simp only [qB, qN] at hc4
     refine Zd (Za ?_)
     refine Lo u38 (Zg (VVal.bool false) (.inr rfl) rfl) ?_
     refine Ze (Zc (Zi (Zm (ZE (Zm (Yf (ZE (Zm ?_))))))))
     refine W10 (.inr rfl) (Zh rfl rfl) ?_
     exact W5g
    ·try simp only [qB, qN] at hc4
     refine Zj (Zc (Zd (Za ?_)))
     refine Lo u38 (Zb (.inl rfl) rfl) ?_
     refine Lo u38 (Zb (.inl rfl) rfl) ?_
     refine Lo u38 (W18 rfl rfl rfl rfl rfl rfl rfl) ?_
     refine Lo u38 (W5h rfl rfl rfl rfl) ?_
     refine Lo u38 (Zb (.inl rfl) rfl) ?_
     refine Lo u38 (rfl) ?_
     refine Ze (Zc ?_)
     refine Zk _ rfl (fun hc5 => ?_) (fun hc5 => ?_)
     ·try simp only [qB, qN] at hc5
      refine Za ?_
      refine Lo u38 (Zb (.inl rfl) rfl) ?_
      refine Lo u38 (Zb (.inl rfl) rfl) ?_
      refine Lo u38 (W18 rfl rfl rfl rfl rfl rfl rfl) ?_
      refine Lo u38 (W5h rfl rfl rfl rfl) ?_
      refine Lo u38 (Zb (.inr rfl) rfl) ?_
      refine Ze (Zr (Zc (Za ?_)))
      refine Lo u38 (Zb (.inl rfl) rfl) ?_
      refine Lo u38 (W14 rfl rfl rfl) ?_
      refine Lo u38 (Zb (.inr rfl) rfl) ?_
      refine Ze ?_
      first
        | (have hE : ((a.getD k 0 : Nat) : Int) = ((szP a (k + 1) : Nat) : Int) - 1 := by rw [szP_succ, if_pos (by omega)]; omega); rw [hE]
        | (have hE : szP a k = szP a (k + 1) := by rw [szP_succ, if_neg (by omega)]); rw [hE]
      refine Zs (mk 38 274877906918) (env' := u38) rfl ⟨k + 1, ?_, rfl, ?_⟩
      ·first | omega | (simp only []; omega)
      ·exact ⟨by omega, rfl⟩
     ·try simp only [qB, qN] at hc5
      refine Zj (Zr (Zc (Za ?_)))
      refine Lo u38 (Zb (.inl rfl) rfl) ?_
      refine Lo u38 (W14 rfl rfl rfl) ?_
      refine Lo u38 (Zb (.inr rfl) rfl) ?_
      refine Ze ?_
      first
        | (have hE : ((a.getD k 0 : Nat) : Int) = ((szP a (k + 1) : Nat) : Int) - 1 := by rw [szP_succ, if_pos (by omega)]; omega); rw [hE]
        | (have hE : szP a k = szP a (k + 1) := by rw [szP_succ, if_neg (by omega)]); rw [hE]
      refine Zs (mk 38 274877906918) (env' := u38) rfl ⟨k + 1, ?_, rfl, ?_⟩
      ·first | omega | (simp only []; omega)
      ·exact ⟨by omega, rfl⟩
  ·try simp only [qB, qN] at hc2
   refine ZH (ZI (Zw (ZG (Zc (Zd (Za ?_))))))
   refine Lo u38 (Zg (VVal.bool true) (.inr rfl) rfl) ?_
   refine Ze (Zc (Zi ?_))
   refine W10 (.inr rfl) (Zh rfl rfl) ?_
   exact W5g
theorem top_spec {x : SW} (H : Zf) (a : List Nat) (ha : Pat a) (hl : a.length ≤ 12) : F (psys x) 127 [fzN a] H fun v G => v = iI (((szP a a.length : Nat) : Int) - 1) ∧ G = H := by
 refine Zq Tryd.func127 rfl u22 rfl ?_
 refine Zd (Za ?_)
 refine Lo u22 (Zg (VVal.int .i64 0) (.inr rfl) rfl) ?_
 refine Ze (Zc (Zd (Za ?_)))
 refine Lo u22 (Zg (VVal.int .i64 (-1)) (.inr rfl) rfl) ?_
 refine Ze (Zc (Zd (Zd (Za ?_))))
 refine Lo u22 (Zg (VVal.int .i64 0) (.inr rfl) rfl) ?_
 refine Ze (Zc (Zl ?_))
 refine Zu (mk 22 4194278) (env' := u22) rfl ?_
 refine ZA (fun (k : Nat) => a.length - k) (fun (k : Nat) => [(3, iI (((szP a k : Nat) : Int) - 1)), (4, iI (k : Nat))]) (fun (k : Nat) G => (k ≤ a.length) ∧ G = H ++ []) 0 rfl ?_ ?_
 ·refine ⟨?_, rfl⟩
  exact Nat.zero_le _
 rintro k _ ⟨hk, rfl⟩
 refine ZR (env' := u22) rfl ?_
 refine Zd (Zd (Za ?_))
 refine Lo u22 (Zb (.inl rfl) rfl) ?_
 refine Lo u22 (Zb (.inl rfl) rfl) ?_
 refine Lo u22 (rfl) ?_
 refine Lo u22 (rfl) ?_
 refine Ze (Zc ?_)
 refine Zk _ rfl (fun hc1 => ?_) (fun hc1 => ?_)
 ·try simp only [qB, qN] at hc1
  refine Zj (Zc (Zd (Zl (Zd ?_))))
  have hpk := ha k (by omega)
  have hz := @szP_le a k
  refine Za ?_
  refine Lo u22 (Zb (.inl rfl) rfl) ?_
  refine Lo u22 (Zb (.inl rfl) rfl) ?_
  refine Lo u22 (W18 rfl rfl rfl rfl rfl rfl rfl) ?_
  refine Lo u22 (W5h rfl rfl rfl rfl) ?_
  refine Lo u22 (Zb (.inl rfl) rfl) ?_
  refine Lo u22 (rfl) ?_
  refine Ze (Zc ?_)
  refine Zk _ rfl (fun hc2 => ?_) (fun hc2 => ?_)
  ·try simp only [qB, qN] at hc2
   refine Za ?_
   refine Lo u22 (Zb (.inl rfl) rfl) ?_
   refine Lo u22 (Zb (.inl rfl) rfl) ?_
   refine Lo u22 (W18 rfl rfl rfl rfl rfl rfl rfl) ?_
   refine Lo u22 (W5h rfl rfl rfl rfl) ?_
   refine Lo u22 (Zb (.inr rfl) rfl) ?_
   refine Ze (Zr (Zc (Za ?_)))
   refine Lo u22 (Zb (.inl rfl) rfl) ?_
   refine Lo u22 (W14 rfl rfl rfl) ?_
   refine Lo u22 (Zb (.inr rfl) rfl) ?_
   refine Ze ?_
   first
     | (have hE : ((a.getD k 0 : Nat) : Int) = ((szP a (k + 1) : Nat) : Int) - 1 := by rw [szP_succ, if_pos (by omega)]; omega); rw [hE]
     | (have hE : szP a k = szP a (k + 1) := by rw [szP_succ, if_neg (by omega)]); rw [hE]
   refine Zs (mk 22 4194278) (env' := u22) rfl ⟨k + 1, ?_, rfl, ?_⟩
   ·first | omega | (simp only []; omega)
   ·exact ⟨by omega, rfl⟩
  ·try simp only [qB, qN] at hc2
   refine Zj (Zr (Zc (Za ?_)))
   refine Lo u22 (Zb (.inl rfl) rfl) ?_
   refine Lo u22 (W14 rfl rfl rfl) ?_
   refine Lo u22 (Zb (.inr rfl) rfl) ?_
   refine Ze ?_
   first
     | (have hE : ((a.getD k 0 : Nat) : Int) = ((szP a (k + 1) : Nat) : Int) - 1 := by rw [szP_succ, if_pos (by omega)]; omega); rw [hE]
     | (have hE : szP a k = szP a (k + 1) := by rw [szP_succ, if_neg (by omega)]); rw [hE]
   refine Zs (mk 22 4194278) (env' := u22) rfl ⟨k + 1, ?_, rfl, ?_⟩
   ·first | omega | (simp only []; omega)
   ·exact ⟨by omega, rfl⟩
 ·try simp only [qB, qN] at hc1
  refine ZH (ZI (Zw (ZG (Zc (Zd (Za ?_))))))
  refine Lo u22 (Zb (.inl rfl) rfl) ?_
  refine Lo u22 (Zb (.inr rfl) rfl) ?_
  refine Ze (Zc (Zi ?_))
  refine W10 (.inr rfl) (Zh rfl rfl) ?_
  obtain rfl : k = a.length := by omega
  exact ⟨rfl, rfl⟩
theorem Size_spec {x : SW} (H : Zf) (a : List Nat) (ha : Pat a) (hl : a.length ≤ 12) : F (psys x) 97 [fzN a] H fun v G => v = iI (szP a a.length : Nat) ∧ G = H := by
 have hz := @szP_le a a.length
 refine Zq Tryd.func97 rfl u9 rfl ?_
 refine Zd (Za ?_)
 refine Lo u9 (Zg (VVal.int .i64 0) (.inr rfl) rfl) ?_
 refine Ze (Zc (Zd (Zd (Za ?_))))
 refine Lo u9 (Zb (.inl rfl) rfl) ?_
 refine Zv rfl rfl rfl (by exact Legal_spec _ _ ha hl) ?_
 rintro _ _ ⟨rfl, rfl⟩
 refine Le u9 ?_
 refine Lo u9 (rfl) ?_
 refine Ze (Zc ?_)
 refine Ym rfl rfl ?_
 refine Zj (Zc (Zd (Za ?_)))
 refine Lo u9 (Zb (.inl rfl) rfl) ?_
 refine Zv rfl rfl rfl (by exact top_spec _ _ ha hl) ?_
 rintro _ _ ⟨rfl, rfl⟩
 refine Le u9 ?_
 refine Lo u9 (v_val (YY rfl rfl rfl (by omega)) (show iI ((((szP a a.length : Nat) : Int) - 1) + 1) = iI (szP a a.length : Nat) by congr 1; omega)) ?_
 refine Lo u9 (Zb (.inr rfl) rfl) ?_
 refine Ze (Zc (Zi ?_))
 refine W10 (.inr rfl) (Zh rfl rfl) ?_
 exact ⟨rfl, rfl⟩
def bkK (a : List Nat) (b k : Nat) : List Nat := (List.range k).filter fun i => a.getD i 0 == b
abbrev bkL (a : List Nat) (b : Nat) : List Nat := bkK a b a.length
theorem bkK_yes {a : List Nat} {b k : Nat} (h : a.getD k 0 = b) : bkK a b (k + 1) = bkK a b k ++ [k] := by
  unfold bkK; rw [List.range_succ, List.filter_append, List.filter_cons, if_pos (by rw [h]; exact beq_self_eq_true b)]; rfl
theorem bkK_no {a : List Nat} {b k : Nat} (h : ¬ a.getD k 0 = b) : bkK a b (k + 1) = bkK a b k := by
  unfold bkK; rw [List.range_succ, List.filter_append, List.filter_cons, if_neg (by simpa using h)]; simp
theorem bkK_len {a : List Nat} {b k : Nat} : (bkK a b k).length ≤ k := by
  unfold bkK; exact Nat.le_trans (List.length_filter_le _ _) (by simp)
theorem bkL_mem {a : List Nat} {b i : Nat} : i ∈ bkL a b ↔ i < a.length ∧ a.getD i 0 = b := by
  unfold bkL bkK; rw [List.mem_filter, List.mem_range, beq_iff_eq]
abbrev bkC (a : List Nat) (b : Nat) : List VVal := (List.range b).map fun c => fzN (bkL a c)
theorem bkC_succ {a : List Nat} {b : Nat} : bkC a (b + 1) = bkC a b ++ [fzN (bkL a b)] := by
  show (List.range (b + 1)).map _ = _; rw [List.range_succ, List.map_append]; rfl
theorem bkC_get {a : List Nat} {b i : Nat} (h : i < b) : (bkC a b)[((i : Nat) : Int).toNat * 1]? = some (fzN (bkL a i)) := by
  rw [Int.toNat_natCast, Nat.mul_one]; simp [h]
theorem LV.pushN {h : Nat} {X : Zf} {v : VVal} {l : List Nat} {w : Nat} (r : LV h 1 X v (rcN l ++ [iI (w : Nat)]) (l.length + 1)) : LV h 1 X v (rcN (l ++ [w])) (l ++ [w]).length := by rw [rcN_snoc, List.length_append]; exact r
theorem Blocks_spec {x : SW} (H : Zf) (a : List Nat) (ha : Pat a) (hl : a.length ≤ 12) : F (psys x) 125 [fzN a] H fun v G => v = .fsl (bkC a (szP a a.length)) (szP a a.length) 1 false ∧ G = H := by
 have hz := @szP_le a a.length
 refine Zq Tryd.func125 rfl u38 rfl ?_
 refine Zd (Za ?_)
 refine Lo u38 (Zg (VVal.slice none 0 0 true 0) (.inr rfl) rfl) ?_
 refine Ze (Zc (Zd (Za ?_)))
 refine Lo u38 (Zg (VVal.slice none 0 0 true 0) (.inr rfl) rfl) ?_
 refine Ze (Zc (Zd (Zd (Za ?_))))
 refine Lo u38 (Zb (.inl rfl) rfl) ?_
 refine Zv rfl rfl rfl (by exact Legal_spec _ _ ha hl) ?_
 rintro _ _ ⟨rfl, rfl⟩
 refine Le u38 ?_
 refine Lo u38 (rfl) ?_
 refine Ze (Zc ?_)
 refine Ym rfl rfl ?_
 refine Zj (Zc (Zd (Zd (Za ?_))))
 refine Lo u38 (Zg (VVal.int .i64 0) (.inr rfl) rfl) ?_
 refine Ze (Zc (Zl ?_))
 refine Zu (mk 38 274877906918) (env' := u38) rfl ?_
 refine ZA (fun (⟨b, lv⟩ : Nat × VVal) => szP a a.length - b) (fun (⟨b, lv⟩ : Nat × VVal) => [(3, lv), (4, iI (b : Nat))]) (fun (⟨b, lv⟩ : Nat × VVal) G => (b ≤ szP a a.length) ∧ ∃ X, G = H ++ X ∧ LV H.length 1 X lv (bkC a b) b) ⟨0, _⟩ rfl ?_ ?_
 ·refine ⟨?_, ⟨_, rfl, LV.nil _ _ _⟩⟩
  exact Nat.zero_le _
 rintro ⟨b, lv⟩ _ ⟨hb, ⟨X, rfl, hlv⟩⟩
 refine ZR (env' := u38) rfl ?_
 refine Zd (Zd (Za ?_))
 refine Lo u38 (Zb (.inl rfl) rfl) ?_
 refine Lo u38 (Zb (.inl rfl) rfl) ?_
 refine Zv rfl rfl rfl (by exact top_spec _ _ ha hl) ?_
 rintro _ _ ⟨rfl, rfl⟩
 refine Le u38 ?_
 refine Lo u38 (rfl) ?_
 refine Ze (Zc ?_)
 refine Zk _ rfl (fun hc1 => ?_) (fun hc1 => ?_)
 ·try simp only [qB, qN] at hc1
  refine Zj (Zc (Zd (Zl (Zd (Za ?_)))))
  refine Lo u38 (Zg (VVal.slice none 0 0 true 0) (.inr rfl) rfl) ?_
  refine Ze (Zc (Zd (Zd (Za ?_))))
  refine Lo u38 (Zg (VVal.int .i64 0) (.inr rfl) rfl) ?_
  refine Ze (Zc (Zl ?_))
  refine Zu (mk 38 274877906822) (env' := u38) rfl ?_
  refine ZA (fun (⟨k, ov⟩ : Nat × VVal) => a.length - k) (fun (⟨k, ov⟩ : Nat × VVal) => [(5, ov), (6, iI (k : Nat))]) (fun (⟨k, ov⟩ : Nat × VVal) G => (k ≤ a.length) ∧ ∃ X, G = H ++ X ∧ LV H.length 1 X lv (bkC a b) b ∧ LV H.length 1 X ov (rcN (bkK a b k)) (bkK a b k).length ∧ Dj lv ov) ⟨0, _⟩ rfl ?_ ?_
  ·refine ⟨?_, ⟨X, rfl, hlv, LV.nil _ _ _, Dj.nil _⟩⟩
   exact Nat.zero_le _
  rintro ⟨k, ov⟩ _ ⟨hk, ⟨X, rfl, hlv, hov, hd⟩⟩
  refine ZR (env' := u38) rfl ?_
  refine Zd (Zd (Za ?_))
  refine Lo u38 (Zb (.inl rfl) rfl) ?_
  refine Lo u38 (Zb (.inl rfl) rfl) ?_
  refine Lo u38 (rfl) ?_
  refine Lo u38 (rfl) ?_
  refine Ze (Zc ?_)
  refine Zk _ rfl (fun hc2 => ?_) (fun hc2 => ?_)
  ·try simp only [qB, qN] at hc2
   refine Zj (Zc (Zd (Zl (Zd (Za ?_)))))
   refine Lo u38 (Zb (.inl rfl) rfl) ?_
   refine Lo u38 (Zb (.inl rfl) rfl) ?_
   refine Lo u38 (W18 rfl rfl rfl rfl rfl rfl rfl) ?_
   refine Lo u38 (W5h rfl rfl rfl rfl) ?_
   refine Lo u38 (Zb (.inl rfl) rfl) ?_
   refine Lo u38 (rfl) ?_
   refine Ze (Zc ?_)
   refine Zk _ rfl (fun hc3 => ?_) (fun hc3 => ?_)
   ·try simp only [qB, qN] at hc3
    refine Za ?_
    refine Lo u38 (Zb (.inl rfl) rfl) ?_
    refine Lo u38 (Zb (.inl rfl) rfl) ?_
    refine Lo u38 (ZJ rfl rfl (by decide) rfl) ?_
    refine L_opX rfl rfl (v_appX rfl rfl rfl rfl rfl rfl rfl hov rfl rfl (by decide) (by have := @bkK_len a b k; show (_ + 1) * 8 ≤ _ ∧ _ + 1 ≤ _; omega) (by decide)) ?_
    rintro _ _ ⟨Y1, rfl, rfl, hY1, hY2, hY3⟩
    refine Le u38 ?_
    refine Lo u38 (Zb (.inr rfl) rfl) ?_
    refine Ze (Zr (Zc (Za ?_)))
    refine Lo u38 (Zb (.inl rfl) rfl) ?_
    refine Lo u38 (W14 rfl rfl rfl) ?_
    refine Lo u38 (Zb (.inr rfl) rfl) ?_
    refine Ze ?_
    refine Zs (mk 38 274877906822) (env' := u38) rfl ⟨⟨k + 1, _⟩, ?_, rfl, ?_⟩
    ·first | omega | (simp only []; omega)
    ·first | exact ⟨by omega, _, rfl, LV.keepN hY3 hlv hd hY2, by rw [bkK_yes (by omega)]; exact LV.pushN hY3, LV.djN hY3 hlv⟩ | exact ⟨by omega, _, rfl, hlv, by rw [bkK_no (by omega)]; exact hov, hd⟩
   ·try simp only [qB, qN] at hc3
    refine Zj (Zr (Zc (Za ?_)))
    refine Lo u38 (Zb (.inl rfl) rfl) ?_
    refine Lo u38 (W14 rfl rfl rfl) ?_
    refine Lo u38 (Zb (.inr rfl) rfl) ?_
    refine Ze ?_
    refine Zs (mk 38 274877906822) (env' := u38) rfl ⟨⟨k + 1, _⟩, ?_, rfl, ?_⟩
    ·first | omega | (simp only []; omega)
    ·first | exact ⟨by omega, _, rfl, LV.keepN hY3 hlv hd hY2, by rw [bkK_yes (by omega)]; exact LV.pushN hY3, LV.djN hY3 hlv⟩ | exact ⟨by omega, _, rfl, hlv, by rw [bkK_no (by omega)]; exact hov, hd⟩
  ·try simp only [qB, qN] at hc2
   refine ZH (ZI (Zw (ZG (Zc ?_))))
   obtain rfl : k = a.length := by omega
   refine B_ghLV (env' := u38) 5 hov rfl rfl fun X4 hX4 hF4 => ?_
   have hlv := LV.keep hlv hd hF4
   refine Za ?_
   refine Lo u38 (Zb (.inl rfl) rfl) ?_
   refine Lo u38 (Zb (.inl rfl) rfl) ?_
   refine Lo u38 (ZJ rfl rfl (by decide) rfl) ?_
   refine L_opX rfl rfl (v_appX rfl rfl rfl rfl rfl rfl rfl hlv rfl rfl (by decide) (by show (b + 1) * 24 ≤ _ ∧ b + 1 ≤ _; omega) (by decide)) ?_
   rintro _ _ ⟨Y1, rfl, rfl, hY1, hY2, hY3⟩
   refine Le u38 ?_
   refine Lo u38 (Zb (.inr rfl) rfl) ?_
   refine Ze (Zr (Zc (Za ?_)))
   refine Lo u38 (Zb (.inl rfl) rfl) ?_
   refine Lo u38 (W14 rfl rfl rfl) ?_
   refine Lo u38 (Zb (.inr rfl) rfl) ?_
   refine Ze ?_
   refine Zs (mk 38 274877906918) (env' := u38) rfl ⟨⟨b + 1, _⟩, ?_, rfl, ?_⟩
   ·first | omega | (simp only []; omega)
   ·exact ⟨by omega, _, rfl, by rw [bkC_succ]; exact hY3⟩
 ·try simp only [qB, qN] at hc1
  refine ZH (ZI (Zw (ZG (Zc (Zd (Za ?_))))))
  refine Lo u38 (Zb (.inl rfl) rfl) ?_
  refine Lo u38 (Zb (.inr rfl) rfl) ?_
  refine Ze (Zc (Zi ?_))
  refine E_gh (.inr rfl) (Zh rfl rfl) (Gh.ansLV (BaseOk.refl _) hlv (VVal.underL_map (f := fun c => fzN (bkL a c)) fun c => mapN_under _ _)) ?_
  obtain rfl : b = szP a a.length := by omega
  exact ⟨rfl, rfl⟩
abbrev u24 {a0 a1 a2 a3 a4 a5 a6 a7 a8 a9 a10 a11 a12 a13 a14 a15 a16 a17 a18 a19 a20 a21 a22 a23 : VVal} : VEnv := a0 :: a1 :: a2 :: a3 :: a4 :: a5 :: a6 :: a7 :: a8 :: a9 :: a10 :: a11 :: a12 :: a13 :: a14 :: a15 :: a16 :: a17 :: a18 :: a19 :: a20 :: a21 :: a22 :: a23 :: []
abbrev u58 {a0 a1 a2 a3 a4 a5 a6 a7 a8 a9 a10 a11 a12 a13 a14 a15 a16 a17 a18 a19 a20 a21 a22 a23 a24 a25 a26 a27 a28 a29 a30 a31 a32 a33 a34 a35 a36 a37 a38 a39 a40 a41 a42 a43 a44 a45 a46 a47 a48 a49 a50 a51 a52 a53 a54 a55 a56 a57 : VVal} : VEnv := a0 :: a1 :: a2 :: a3 :: a4 :: a5 :: a6 :: a7 :: a8 :: a9 :: a10 :: a11 :: a12 :: a13 :: a14 :: a15 :: a16 :: a17 :: a18 :: a19 :: a20 :: a21 :: a22 :: a23 :: a24 :: a25 :: a26 :: a27 :: a28 :: a29 :: a30 :: a31 :: a32 :: a33 :: a34 :: a35 :: a36 :: a37 :: a38 :: a39 :: a40 :: a41 :: a42 :: a43 :: a44 :: a45 :: a46 :: a47 :: a48 :: a49 :: a50 :: a51 :: a52 :: a53 :: a54 :: a55 :: a56 :: a57 :: []
theorem W5j {T : TypeId → Option VTy} {H : Zf} {op : Op} {ρ : Operand → VVal} {t : TypeId} {a : Operand} {y : VTy} {p v : VVal} (ho : op = .load t a) (ha : ρ a = p) (hy : T t = some y) (hd : Zo y.desc = false) (h : LdOk H p v := by exact XH55) : vop T ρ H op = some (v, H) := v_ld ho ha hy hd h
theorem W5l {T : TypeId → Option VTy} {H : Zf} {op : Op} {ρ : Operand → VVal} {t : TypeId} {a : Operand} {y : VTy} {p : VVal} {n : Nat} {vs : List VVal} (ho : op = .load t a) (ha : ρ a = p) (hy : T t = some y) (hd : Zo y.desc = true) (hn : y.size = n) (h : LdOkA H p n vs := by exact XH55) : vop T ρ H op = some (.agg vs, H) := v_ldA ho ha hy hd hn h
theorem W5q {P : Prop} (h : P := by first | exact ⟨by rw [erlA_no (k := k) (by omega) (by assumption)], rfl⟩ | exact ⟨by rw [erlA_all (by omega) hall], rfl⟩) : P := h
theorem myB_lt {p : Pb} {i u : Nat} (g : Go.V.Good p) (hi : i < p.who.length) (h : (wrd p i).getLsbD u = true) : u < p.users.toNat := by
  have h1 : myB p i (u : Nat) = true := myB_nat.2 h
  have g4 := g.u0
  by_cases hf : 0 ≤ p.fixed.getD i 0
  · rw [myB_f g hi hf, decide_eq_true_eq] at h1
    have := (okW_in g hi).1; omega
  · rw [myB_w g hi (by omega), Bool.and_eq_true, decide_eq_true_eq] at h1; omega
abbrev rwP (p : Pb) (a : List Nat) (i : Nat) : Nat → Bool := fun u => (bkL a i).all fun j => myB p j (u : Nat)
theorem row_is {p : Pb} {a : List Nat} {i : Nat} (g : Go.V.Good p) (ha : Pat a) (hl : a.length = p.who.length) (hi : i < szP a a.length) : wdP (rwP p a i) p.users.toNat = (Z8 (wsP p) a a.length).getD i 0 := by
  refine YD fun v hv => ?_
  rw [wdP_bit hv, Bool.eq_iff_iff, Bool.and_eq_true, decide_eq_true_eq, blk_bit ha hi, List.all_eq_true]
  constructor
  · rintro ⟨_, h⟩ j hj e
    have := h j (bkL_mem.2 ⟨hj, e⟩)
    rw [myB_nat] at this
    rw [wsP_get (by omega)]; exact this
  · intro h
    refine ⟨?_, fun j hj => ?_⟩
    · obtain ⟨j, hj, e⟩ := pat_onto ha hi
      have := h j hj e
      rw [wsP_get (by omega)] at this
      exact myB_lt g (by omega) this
    · obtain ⟨h1, h2⟩ := bkL_mem.1 hj
      have := h j h1 h2
      rw [wsP_get (by omega)] at this
      exact myB_nat.2 this
theorem allN_step {l : List Nat} {k : Nat} {f : Nat → Bool} (h : k < l.length) : (l.take (k + 1)).all f = ((l.take k).all f && f (l.getD k 0)) := by
  rw [Yh (d := 0) h, List.all_append, List.all_cons, List.all_nil, Bool.and_true]
theorem bkL_at {a : List Nat} {b k : Nat} (h : k < (bkL a b).length) : (bkL a b).getD k 0 < a.length := by
  have : (bkL a b).getD k 0 ∈ bkL a b := by rw [List.getD_eq_getElem?_getD, List.getElem?_eq_getElem h]; simp
  exact (bkL_mem.1 this).1
theorem Rows_spec {x : SW} (H : Zf) (p : Pb) (g : Go.V.Good p) (a : List Nat) (ha : Pat a) (hl : a.length = p.who.length) : F (psys x) 96 [.agg (pbB p), fzN a] H fun v G => v = fzW (Z8 (wsP p) a a.length) ∧ G = H := by
 have g1 := g.n12; have g2 := g.u64; have g4 := g.u0
 have hz := @szP_le a a.length
 have hbl := @Yx (wsP p) a a.length
 refine Zq Tryd.func96 rfl u58 rfl ?_
 refine Zd (Za ?_)
 refine Lo u58 (ZK rfl rfl rfl) ?_
 refine Lo u58 (Zg (VVal.slice none 0 0 true 0) (.inr rfl) rfl) ?_
 refine Ze (Zc (Zd ?_))
 refine Yo (Gh.freezePtrL (cs := pbB p) 2 0 rfl rfl rfl) ?_
 refine Za ?_
 refine Lo u58 (Zg (VVal.slice none 0 0 true 0) (.inr rfl) rfl) ?_
 refine Ze (Zc (Zd (Za ?_)))
 refine Lo u58 (Zb (.inl rfl) rfl) ?_
 refine Zv rfl rfl rfl (by exact Blocks_spec _ a ha (by omega)) ?_
 rintro _ _ ⟨rfl, rfl⟩
 refine Le u58 ?_
 refine Lo u58 (Zb (.inr rfl) rfl) ?_
 refine Ze (Zc (Zd (Zd (Za ?_))))
 refine Lo u58 (Zg (VVal.int .i64 0) (.inr rfl) rfl) ?_
 refine Ze (Zc (Zl ?_))
 refine Zu (mk 58 288230376151711515) (env' := u58) rfl ?_
 refine ZA (fun (⟨i, lv⟩ : Nat × VVal) => szP a a.length - i) (fun (⟨i, lv⟩ : Nat × VVal) => [(5, lv), (7, iI (i : Nat))]) (fun (⟨i, lv⟩ : Nat × VVal) G => (i ≤ szP a a.length) ∧ ∃ X, G = H ++ X ∧ LV H.length 1 X lv (((Z8 (wsP p) a a.length).take i).map iW) ((Z8 (wsP p) a a.length).take i).length) ⟨0, _⟩ rfl ?_ ?_
 ·refine ⟨?_, ⟨_, rfl, LV.nil _ _ _⟩⟩
  exact Nat.zero_le _
 rintro ⟨i, lv⟩ _ ⟨hi, ⟨X, rfl, hlv⟩⟩
 refine ZR (env' := u58) rfl ?_
 refine Zd (Zd (Za ?_))
 refine Lo u58 (Zb (.inl rfl) rfl) ?_
 refine Lo u58 (Zb (.inl rfl) rfl) ?_
 refine Lo u58 (rfl) ?_
 refine Lo u58 (rfl) ?_
 refine Ze (Zc ?_)
 refine Zk _ rfl (fun hc1 => ?_) (fun hc1 => ?_)
 ·try simp only [qB, qN] at hc1
  refine Zj (Zc (Zd (Zl (Zd (Za ?_)))))
  refine Lo u58 (Zg (VVal.int .u64 0) (.inr rfl) rfl) ?_
  refine Ze (Zc (Zd (Zd (Za ?_))))
  refine Lo u58 (Zg (VVal.int .i64 0) (.inr rfl) rfl) ?_
  refine Ze (Zc (Zl ?_))
  refine Zu (mk 58 288230376151710747) (env' := u58) rfl ?_
  refine ZA (fun (u : Nat) => p.users.toNat - u) (fun (u : Nat) => [(8, iW (wdP (rwP p a i) u)), (9, iI (u : Nat))]) (fun (u : Nat) G => (u ≤ p.users.toNat) ∧ G = H ++ X) 0 (by rw [show wdP (rwP p a i) 0 = 0#64 from wdP_0 _]; rfl) ?_ ?_
  ·refine ⟨?_, rfl⟩
   exact Nat.zero_le _
  rintro u _ ⟨hu, rfl⟩
  refine ZR (env' := u58) rfl ?_
  refine Zd (Zd (Za ?_))
  refine Lo u58 (Zb (.inl rfl) rfl) ?_
  refine Lo u58 (rfl) ?_
  refine Lo u58 (W5j rfl rfl rfl rfl) ?_
  refine Lo u58 (rfl) ?_
  refine Ze (Zc ?_)
  refine Zk _ rfl (fun hc2 => ?_) (fun hc2 => ?_)
  ·try simp only [qB, qN] at hc2
   refine Zj (Zc (Zd (Zl (Zd (Za ?_)))))
   refine Lo u58 (Zg (VVal.bool true) (.inr rfl) rfl) ?_
   refine Ze (Zc (Zd (Zd (Za ?_))))
   refine Lo u58 (Zg (VVal.int .i64 0) (.inr rfl) rfl) ?_
   refine Ze (Zc (Zl ?_))
   refine Zu (mk 58 288230376151707675) (env' := u58) rfl ?_
   refine ZA (fun (⟨k, okb⟩ : Nat × Bool) => (bkL a i).length - k) (fun (⟨k, okb⟩ : Nat × Bool) => [(10, .bool okb), (11, iI (k : Nat))]) (fun (⟨k, okb⟩ : Nat × Bool) G => (k ≤ (bkL a i).length ∧ okb = ((bkL a i).take k).all fun j => myB p j (u : Nat)) ∧ G = H ++ X) ⟨0, true⟩ rfl ?_ ?_
   ·refine ⟨?_, rfl⟩
    exact ⟨Nat.zero_le _, rfl⟩
   rintro ⟨k, okb⟩ _ ⟨⟨hk, hok⟩, rfl⟩
   refine ZR (env' := u58) rfl ?_
   refine Zd (Zd ?_)
   have hbk : (bkL a i).length ≤ a.length := bkK_len
   refine Za ?_
   refine Lo u58 (Zb (.inl rfl) rfl) ?_
   refine Lo u58 (Zb (.inl rfl) rfl) ?_
   refine Lo u58 (Zb (.inl rfl) rfl) ?_
   refine Lo u58 (W18 rfl rfl rfl rfl rfl rfl rfl) ?_
   refine Lo u58 (W5j rfl rfl rfl rfl) ?_
   refine Lo u58 (rfl) ?_
   refine Lo u58 (rfl) ?_
   refine Ze (Zc ?_)
   refine Zk _ rfl (fun hc3 => ?_) (fun hc3 => ?_)
   ·try simp only [qB, qN] at hc3
    refine Zj (Zc (Zd (Zl ?_)))
    refine ZS [0, 1, 2, 3, 4, 5, 6, 7, 8, 9, 10, 11, 12, 13] #[0, 1, 3, 3, 3, 27, 59, 3, 251, 507, 3, 2047, 4095, 8191] XH5 XH5 XH5 ?_
    refine Oo u58 .calm rfl (Zb (.inl rfl) rfl) ?_
    refine Oo u58 .calm rfl (Zb (.inl rfl) rfl) ?_
    refine O_split 36 (env1 := u58) (env2 := u58) rfl rfl rfl (fun hg4 => ?_) (fun hg4 => ?_)
    ·try simp only [qB, qN] at hg4
     refine Oo u58 .look rfl (W5l rfl rfl rfl rfl rfl) ?_
     refine Oo u58 .calm rfl (Zb (.inl rfl) rfl) ?_
     refine Oo u58 .calm rfl (Zb (.inl rfl) rfl) ?_
     refine Oo u58 .calm rfl (W18 rfl rfl rfl rfl rfl rfl rfl) ?_
     refine Oo u58 .look rfl (W5j rfl rfl rfl rfl) ?_
     refine Oo u58 .calm rfl (Zb (.inl rfl) rfl) ?_
     refine Oo u58 .calm rfl (W18 rfl rfl rfl rfl rfl rfl rfl) ?_
     refine Oo u58 .look rfl (W5j rfl rfl rfl rfl) ?_
     refine Oo u58 .calm rfl (Zb (.inl rfl) rfl) ?_
     refine Yc (env' := u58) rfl rfl rfl rfl rfl (by exact May_spec _ p g ((bkL a i).getD k 0) (by have := bkL_at (a := a) (b := i) (k := k) (by omega); omega) (u : Nat)) XH10 rfl rfl ?_
     refine Oo u58 .calm rfl (ZP rfl rfl rfl) ?_
     refine Oo u58 .calm rfl (Zb (.inr rfl) rfl) ?_
     refine ZY [] XH5 (trivial) ?_
     refine Zr (Zc (Za ?_))
     refine Lo u58 (Zb (.inl rfl) rfl) ?_
     refine Lo u58 (W14 rfl rfl rfl) ?_
     refine Lo u58 (Zb (.inr rfl) rfl) ?_
     refine Ze ?_
     refine Zs (mk 58 288230376151707675) (env' := u58) rfl ⟨⟨k + 1, _⟩, ?_, rfl, ?_⟩
     ·first | omega | (simp only []; omega)
     ·first | exact ⟨⟨by omega, by rw [allN_step (by omega), ← hok, (show okb = true by assumption), Bool.true_and]⟩, rfl⟩ | exact ⟨⟨by omega, by rw [allN_step (by omega), ← hok, (show okb = false by simp_all), Bool.false_and]⟩, rfl⟩
    ·try simp only [qB, qN] at hg4
     refine Of u58 rfl ?_
     refine Of u58 rfl ?_
     refine Of u58 rfl ?_
     refine Of u58 rfl ?_
     refine Of u58 rfl ?_
     refine Of u58 rfl ?_
     refine Of u58 rfl ?_
     refine Of u58 rfl ?_
     refine Of u58 rfl ?_
     refine Of u58 rfl ?_
     refine Oo u58 .calm rfl (ZB (VVal.bool false) rfl rfl rfl) ?_
     refine Oo u58 .calm rfl (Zb (.inr rfl) rfl) ?_
     refine ZY [] XH5 (trivial) ?_
     refine Zr (Zc (Za ?_))
     refine Lo u58 (Zb (.inl rfl) rfl) ?_
     refine Lo u58 (W14 rfl rfl rfl) ?_
     refine Lo u58 (Zb (.inr rfl) rfl) ?_
     refine Ze ?_
     refine Zs (mk 58 288230376151707675) (env' := u58) rfl ⟨⟨k + 1, _⟩, ?_, rfl, ?_⟩
     ·first | omega | (simp only []; omega)
     ·first | exact ⟨⟨by omega, by rw [allN_step (by omega), ← hok, (show okb = true by assumption), Bool.true_and]⟩, rfl⟩ | exact ⟨⟨by omega, by rw [allN_step (by omega), ← hok, (show okb = false by simp_all), Bool.false_and]⟩, rfl⟩
   ·try simp only [qB, qN] at hc3
    refine ZH (ZI (Zw (ZG (Zc (Zd (Za ?_))))))
    refine Lo u58 (Zb (.inl rfl) rfl) ?_
    refine Ze (Zc ?_)
    refine Zk _ rfl (fun hc5 => ?_) (fun hc5 => ?_)
    ·try simp only [qB, qN] at hc5
     refine Za ?_
     refine Lo u58 (Zb (.inl rfl) rfl) ?_
     refine Lo u58 (Zb (.inl rfl) rfl) ?_
     refine Lo u58 (v_shl1 rfl rfl rfl XH1) ?_
     refine Lo u58 (v_orW rfl rfl rfl) ?_
     refine Lo u58 (Zb (.inr rfl) rfl) ?_
     refine Ze (Zr (Zc (Za ?_)))
     refine Lo u58 (Zb (.inl rfl) rfl) ?_
     refine Lo u58 (W14 rfl rfl rfl) ?_
     refine Lo u58 (Zb (.inr rfl) rfl) ?_
     refine Ze ?_
     obtain rfl : k = (bkL a i).length := by omega
     rw [List.take_length] at hok
     first
       | (have hE : (wdP (rwP p a i) u) ||| 1#64 <<< (u : Int).toNat = wdP (rwP p a i) (u + 1) := wdP_yes (hok.symm.trans (by assumption))); rw [hE]
       | (have hE : (wdP (rwP p a i) u) = wdP (rwP p a i) (u + 1) := wdP_no (hok.symm.trans (by assumption))); rw [hE]
     refine Zs (mk 58 288230376151710747) (env' := u58) rfl ⟨u + 1, ?_, rfl, ?_⟩
     ·first | omega | (simp only []; omega)
     ·exact ⟨by omega, rfl⟩
    ·try simp only [qB, qN] at hc5
     refine Zj (Zr (Zc (Za ?_)))
     refine Lo u58 (Zb (.inl rfl) rfl) ?_
     refine Lo u58 (W14 rfl rfl rfl) ?_
     refine Lo u58 (Zb (.inr rfl) rfl) ?_
     refine Ze ?_
     obtain rfl : k = (bkL a i).length := by omega
     rw [List.take_length] at hok
     first
       | (have hE : (wdP (rwP p a i) u) ||| 1#64 <<< (u : Int).toNat = wdP (rwP p a i) (u + 1) := wdP_yes (hok.symm.trans (by assumption))); rw [hE]
       | (have hE : (wdP (rwP p a i) u) = wdP (rwP p a i) (u + 1) := wdP_no (hok.symm.trans (by assumption))); rw [hE]
     refine Zs (mk 58 288230376151710747) (env' := u58) rfl ⟨u + 1, ?_, rfl, ?_⟩
     ·first | omega | (simp only []; omega)
     ·exact ⟨by omega, rfl⟩
  ·try simp only [qB, qN] at hc2
   refine ZH (ZI (Zw (ZG (Zc ?_))))
   obtain rfl : u = p.users.toNat := by omega
   rw [row_is g ha hl (by omega)]
   refine Za ?_
   refine Lo u58 (Zb (.inl rfl) rfl) ?_
   refine Lo u58 (Zb (.inl rfl) rfl) ?_
   refine Lo u58 (ZJ rfl rfl (by decide) rfl) ?_
   refine L_opX rfl rfl (v_appX rfl rfl rfl rfl rfl rfl rfl hlv rfl rfl (by decide) XH26 (by decide)) ?_
   rintro _ _ ⟨Y1, rfl, rfl, hY1, hY2, hY3⟩
   refine Le u58 ?_
   refine Lo u58 (Zb (.inr rfl) rfl) ?_
   refine Ze (Zr (Zc (Za ?_)))
   refine Lo u58 (Zb (.inl rfl) rfl) ?_
   refine Lo u58 (W14 rfl rfl rfl) ?_
   refine Lo u58 (Zb (.inr rfl) rfl) ?_
   refine Ze ?_
   refine Zs (mk 58 288230376151711515) (env' := u58) rfl ⟨⟨i + 1, _⟩, ?_, rfl, ?_⟩
   ·first | omega | (simp only []; omega)
   ·exact ⟨by omega, _, rfl, by rw [Yh (d := 0) (by omega)]; exact LV.pushW hY3⟩
 ·try simp only [qB, qN] at hc1
  refine ZH (ZI (Zw (ZG (Zc (Zd (Za ?_))))))
  refine Lo u58 (Zb (.inl rfl) rfl) ?_
  refine Lo u58 (Zb (.inr rfl) rfl) ?_
  refine Ze (Zc (Zi ?_))
  refine E_gh (.inr rfl) (Zh rfl rfl) (Gh.ansLV (BaseOk.refl _) hlv (Yy _ _)) ?_
  rw [List.take_of_length_le (by omega)]
  exact ⟨rfl, rfl⟩
theorem fEarlyN {x : SW} (H : Zf) (r : Rul) (n : Int) (a : List Nat) (hl : r.steps.length ≤ 1000000) : F (psys x) 122 [.agg (rlB r), iI n, fzN a] H fun v G => v = .bool (erl r n (zI a)) ∧ G = H := by
  rw [fzN_is]; exact fEarly_spec H r n (zI a) hl
theorem erlA_no {n : Nat} {rs : List Rul} {a : List Nat} {k : Nat} (hk : k < rs.length) (h : erl (rs.getD k r0) n (zI a) = false) : erlA n rs a = false := all_bad (f := fun r => erl r n (zI a)) hk h
theorem erlA_all {n : Nat} {rs : List Rul} {a : List Nat} {k : Nat} (hk : rs.length ≤ k) (h : (rs.take k).all (fun r => erl r n (zI a)) = true) : erlA n rs a = true := all_full hk h
theorem early_spec {x : SW} (H : Zf) (p : Pb) (hp : PbL p) (a : List Nat) : F (psys x) 151 [.agg (pbB p), fzN a] H fun v G => v = .bool (erlA p.who.length p.rules a) ∧ G = H := by
 have h1 := hp.w; have h3 := hp.r; have h4 := hp.s
 refine Zq Tryd.func151 rfl u24 rfl ?_
 refine Zd (Za ?_)
 refine Lo u24 (ZK rfl rfl rfl) ?_
 refine Lo u24 (Zg (VVal.bool false) (.inr rfl) rfl) ?_
 refine Ze (Zc (Zd (Zd ?_)))
 refine Yo (Gh.freezePtrL (cs := pbB p) 2 0 rfl rfl rfl) ?_
 refine Za ?_
 refine Lo u24 (Zg (VVal.int .i64 0) (.inr rfl) rfl) ?_
 refine Ze (Zc (Zl ?_))
 refine Zu (mk 24 16777177) (env' := u24) rfl ?_
 refine ZA (fun (k : Nat) => p.rules.length - k) (fun (k : Nat) => [(5, iI (k : Nat))]) (fun (k : Nat) G => (k ≤ p.rules.length ∧ (p.rules.take k).all (fun r => erl r p.who.length (zI a)) = true) ∧ G = H ++ [.dead]) 0 rfl ?_ ?_
 ·refine ⟨?_, rfl⟩
  exact ⟨Nat.zero_le _, rfl⟩
 rintro k _ ⟨⟨hk, hall⟩, rfl⟩
 refine ZR (env' := u24) rfl ?_
 refine Zd (Zd (Za ?_))
 refine Lo u24 (Zb (.inl rfl) rfl) ?_
 refine Lo u24 (rfl) ?_
 refine Lo u24 (W2r rfl rfl rfl rfl) ?_
 refine Lo u24 (rfl) ?_
 refine Lo u24 (rfl) ?_
 refine Ze (Zc ?_)
 refine Zk _ rfl (fun hc1 => ?_) (fun hc1 => ?_)
 ·try simp only [qB, qN] at hc1
  refine Zj (Zc (Zd (Zl (Zd ?_))))
  refine ZS [0, 1, 2, 3, 4, 5, 6, 7, 8, 9, 10] #[0, 1, 0, 7, 15, 0, 32, 96, 0, 511, 1023] XH5 XH5 XH5 ?_
  refine Oo u24 .calm rfl (rfl) ?_
  refine Oo u24 .look rfl (W2r rfl rfl rfl rfl) ?_
  refine Oo u24 .calm rfl (Zb (.inl rfl) rfl) ?_
  refine Oo u24 .calm rfl (W18 rfl rfl rfl rfl rfl rfl rfl) ?_
  refine Oo u24 .look rfl (W2p rfl rfl rfl rfl rfl) ?_
  refine Oo u24 .calm rfl (rfl) ?_
  refine Oo u24 .look rfl (W2r rfl rfl rfl rfl) ?_
  refine Oo u24 .look rfl (rfl) ?_
  refine Oo u24 .calm rfl (Zb (.inl rfl) rfl) ?_
  refine Yc (env' := u24) rfl rfl rfl rfl rfl (by exact fEarlyN _ _ _ _ (h4 _ (rul_mem (by omega)))) XH10 rfl rfl ?_
  refine Oo u24 .calm rfl (rfl) ?_
  refine ZY [] XH5 (trivial) ?_
  refine Zc ?_
  refine Zk _ rfl (fun hc2 => ?_) (fun hc2 => ?_)
  ·try simp only [qB, qN] at hc2
   refine Zd (Za ?_)
   refine Lo u24 (Zg (VVal.bool false) (.inr rfl) rfl) ?_
   refine Ze (Zc (Zi (ZE (Zm (Yf (ZE (Zm ?_)))))))
   refine W10 (.inr rfl) (Zh rfl rfl) ?_
   exact W5q
  ·try simp only [qB, qN] at hc2
   refine Zj (Zr (Zc (Za ?_)))
   refine Lo u24 (Zb (.inl rfl) rfl) ?_
   refine Lo u24 (W14 rfl rfl rfl) ?_
   refine Lo u24 (Zb (.inr rfl) rfl) ?_
   refine Ze ?_
   refine Zs (mk 24 16777177) (env' := u24) rfl ⟨k + 1, ?_, rfl, ?_⟩
   ·first | omega | (simp only []; omega)
   ·exact ⟨⟨by omega, all_step (by omega) hall (by assumption)⟩, rfl⟩
 ·try simp only [qB, qN] at hc1
  refine ZH (ZI (Zw (ZG (Zc (Zd (Za ?_))))))
  refine Lo u24 (Zg (VVal.bool true) (.inr rfl) rfl) ?_
  refine Ze (Zc (Zi ?_))
  refine W10 (.inr rfl) (Zh rfl rfl) ?_
  exact W5q
end Go.Proofs.YtenkjadobkjaeaaDoor.VT
