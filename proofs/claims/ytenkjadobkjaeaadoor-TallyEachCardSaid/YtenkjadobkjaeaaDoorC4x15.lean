/- Proved: Rows.TallyEachCardSaid, the statement TallyEach with its card, of the given program at the commit; no conditions beyond those in the statement. -/
import Derived.Test.YtenkjadobkjaeaaDoorC4x14
set_option autoImplicit false
set_option linter.unusedVariables false
set_option linter.unusedSimpArgs false
set_option maxHeartbeats 4000000
set_option maxRecDepth 100000
namespace Go.Proofs.YtenkjadobkjaeaaDoor.VT
open Go Go.V Go.RowKit
abbrev u62 {a0 a1 a2 a3 a4 a5 a6 a7 a8 a9 a10 a11 a12 a13 a14 a15 a16 a17 a18 a19 a20 a21 a22 a23 a24 a25 a26 a27 a28 a29 a30 a31 a32 a33 a34 a35 a36 a37 a38 a39 a40 a41 a42 a43 a44 a45 a46 a47 a48 a49 a50 a51 a52 a53 a54 a55 a56 a57 a58 a59 a60 a61 : VVal} : VEnv := a0 :: a1 :: a2 :: a3 :: a4 :: a5 :: a6 :: a7 :: a8 :: a9 :: a10 :: a11 :: a12 :: a13 :: a14 :: a15 :: a16 :: a17 :: a18 :: a19 :: a20 :: a21 :: a22 :: a23 :: a24 :: a25 :: a26 :: a27 :: a28 :: a29 :: a30 :: a31 :: a32 :: a33 :: a34 :: a35 :: a36 :: a37 :: a38 :: a39 :: a40 :: a41 :: a42 :: a43 :: a44 :: a45 :: a46 :: a47 :: a48 :: a49 :: a50 :: a51 :: a52 :: a53 :: a54 :: a55 :: a56 :: a57 :: a58 :: a59 :: a60 :: a61 :: []
namespace MM
theorem Yo (n : Nat) (l : List (BitVec 64)) : (fzW l).under n = true := VVal.underL_map fun _ => rfl
theorem YA (n : Nat) (l : List (BitVec 64)) : VVal.underL n (l.map iW) = true := VVal.underL_map fun _ => rfl
theorem mapI_under (n : Nat) (l : List Int) : VVal.underL n (l.map iI) = true := VVal.underL_map fun _ => rfl
theorem mapW_one (l : List (BitVec 64)) : (l.map iW).all VVal.one = true := by rw [List.all_map]; exact List.all_eq_true.2 fun _ _ => rfl
theorem mapW_all {l : List (BitVec 64)} : Zq (l.map iW) 0 (l.length * 1) = some (l.map iW) := by
  unfold Zq; rw [if_pos XH17, List.drop_zero, List.take_of_length_le XH17]
theorem YD {L : Zd} {p : Nat} {k : VBlk} (h : L[p]? = some k) : L = L.set p k := by
  apply List.ext_getElem?
  intro i
  rw [List.getElem?_set]
  by_cases e : p = i
  · subst e; rw [h]; rw [if_pos rfl, if_pos (List.getElem?_eq_some_iff.1 h).1]
  · rw [if_neg e]
section
variable {T : TypeId → Option VTy} {ρ : Operand → VVal} {H : Zd} {op : Op}
theorem v_eqNilF {t : TypeId} {x y : Operand} {ty : TypeId} {cs : List VVal} {len es : Nat} {ex : Bool} {i : VTy} {e : TypeId} (ho : op = .binOp .eql t x y ty) (hx : ρ x = .fsl cs len es ex) (hy : ρ y = .slice none 0 0 true 0) (hT : T t = some i) (hd : i.desc = .slice e) (hl : len ≠ 0) : vop T ρ H op = some (.bool false, H) := by
  rw [ho]; simp [vop, vbin, hx, hy, veq, hT, hd, hl]
theorem v_wHi {t e : TypeId} {x hi : Operand} {y z : VTy} {l : List (BitVec 64)} {k : Nat} {kd : IntKind} (ho : op = .slice t x none (some hi) none) (hy : T t = some y) (hd : y.desc = .slice e) (hz : T e = some z) (hs : z.size = 1) (hx : ρ x = fzW l) (hh : ρ hi = .int kd (k : Nat)) (hk : k ≤ l.length) : vop T ρ H op = some (fzW (l.take k), H) := by
  rw [v_sliceHi ho hy hd hz hs hx hh hk XH17]
  simp [fzW, Nat.min_eq_left hk, List.map_take]
theorem v_wLo {t e : TypeId} {x lo : Operand} {y z : VTy} {l : List (BitVec 64)} {k : Nat} {kd : IntKind} (ho : op = .slice t x (some lo) none none) (hy : T t = some y) (hd : y.desc = .slice e) (hz : T e = some z) (hs : z.size = 1) (hx : ρ x = fzW l) (hh : ρ lo = .int kd (k : Nat)) (hk : k ≤ l.length) : vop T ρ H op = some (fzW (l.drop k), H) := by
  rw [v_sliceLo ho hy hd hz hs hx hh hk XH17]
  simp [fzW, List.map_drop]
end
abbrev mtB (rows : List (BitVec 64)) (O : List Int) : VBlk := .cells (fzW rows :: O.map iI) true
abbrev seB (w : BitVec 64) : VBlk := .cells [iW w] true
def mtH (H : Zd) (p q : Nat) (rows : List (BitVec 64)) (s : GSt) : Zd := (H.set p (mtB rows s.1)).set q (seB s.2)
section
variable {H L : Zd} {p q : Nat} {rows : List (BitVec 64)} {s : GSt}
theorem mtH_len {n : Nat} (h : H.length = n) : (mtH H p q rows s).length = n := by unfold mtH; rw [List.length_set, List.length_set]; exact h
theorem mtH_id {O : List Int} {w : BitVec 64} (hp : H[p]? = some (mtB rows O)) (hq : H[q]? = some (seB w)) : mtH H p q rows (O, w) = H := by
  unfold mtH; rw [← YD hp, ← YD hq]
theorem mt_q (hq : q < H.length) : (mtH H p q rows s ++ L)[q]? = some (seB s.2) := by
  unfold mtH; exact Zo (List.getElem?_set_self (by rw [List.length_set]; exact hq))
theorem mt_p (hp : p < H.length) (hpq : p ≠ q) : (mtH H p q rows s ++ L)[p]? = some (mtB rows s.1) := by
  unfold mtH; exact Zo (by rw [List.getElem?_set_ne (Ne.symm hpq)]; exact List.getElem?_set_self hp)
theorem mt_setq {w : BitVec 64} (hq : q < H.length) : (mtH H p q rows s ++ L).set q (seB w) = mtH H p q rows (s.1, w) ++ L := by
  rw [Ye (by rw [mtH_len rfl]; exact hq)]; unfold mtH; rw [List.set_set]
theorem mt_setp0 {k : VBlk} (hp : p < H.length) (hpq : p ≠ q) : (mtH H p q rows s ++ L).set p k = (H.set p k).set q (seB s.2) ++ L := by
  rw [Ye (by rw [mtH_len rfl]; exact hp)]; unfold mtH
  rw [List.set_comm _ _ (Ne.symm hpq), List.set_set]
theorem mt_setp {u : Int} {r : Int} (hp : p < H.length) (hpq : p ≠ q) (hu : u.toNat < s.1.length) : (mtH H p q rows s ++ L).set p (.cells (Zt (fzW rows :: s.1.map iI) (0 + 1 + u.toNat * 1) [iI r]) true) = mtH H p q rows (s.1.set u.toNat r, s.2) ++ L := by
  have : Zt (fzW rows :: s.1.map iI) (0 + 1 + u.toNat * 1) [iI r] = fzW rows :: (s.1.set u.toNat r).map iI := by
    rw [show 0 + 1 + u.toNat * 1 = u.toNat + 1 by omega]
    unfold Zt
    rw [List.map_set, List.set_eq_take_append_cons_drop, if_pos (by rw [List.length_map]; exact hu)]; simp
  rw [this, mt_setp0 hp hpq]; rfl
theorem mt_mt {t : GSt} (hp : p < H.length) (hq : q < H.length) (hpq : p ≠ q) : mtH (mtH H p q rows s ++ L) p q rows t = mtH H p q rows t ++ L := by
  have : mtH (mtH H p q rows s ++ L) p q rows t = ((mtH H p q rows s ++ L).set p (mtB rows t.1)).set q (seB t.2) := rfl
  rw [this, mt_setp0 hp hpq, Ye (by simp; exact hq), List.set_set]; rfl
theorem mt_len6 {u : Int} {v : VVal} (h : u.toNat < s.1.length) : 0 + 1 + u.toNat * 1 + [v].length ≤ (fzW rows :: s.1.map iI).length := by
  show 0 + 1 + u.toNat * 1 + 1 ≤ (s.1.map iI).length + 1
  rw [List.length_map]; omega
theorem not_of_f {b : Bool} (h : b = false) : ¬ b = true := by rw [h]; decide
theorem mt_base (hl : True) : BaseOk H (mtH H p q rows s) := BaseOk.set (BaseOk.set (BaseOk.refl _) _ (by show VVal.underL _ (fzW rows :: s.1.map iI) = true; simp [VVal.underL, Yo, mapI_under])) _ rfl
theorem own_cell {u : Int} (h : 0 ≤ u ∧ u < s.1.length) : (fzW rows :: s.1.map iI)[0 + 1 + u.toNat * 1]? = some (iI (s.1.getD u.toNat 0)) := by
  rw [show 0 + 1 + u.toNat * 1 = u.toNat + 1 by omega, List.getElem?_cons_succ]
  have : u.toNat < s.1.length := by omega
  simp [List.getElem?_eq_getElem this]
end
theorem mset_spec {x : SW} (H : Zd) (w : BitVec 64) : F (psys x) 100 [iW w] H fun v G => v = .agg [iW w] ∧ G = H := by
  refine Zr Tryd.func100 rfl u6 rfl ?_
  refine Ze (Za ?_)
  refine Zn (env' := u6) rfl rfl (ZB rfl rfl) rfl ?_
  refine Zf (Zc (Ze (Za ?_)))
  refine Zn (env' := u6) rfl rfl (rfl) rfl ?_
  refine Zn (env' := u6) rfl rfl (Zb (.inl rfl) rfl) rfl ?_
  refine Zv rfl rfl rfl (by exact Of_spec _ 0#64 _) ?_
  rintro _ _ ⟨rfl, rfl⟩
  refine L_env (env' := u6) rfl ?_
  refine Zn (env' := u6) rfl rfl (ZM rfl rfl rfl rfl rfl rfl rfl XH8 XH6 XH18) rfl ?_
  refine Zf (Zc (Zi ?_))
  refine Yy (.inr rfl) (YO rfl rfl rfl rfl XH8 XH4) XH12 XH15 ?_
  exact ⟨rfl, rfl⟩
theorem fits_spec {x : SW} (H : Zd) (l : List (BitVec 64)) : F (psys x) 93 [fzW l] H fun v G => v = .bool (decide ((l.length : Int) ≤ 12)) ∧ G = H := by
  refine Zr Tryd.func93 rfl u6 rfl ?_
  refine Ze (Za ?_)
  refine Zn (env' := u6) rfl rfl (Zg (VVal.bool false) (.inr rfl) rfl) rfl ?_
  refine Zf (Zc (Ze (Za ?_)))
  refine Zn (env' := u6) rfl rfl (Zb (.inl rfl) rfl) rfl ?_
  refine Zn (env' := u6) rfl rfl (rfl) rfl ?_
  refine Zn (env' := u6) rfl rfl (rfl) rfl ?_
  refine Zn (env' := u6) rfl rfl (Zb (.inr rfl) rfl) rfl ?_
  refine Zf (Zc (Zi ?_))
  refine Yy (.inr rfl) (Zh rfl rfl) XH12 XH15 ?_
  exact ⟨rfl, rfl⟩
theorem grow_in {x : SW} {p q n : Nat} {rows : List (BitVec 64)} (hpq : p ≠ q) (ih : ∀ (H : Zd) (row : Int) (O : List Int) (S : BitVec 64), H[p]? = some (mtB rows O) → H[q]? = some (seB S) → 0 ≤ row → row < rows.length → Gok rows O → 64 - YC 64 S < n → F (psys x) 150 [.ptr (some (p, 0)), iI row, .ptr (some (q, 0))] H fun v G => v = .bool (grw rows n row (O, S)).1 ∧ G = mtH H p q rows (grw rows n row (O, S)).2) (H L : Zd) (s : GSt) (hp : p < H.length) (hq : q < H.length) (row : Int) (h0 : 0 ≤ row) (h1 : row < rows.length) (hk : Gok rows s.1) (hm : 64 - YC 64 s.2 < n) :
    F (psys x) 150 [.ptr (some (p, 0)), iI row, .ptr (some (q, 0))] (mtH H p q rows s ++ L) fun v G => v = .bool (grw rows n row s).1 ∧ G = mtH H p q rows (grw rows n row s).2 ++ L := by
  have := ih (mtH H p q rows s ++ L) row s.1 s.2 (mt_p hp hpq) (mt_q hq) h0 h1 hk hm
  rw [mt_mt hp hq hpq] at this
  exact this
theorem grow_s {x : SW} (p q n : Nat) (rows : List (BitVec 64)) (hpq : p ≠ q) (ih : ∀ (H : Zd) (row : Int) (O : List Int) (S : BitVec 64), H[p]? = some (mtB rows O) → H[q]? = some (seB S) → 0 ≤ row → row < rows.length → Gok rows O → 64 - YC 64 S < n → F (psys x) 150 [.ptr (some (p, 0)), iI row, .ptr (some (q, 0))] H fun v G => v = .bool (grw rows n row (O, S)).1 ∧ G = mtH H p q rows (grw rows n row (O, S)).2) (H : Zd) (row : Int) (O : List Int) (S : BitVec 64) (hp : H[p]? = some (mtB rows O)) (hq : H[q]? = some (seB S)) (h0 : 0 ≤ row) (h1 : row < rows.length) (hO : Gok rows O) (hm : 64 - YC 64 S < n + 1) (h62 : rows.length < 4611686018427387904) : F (psys x) 150 [.ptr (some (p, 0)), iI row, .ptr (some (q, 0))] H fun v G => v = .bool (grw rows (n + 1) row (O, S)).1 ∧ G = mtH H p q rows (grw rows (n + 1) row (O, S)).2 := by
  have hpH := Zz hp
  have hqH := Zz hq
  refine Zr Tryd.func150 rfl u62 rfl ?_
  refine Ze (Za ?_)
  refine Zn (env' := u62) rfl rfl (Zw rfl rfl rfl) rfl ?_
  refine Zn (env' := u62) rfl rfl (Zw rfl rfl rfl) rfl ?_
  refine Zn (env' := u62) rfl rfl (Zw rfl rfl rfl) rfl ?_
  refine Zn (env' := u62) rfl rfl (ZB rfl rfl) rfl ?_
  refine Zf (Zc (Ze (Ze ?_)))
  refine ZT [0, 1, 2, 3, 4, 5, 6, 7, 8, 9, 10, 11, 12] #[0, 1, 3, 7, 0, 31, 63, 0, 128, 384, 1023, 2047, 4095] XH5 XH5 XH5 ?_
  refine Z3 (env' := u62) (c := .look) rfl rfl rfl XH3 rfl rfl rfl ?_
  refine Z3 (env' := u62) (c := .calm) rfl rfl rfl (rfl) rfl rfl rfl ?_
  refine Z3 (env' := u62) (c := .calm) rfl rfl rfl (rfl) rfl rfl rfl ?_
  refine Z3 (env' := u62) (c := .look) rfl rfl rfl XH3 rfl rfl rfl ?_
  refine Z3 (env' := u62) (c := .look) rfl rfl rfl XH3 rfl rfl rfl ?_
  refine Z3 (env' := u62) (c := .calm) rfl rfl rfl XH38 rfl rfl rfl ?_
  refine Z3 (env' := u62) (c := .look) rfl rfl rfl XH3 rfl rfl rfl ?_
  refine Z3 (env' := u62) (c := .look) rfl rfl rfl XH3 rfl rfl rfl ?_
  refine Z3 (env' := u62) (c := .calm) rfl rfl rfl (rfl) rfl rfl rfl ?_
  refine Z3 (env' := u62) (c := .look) rfl rfl rfl XH3 rfl rfl rfl ?_
  refine Z3 (env' := u62) (c := .calm) rfl rfl rfl (v_andNotW rfl rfl rfl) rfl rfl rfl ?_
  refine Z6 (env' := u62) rfl rfl rfl rfl rfl (by exact mset_spec _ _) XH22 rfl rfl ?_
  refine Z6 (env' := u62) rfl rfl rfl rfl rfl (by exact All_spec _ _) XH22 rfl rfl ?_
  refine ZS [] XH5 (trivial) ?_
  refine Zc (Zl ?_)
  refine ZD (true :: true :: true :: false :: false :: false :: false :: true :: true :: true :: true :: true :: true :: true :: true :: true :: true :: true :: true :: true :: false :: true :: true :: true :: true :: true :: true :: true :: true :: true :: true :: true :: true :: true :: true :: true :: true :: true :: true :: true :: true :: true :: true :: true :: true :: true :: true :: true :: true :: true :: true :: true :: true :: true :: true :: true :: true :: true :: true :: true :: true :: true :: []) (env' := u62) rfl ?_
  refine B_rangeM cI (pl (rows.getD row.toNat 0 &&& ~~~S) 0) (fun l0 h => by cases h) rfl (fun l G R h => All1_spec _ _ _ _ h) (σ := GSt × Bool) (fun k s => mtH H p q rows s.1 ++ [.cells [.ptr (some (p, 0))] true, .cells [iI row] true, .cells [.ptr (some (q, 0))] true, .cells [.bool s.2] true, k]) ((O, S), false) (fun k => by show _ = mtH H p q rows (O, S) ++ _; rw [mtH_id hp hq, List.append_assoc]; rfl) (fun k s => by rw [List.length_append]; exact Zu (mtH_len rfl) rfl) (fun k k1 s => by rw [List.length_append]; exact ZC (mtH_len rfl)) (fun pre s => ∃ z, (pl (rows.getD row.toNat 0 &&& ~~~S) 0) = pre ++ z ∧ grL (grw rows n) row (pl (rows.getD row.toNat 0 &&& ~~~S) 0) (O, S) = grL (grw rows n) row z s.1 ∧ s.1.1 = O ∧ 64 - YC 64 s.1.2 ≤ n ∧ s.2 = false) ?_ (fun j pre c s => (j = Code.ret ∧ (grL (grw rows n) row (pl (rows.getD row.toNat 0 &&& ~~~S) 0) (O, S) = (true, s.1) ∧ s.2 = true))) rfl ?_ ?_ ?_
  · exact ⟨_, rfl, rfl, rfl, by show 64 - YC 64 S ≤ n; omega, rfl⟩
  · intro pre c post s hx hI kr kb hkr hkb
    obtain ⟨s1, res⟩ := s
    try dsimp only at hI ⊢
    obtain ⟨z, hz, hg, hO1, hcm, hres⟩ := hI
    have hres : res = false := hres
    subst hres
    obtain rfl : z = c :: post := List.append_cancel_left (hz.symm.trans hx)
    have hO1 : s1.1 = O := hO1
    have hcm : 64 - YC 64 s1.2 ≤ n := hcm
    have hg : grL (grw rows n) row (pl (rows.getD row.toNat 0 &&& ~~~S) 0) (O, S) = grL (grw rows n) row (c :: post) s1 := hg
    have hcx : c ∈ (pl (rows.getD row.toNat 0 &&& ~~~S) 0) := by rw [hx]; simp
    obtain ⟨_, hc64, _⟩ := mem_pl.1 hcx
    have hk1 : Gok rows s1.1 := by rw [hO1]; exact hO
    have hl1 : s1.1.length = 64 := hk1.len
    have hnn1 := hk1.nn c hc64
    refine Z7 (env' := u62) rfl ?_
    refine Za ?_
    refine Zn (env' := u62) rfl rfl (Zb (.inr rfl) rfl) rfl ?_
    refine Zf ?_
    refine ⟨rfl, (s1, false), rfl, ?_⟩
    try dsimp only
    refine Zl (Ze (Ze (Za ?_)))
    refine Zn (env' := u62) rfl rfl XH3 rfl ?_
    refine Zn (env' := u62) rfl rfl (rfl) rfl ?_
    refine Zn (env' := u62) rfl rfl XH3 rfl ?_
    refine Zn (env' := u62) rfl rfl (Zb (.inl rfl) rfl) rfl ?_
    refine Zn (env' := u62) rfl rfl (v_shrW rfl rfl rfl XH1) rfl ?_
    refine Zn (env' := u62) rfl rfl (v_andW (b := 1#64) rfl rfl rfl) rfl ?_
    refine Zn (env' := u62) rfl rfl (rfl) rfl ?_
    refine Zf (Zc ?_)
    refine Zm _ rfl (fun hc1 => ?_) (fun hc1 => ?_)
    · try simp only [decide_eq_true_eq, decide_eq_false_iff_not, Bool.not_eq_true', Bool.not_eq_false', bne_iff_ne, beq_iff_eq, Bool.and_eq_true, Bool.or_eq_true, Bool.not_eq_true, ge_iff_le, gt_iff_lt, Int.not_le, Int.not_lt, beq_eq_false_iff_ne, bne_eq_false_iff_eq, ne_eq, Decidable.not_not, ZR, Ya, Z8] at hc1
      refine ZO (ZQ (ZN ?_))
      have hseen : s1.2.getLsbD c = true := sh1.1 (by assumption)
      refine ⟨(s1, false), rfl, .inl ⟨rfl, ?_⟩⟩
      exact ⟨post, by rw [hx, List.append_assoc]; rfl, by rw [hg, grL, if_pos hseen], hO1, hcm, rfl⟩
    · try simp only [decide_eq_true_eq, decide_eq_false_iff_not, Bool.not_eq_true', Bool.not_eq_false', bne_iff_ne, beq_iff_eq, Bool.and_eq_true, Bool.or_eq_true, Bool.not_eq_true, ge_iff_le, gt_iff_lt, Int.not_le, Int.not_lt, beq_eq_false_iff_ne, bne_eq_false_iff_eq, ne_eq, Decidable.not_not, ZR, Ya, Z8] at hc1
      refine Zk (Zc (Ze ?_))
      refine ZT [0, 1, 2, 3, 4, 5, 6, 7] #[0, 1, 3, 0, 8, 31, 63, 127] XH5 XH5 XH5 ?_
      have hnseen : ¬ s1.2.getLsbD c = true := fun e => absurd (sh1.2 e) (by assumption)
      have hcg := come_grow (s := s1.2) (t := s1.2 ||| 1#64 <<< c) (fun a ha => (or1 hc64).2 (.inl ha)) ⟨c, (or1 hc64).2 (.inr rfl), bool_f hnseen⟩
      have hcl := come_le (s1.2 ||| 1#64 <<< c)
      refine Z3 (env' := u62) (c := .look) rfl rfl rfl XH3 rfl rfl rfl ?_
      refine Z3 (env' := u62) (c := .calm) rfl rfl rfl (rfl) rfl rfl rfl ?_
      refine Z3 (env' := u62) (c := .look) rfl rfl rfl XH3 rfl rfl rfl ?_
      refine Z3 (env' := u62) (c := .calm) rfl rfl rfl (Zb (.inl rfl) rfl) rfl rfl rfl ?_
      refine Z3 (env' := u62) (c := .calm) rfl rfl rfl (v_shl1 rfl rfl rfl XH1) rfl rfl rfl ?_
      refine Z3 (env' := u62) (c := .calm) rfl rfl rfl (v_orW rfl rfl rfl) rfl rfl rfl ?_
      refine Z3 (env' := u62) (c := .calm) rfl rfl rfl (rfl) rfl rfl rfl ?_
      refine Z3 (env' := u62) (c := .turn) rfl rfl rfl (ZM rfl rfl rfl rfl rfl rfl rfl XH37 XH6 (by exact mt_setq hqH)) rfl rfl rfl ?_
      refine ZS [] XH5 (trivial) ?_
      refine Zc (Ze ?_)
      refine ZT [0, 1, 2, 3, 4, 5, 6, 7, 8, 9, 10, 11, 12, 13, 14, 15, 16, 17, 18] #[0, 0, 1, 5, 15, 31, 63, 127, 255, 255, 255, 767, 2815, 7935, 16127, 32511, 255, 131071, 262143] XH5 XH5 XH5 ?_
      refine Z3 (env' := u62) (c := .look) rfl rfl rfl XH11 rfl rfl rfl ?_
      refine Z3 (env' := u62) (c := .calm) rfl rfl rfl (Zb (.inl rfl) rfl) rfl rfl rfl ?_
      refine Z3 (env' := u62) (c := .calm) rfl rfl rfl (rfl) rfl rfl rfl ?_
      refine Z3 (env' := u62) (c := .calm) rfl rfl rfl (rfl) rfl rfl rfl ?_
      refine Z3 (env' := u62) (c := .calm) rfl rfl rfl XH36 rfl rfl rfl ?_
      refine Z3 (env' := u62) (c := .look) rfl rfl rfl XH16 rfl rfl rfl ?_
      refine Z3 (env' := u62) (c := .calm) rfl rfl rfl (rfl) rfl rfl rfl ?_
      refine Z3 (env' := u62) (c := .calm) rfl rfl rfl (Zb (.inl rfl) rfl) rfl rfl rfl ?_
      refine O_split 43 (env1 := u62) (env2 := u62) rfl rfl rfl (fun hg2 => ?_) (fun hg2 => ?_)
      · try simp only [decide_eq_true_eq, decide_eq_false_iff_not, Bool.not_eq_true', Bool.not_eq_false', bne_iff_ne, beq_iff_eq, Bool.and_eq_true, Bool.or_eq_true, Bool.not_eq_true, ge_iff_le, gt_iff_lt, Int.not_le, Int.not_lt, beq_eq_false_iff_ne, bne_eq_false_iff_eq, ne_eq, Decidable.not_not, ZR, Ya, Z8] at hg2
        refine O_off (env' := u62) rfl rfl rfl rfl ?_
        refine O_off (env' := u62) rfl rfl rfl rfl ?_
        refine O_off (env' := u62) rfl rfl rfl rfl ?_
        refine O_off (env' := u62) rfl rfl rfl rfl ?_
        refine O_off (env' := u62) rfl rfl rfl rfl ?_
        refine O_off (env' := u62) rfl rfl rfl rfl ?_
        refine O_off (env' := u62) rfl rfl rfl rfl ?_
        refine O_off (env' := u62) rfl rfl rfl rfl ?_
        refine O_off (env' := u62) rfl rfl rfl rfl ?_
        refine O_off (env' := u62) rfl rfl rfl rfl ?_
        refine Z3 (env' := u62) (c := .calm) rfl rfl rfl (Yb (VVal.bool true) rfl rfl rfl) rfl rfl rfl ?_
        refine ZS [] XH5 (trivial) ?_
        refine Zc ?_
        refine ZX rfl rfl ?_
        refine Ze ?_
        refine ZT [0, 1, 2, 3, 4, 5, 6, 7] #[0, 0, 0, 4, 1, 17, 63, 127] XH5 XH5 XH5 ?_
        refine Z3 (env' := u62) (c := .look) rfl rfl rfl XH11 rfl rfl rfl ?_
        refine Z3 (env' := u62) (c := .calm) rfl rfl rfl (Zb (.inl rfl) rfl) rfl rfl rfl ?_
        refine Z3 (env' := u62) (c := .look) rfl rfl rfl XH11 rfl rfl rfl ?_
        refine Z3 (env' := u62) (c := .calm) rfl rfl rfl (v_addI rfl rfl rfl XH1) rfl rfl rfl ?_
        refine Z3 (env' := u62) (c := .calm) rfl rfl rfl (rfl) rfl rfl rfl ?_
        refine Z3 (env' := u62) (c := .calm) rfl rfl rfl (rfl) rfl rfl rfl ?_
        refine Z3 (env' := u62) (c := .calm) rfl rfl rfl XH36 rfl rfl rfl ?_
        refine Z3 (env' := u62) (c := .turn) rfl rfl rfl (ZM rfl rfl rfl rfl rfl rfl rfl XH37 XH31 XH33) rfl rfl rfl ?_
        refine ZS [] XH5 (trivial) ?_
        refine Zc (Ze (Za ?_))
        refine Zn (env' := u62) rfl rfl (Yn (VVal.bool true) rfl rfl rfl rfl rfl rfl rfl XH37 XH6 (by exact ZC (mtH_len rfl))) rfl ?_
        refine Zf (Zc (Zi (ZP ?_)))
        refine ⟨(_, true), rfl, .inr ⟨Code.ret, rfl, ⟨rfl, ?_⟩⟩⟩
        first
          | exact ⟨by rw [hg, grL, if_neg hnseen, if_pos (by assumption)]; rfl, rfl⟩
          | exact ⟨by rw [hg, grL, if_neg hnseen, if_neg hno, if_pos (by assumption)]; rfl, rfl⟩
      · try simp only [decide_eq_true_eq, decide_eq_false_iff_not, Bool.not_eq_true', Bool.not_eq_false', bne_iff_ne, beq_iff_eq, Bool.and_eq_true, Bool.or_eq_true, Bool.not_eq_true, ge_iff_le, gt_iff_lt, Int.not_le, Int.not_lt, beq_eq_false_iff_ne, bne_eq_false_iff_eq, ne_eq, Decidable.not_not, ZR, Ya, Z8] at hg2
        have hno : ¬ s1.1.getD c 0 = 0 := by assumption
        have hgr := grw_ok (rows := rows) (n := n) (row := s1.1.getD c 0 - 1) (s := (s1.1, s1.2 ||| 1#64 <<< c)) (by omega) (by omega) hk1 XH30
        refine Z3 (env' := u62) (c := .look) rfl rfl rfl XH11 rfl rfl rfl ?_
        refine Z3 (env' := u62) (c := .look) rfl rfl rfl XH11 rfl rfl rfl ?_
        refine Z3 (env' := u62) (c := .calm) rfl rfl rfl (Zb (.inl rfl) rfl) rfl rfl rfl ?_
        refine Z3 (env' := u62) (c := .calm) rfl rfl rfl (rfl) rfl rfl rfl ?_
        refine Z3 (env' := u62) (c := .calm) rfl rfl rfl (rfl) rfl rfl rfl ?_
        refine Z3 (env' := u62) (c := .calm) rfl rfl rfl XH36 rfl rfl rfl ?_
        refine Z3 (env' := u62) (c := .look) rfl rfl rfl XH16 rfl rfl rfl ?_
        refine Z3 (env' := u62) (c := .calm) rfl rfl rfl (v_subI rfl rfl rfl XH1) rfl rfl rfl ?_
        refine Z3 (env' := u62) (c := .look) rfl rfl rfl XH11 rfl rfl rfl ?_
        refine Z6 (env' := u62) rfl rfl rfl rfl rfl (by exact grow_in hpq ih H _ (s1.1, s1.2 ||| 1#64 <<< c) hpH hqH _ (show (0 : Int) ≤ s1.1.getD c 0 - 1 by omega) (show s1.1.getD c 0 - 1 < (rows.length : Int) by omega) hk1 XH30) XH22 rfl rfl ?_
        refine Z3 (env' := u62) (c := .calm) rfl rfl rfl (Yl rfl rfl rfl) rfl rfl rfl ?_
        refine ZS [] XH5 (trivial) ?_
        refine Zc ?_
        refine Zm _ rfl (fun hc3 => ?_) (fun hc3 => ?_)
        · try simp only [decide_eq_true_eq, decide_eq_false_iff_not, Bool.not_eq_true', Bool.not_eq_false', bne_iff_ne, beq_iff_eq, Bool.and_eq_true, Bool.or_eq_true, Bool.not_eq_true, ge_iff_le, gt_iff_lt, Int.not_le, Int.not_lt, beq_eq_false_iff_ne, bne_eq_false_iff_eq, ne_eq, Decidable.not_not, ZR, Ya, Z8] at hc3
          refine Ze ?_
          refine ZT [0, 1, 2, 3, 4, 5, 6, 7] #[0, 0, 0, 4, 1, 17, 63, 127] XH5 XH5 XH5 ?_
          refine Z3 (env' := u62) (c := .look) rfl rfl rfl XH11 rfl rfl rfl ?_
          refine Z3 (env' := u62) (c := .calm) rfl rfl rfl (Zb (.inl rfl) rfl) rfl rfl rfl ?_
          refine Z3 (env' := u62) (c := .look) rfl rfl rfl XH11 rfl rfl rfl ?_
          refine Z3 (env' := u62) (c := .calm) rfl rfl rfl (v_addI rfl rfl rfl XH1) rfl rfl rfl ?_
          refine Z3 (env' := u62) (c := .calm) rfl rfl rfl (rfl) rfl rfl rfl ?_
          refine Z3 (env' := u62) (c := .calm) rfl rfl rfl (rfl) rfl rfl rfl ?_
          refine Z3 (env' := u62) (c := .calm) rfl rfl rfl XH36 rfl rfl rfl ?_
          refine Z3 (env' := u62) (c := .turn) rfl rfl rfl (ZM rfl rfl rfl rfl rfl rfl rfl XH37 XH31 XH33) rfl rfl rfl ?_
          refine ZS [] XH5 (trivial) ?_
          refine Zc (Ze (Za ?_))
          refine Zn (env' := u62) rfl rfl (Yn (VVal.bool true) rfl rfl rfl rfl rfl rfl rfl XH37 XH6 (by exact ZC (mtH_len rfl))) rfl ?_
          refine Zf (Zc (Zi (ZP ?_)))
          refine ⟨(_, true), rfl, .inr ⟨Code.ret, rfl, ⟨rfl, ?_⟩⟩⟩
          first
            | exact ⟨by rw [hg, grL, if_neg hnseen, if_pos (by assumption)]; rfl, rfl⟩
            | exact ⟨by rw [hg, grL, if_neg hnseen, if_neg hno, if_pos (by assumption)]; rfl, rfl⟩
        · try simp only [decide_eq_true_eq, decide_eq_false_iff_not, Bool.not_eq_true', Bool.not_eq_false', bne_iff_ne, beq_iff_eq, Bool.and_eq_true, Bool.or_eq_true, Bool.not_eq_true, ge_iff_le, gt_iff_lt, Int.not_le, Int.not_lt, beq_eq_false_iff_ne, bne_eq_false_iff_eq, ne_eq, Decidable.not_not, ZR, Ya, Z8] at hc3
          refine Zk (Zy ?_)
          have hcg2 : YC 64 (s1.2 ||| 1#64 <<< c) ≤ YC 64 (grw rows n (s1.1.getD c 0 - 1) (s1.1, s1.2 ||| 1#64 <<< c)).2.2 := come_le2 hgr.sub
          refine ⟨(_, false), rfl, .inl ⟨rfl, ?_⟩⟩
          exact ⟨post, by rw [hx, List.append_assoc]; rfl, by rw [hg, grL, if_neg hnseen, if_neg hno, if_neg (not_of_f (by assumption))]; rfl, ((hgr.no (by assumption)).1).trans hO1, (by show 64 - YC 64 (grw rows n (s1.1.getD c 0 - 1) (s1.1, s1.2 ||| 1#64 <<< c)).2.2 ≤ n; omega), rfl⟩
  · intro s k hk hI
    obtain ⟨s1, res⟩ := s
    try dsimp only at hI ⊢
    obtain ⟨z, hz, hg, hO1, hcm, hres⟩ := hI
    have hres : res = false := hres
    subst hres
    obtain rfl : z = [] := by simpa using hz
    refine Zy (Zc (Ze (Za ?_)))
    refine Zn (env' := u62) rfl rfl (Yn (VVal.bool false) rfl rfl rfl rfl rfl rfl rfl XH37 XH6 (by exact ZC (mtH_len rfl))) rfl ?_
    refine Zf (Zc (Zi ?_))
    refine Yy (.inr rfl) (vres_cell rfl rfl rfl rfl (by exact Zu (mtH_len rfl) rfl) (by first | rfl | assumption | exact own_cell (by omega) | exact fget (α := BitVec 64) 0 (by omega))) (by exact mt_base trivial) XH15 ?_
    exact ⟨by rw [show grw rows (n + 1) row (O, S) = (false, s1) from hg], by rw [show grw rows (n + 1) row (O, S) = (false, s1) from hg]⟩
  · rintro j pre c post s k hk hx (⟨rfl, hX⟩)
    obtain ⟨s1, res⟩ := s
    try dsimp only
    obtain ⟨hX1, hX2⟩ := hX
    have hX2 : res = true := hX2
    subst hX2
    refine J_ret ?_
    refine ZP (Zp ?_)
    refine Yy (.inr rfl) (vres_cell rfl rfl rfl rfl (by exact Zu (mtH_len rfl) rfl) (by first | rfl | assumption | exact own_cell (by omega) | exact fget (α := BitVec 64) 0 (by omega))) (by exact mt_base trivial) XH15 ?_
    exact ⟨by rw [show grw rows (n + 1) row (O, S) = (true, s1) from hX1], by rw [show grw rows (n + 1) row (O, S) = (true, s1) from hX1]⟩
end MM
open Go Go.V Go.RowKit
abbrev u27 {a0 a1 a2 a3 a4 a5 a6 a7 a8 a9 a10 a11 a12 a13 a14 a15 a16 a17 a18 a19 a20 a21 a22 a23 a24 a25 a26 : VVal} : VEnv := a0 :: a1 :: a2 :: a3 :: a4 :: a5 :: a6 :: a7 :: a8 :: a9 :: a10 :: a11 :: a12 :: a13 :: a14 :: a15 :: a16 :: a17 :: a18 :: a19 :: a20 :: a21 :: a22 :: a23 :: a24 :: a25 :: a26 :: []
namespace MM
theorem grow_spec {x : SW} (p q : Nat) (rows : List (BitVec 64)) (hpq : p ≠ q) (h62 : rows.length < 4611686018427387904) : ∀ (n : Nat) (H : Zd) (row : Int) (O : List Int) (S : BitVec 64), H[p]? = some (mtB rows O) → H[q]? = some (seB S) → 0 ≤ row → row < rows.length → Gok rows O → 64 - YC 64 S < n → F (psys x) 150 [.ptr (some (p, 0)), iI row, .ptr (some (q, 0))] H fun v G => v = .bool (grw rows n row (O, S)).1 ∧ G = mtH H p q rows (grw rows n row (O, S)).2
  | 0, _, _, _, _, _, _, _, _, _, h => absurd h (by omega)
  | n + 1, H, row, O, S, hp, hq, h0, h1, hO, hm => grow_s p q n rows hpq (fun H row O S a b c d e f => grow_spec p q rows hpq h62 n H row O S a b c d e f) H row O S hp hq h0 h1 hO hm h62
theorem grow_at {x : SW} (H : Zd) (rows : List (BitVec 64)) (O : List Int) (row : Int) (h0 : 0 ≤ row) (h1 : row < rows.length) (hO : Gok rows O) (h62 : rows.length < 4611686018427387904) : F (psys x) 150 [.ptr (some (H.length + 0, 0)), iI row, .ptr (some (H.length + 1, 0))] (H ++ [mtB rows O, seB 0#64]) fun v G => v = .bool (grw rows 65 row (O, 0#64)).1 ∧ G = H ++ [mtB rows (grw rows 65 row (O, 0#64)).2.1, seB (grw rows 65 row (O, 0#64)).2.2] := by
  have := grow_spec (x := x) (H.length + 0) (H.length + 1) rows (by omega) h62 65 (H ++ [mtB rows O, seB 0#64]) row O 0#64 (Zu rfl rfl) (Zu rfl rfl) h0 h1 hO (by rw [come_0]; omega)
  unfold mtH at this
  rw [ZC rfl, ZC rfl] at this
  exact this
theorem mtB_under {n : Nat} {rows : List (BitVec 64)} {O : List Int} : (mtB rows O).under n = true := by
  show VVal.underL n (fzW rows :: O.map iI) = true
  simp [VVal.underL, Yo, mapI_under]
def mskT (l : List (BitVec 64)) (t : BitVec 64) (k : Nat) : List (BitVec 64) := msk (l.take k) t ++ l.drop k
theorem beq_nat {a b : Nat} : ((a : Int) == (b : Int)) = (a == b) := Bool.eq_iff_iff.2 (by rw [beq_iff_eq, beq_iff_eq]; omega)
theorem mskT_len {l : List (BitVec 64)} {t : BitVec 64} {k : Nat} : (mskT l t k).length = l.length := by
  unfold mskT; rw [List.length_append, Ym, List.length_take, List.length_drop]; omega
theorem mskT_0 {l : List (BitVec 64)} {t : BitVec 64} : mskT l t 0 = l := by unfold mskT msk; simp
theorem mskT_all {l : List (BitVec 64)} {t : BitVec 64} : mskT l t l.length = msk l t := by unfold mskT; simp
theorem mskT_get {l : List (BitVec 64)} {t : BitVec 64} {k : Nat} (h : k < l.length) : (mskT l t k).getD k 0 = l.getD k 0 := by
  unfold mskT
  rw [List.getD_eq_getElem?_getD, List.getElem?_append_right (by rw [Ym, List.length_take]; omega), Ym, List.length_take, Nat.min_eq_left (by omega), Nat.sub_self, List.getElem?_drop, Nat.add_zero, List.getD_eq_getElem?_getD]
theorem mskT_set {l : List (BitVec 64)} {t : BitVec 64} {k : Nat} (h : k < l.length) : (mskT l t k).set k (l.getD k 0 &&& ~~~t) = mskT l t (k + 1) := by
  unfold mskT
  rw [List.set_append_right _ _ (by rw [Ym, List.length_take]; omega), Ym, List.length_take, Nat.min_eq_left (by omega), Nat.sub_self, List.take_succ_eq_append_getElem h, List.drop_eq_getElem_cons h, List.getD_eq_getElem?_getD, List.getElem?_eq_getElem h]
  show msk (l.take k) t ++ ((l[k] &&& ~~~t) :: l.drop (k + 1)) = _
  unfold msk
  rw [List.map_append, List.append_assoc]; rfl
theorem splice_w {l : List (BitVec 64)} {k : Nat} {w : BitVec 64} (h : k < l.length) : Zt (l.map iW) (0 + k * 1) [iW w] = (l.set k w).map iW := by
  rw [show 0 + k * 1 = k by omega]
  unfold Zt
  rw [List.map_set, List.set_eq_take_append_cons_drop, if_pos (by rw [List.length_map]; exact h)]; simp
theorem size_spec {x : SW} (H : Zd) (rows : List (BitVec 64)) (h62 : rows.length < 4611686018427387904) : F (psys x) 130 [fzW rows] H fun v G => v = iI (szN rows : Nat) ∧ G = H := by
  refine Zr Tryd.func130 rfl u22 rfl ?_
  refine Ze (Za ?_)
  refine Zn (env' := u22) rfl rfl (Zg (VVal.int .i64 0) (.inr rfl) rfl) rfl ?_
  refine Zf (Zc (Ze (Za ?_)))
  refine Zn (env' := u22) rfl rfl (Zb (.inl rfl) rfl) rfl ?_
  refine Zn (env' := u22) rfl rfl (rfl) rfl ?_
  refine Zn (env' := u22) rfl rfl (Zw rfl rfl rfl) rfl ?_
  refine Zn (env' := u22) rfl rfl (Zb (.inr rfl) rfl) rfl ?_
  refine Zn (env' := u22) rfl rfl (Zg (VVal.int .i64 0) (.inr rfl) rfl) rfl ?_
  refine Zf (Zc (Ze (Ze (Za ?_))))
  refine Zn (env' := u22) rfl rfl (Zb (.inl rfl) rfl) rfl ?_
  refine Zn (env' := u22) rfl rfl (rfl) rfl ?_
  refine Zn (env' := u22) rfl rfl (Zg (VVal.int .i64 0) (.inl rfl) rfl) rfl ?_
  refine Zf (Zc (Zl ?_))
  refine ZD [true,true,true,false,false,true,true,true,true,true,true,false,false,true,true,true,true,true,true,true,true,true] (env' := u22) rfl ?_
  refine ZL (fun (k : Nat) => rows.length - k) (fun (k : Nat) => [(4, iI ((szO rows k).2 : Nat)), (12, iI (k : Nat))]) (fun (k : Nat) G => (k ≤ rows.length) ∧ G = H ++ [mtB rows (szO rows k).1]) 0 rfl ?_ ?_
  · refine ⟨?_, rfl⟩
    exact Nat.zero_le _
  rintro k _ ⟨hk, rfl⟩
  refine Z7 (env' := u22) rfl ?_
  refine Ze (Za ?_)
  refine Zn (env' := u22) rfl rfl (rfl) rfl ?_
  refine Zf (Zc (Ze ?_))
  refine Zm _ rfl (fun hc1 => ?_) (fun hc1 => ?_)
  · try simp only [decide_eq_true_eq, decide_eq_false_iff_not, Bool.not_eq_true', Bool.not_eq_false', bne_iff_ne, beq_iff_eq, Bool.and_eq_true, Bool.or_eq_true, Bool.not_eq_true, ge_iff_le, gt_iff_lt, Int.not_le, Int.not_lt, beq_eq_false_iff_ne, bne_eq_false_iff_eq, ne_eq, Decidable.not_not, ZR, Ya, Z8] at hc1
    refine Zk (Zc (Ze (Zl (Ze (Za ?_)))))
    refine Zn (env' := u22) rfl rfl (Zb (.inl rfl) rfl) rfl ?_
    refine Zn (env' := u22) rfl rfl (Zb (.inr rfl) rfl) rfl ?_
    refine Zf (Zc (Ze (Za ?_)))
    refine Zn (env' := u22) rfl rfl (ZB rfl rfl) rfl ?_
    refine Zn (env' := u22) rfl rfl (Yn (VVal.int .u64 0) rfl rfl rfl rfl rfl rfl rfl XH8 XH6 XH18) rfl ?_
    refine Zf (Zc (Ze (Za ?_)))
    refine Zn (env' := u22) rfl rfl (Zb (.inl rfl) rfl) rfl ?_
    refine Zn (env' := u22) rfl rfl (Zb (.inl rfl) rfl) rfl ?_
    refine Zv rfl rfl rfl (by exact grow_at H rows (szO rows k).1 k (by omega) (by omega) (szO_ok (by omega)) h62) ?_
    rintro _ _ ⟨rfl, rfl⟩
    refine L_env (env' := u22) rfl ?_
    refine Zf (Zc ?_)
    refine Zm _ rfl (fun hc2 => ?_) (fun hc2 => ?_)
    · try simp only [decide_eq_true_eq, decide_eq_false_iff_not, Bool.not_eq_true', Bool.not_eq_false', bne_iff_ne, beq_iff_eq, Bool.and_eq_true, Bool.or_eq_true, Bool.not_eq_true, ge_iff_le, gt_iff_lt, Int.not_le, Int.not_lt, beq_eq_false_iff_ne, bne_eq_false_iff_eq, ne_eq, Decidable.not_not, ZR, Ya, Z8] at hc2
      refine Za ?_
      refine Zn (env' := u22) rfl rfl (Zb (.inl rfl) rfl) rfl ?_
      refine Zn (env' := u22) rfl rfl (v_addI rfl rfl rfl (by have := @szO_le rows k; omega)) rfl ?_
      refine Zn (env' := u22) rfl rfl (Zb (.inr rfl) rfl) rfl ?_
      refine Zf (Zy (Zc (Za ?_)))
      refine Zn (env' := u22) rfl rfl (v_addI rfl rfl rfl XH1) rfl ?_
      refine Zn (env' := u22) rfl rfl (Zb (.inl rfl) rfl) rfl ?_
      refine Zf ?_
      first
        | (have hE : (((szO rows k).2 : Nat) : Int) + 1 = ((szO rows (k + 1)).2 : Nat) := by rw [szO, if_pos (by assumption)]; rfl); rw [hE]
        | (have hE : (szO rows k).2 = (szO rows (k + 1)).2 := by rw [szO]; simp only; rw [if_neg (not_of_f (by assumption))]); rw [hE]
      refine K_loopG [true,true,true,false,false,true,true,true,true,true,true,false,false,true,true,true,true,true,true,true,true,true] (env' := u22) rfl (Gh.dropTo (L := [mtB rows (szO rows (k + 1)).1]) (X := [seB _]) 1 rfl (BaseOk.refl _) (by first | (simp [VVal.underL, VVal.under, Yo]; done) | (simp [VVal.underL, VVal.under, Yo]; omega)) (by simp [mtB_under])) ⟨k + 1, ?_, rfl, ?_⟩
      · first | omega | (simp only []; omega)
      · exact ⟨by omega, rfl⟩
    · try simp only [decide_eq_true_eq, decide_eq_false_iff_not, Bool.not_eq_true', Bool.not_eq_false', bne_iff_ne, beq_iff_eq, Bool.and_eq_true, Bool.or_eq_true, Bool.not_eq_true, ge_iff_le, gt_iff_lt, Int.not_le, Int.not_lt, beq_eq_false_iff_ne, bne_eq_false_iff_eq, ne_eq, Decidable.not_not, ZR, Ya, Z8] at hc2
      refine Zk (Zy (Zc (Za ?_)))
      refine Zn (env' := u22) rfl rfl (v_addI rfl rfl rfl XH1) rfl ?_
      refine Zn (env' := u22) rfl rfl (Zb (.inl rfl) rfl) rfl ?_
      refine Zf ?_
      first
        | (have hE : (((szO rows k).2 : Nat) : Int) + 1 = ((szO rows (k + 1)).2 : Nat) := by rw [szO, if_pos (by assumption)]; rfl); rw [hE]
        | (have hE : (szO rows k).2 = (szO rows (k + 1)).2 := by rw [szO]; simp only; rw [if_neg (not_of_f (by assumption))]); rw [hE]
      refine K_loopG [true,true,true,false,false,true,true,true,true,true,true,false,false,true,true,true,true,true,true,true,true,true] (env' := u22) rfl (Gh.dropTo (L := [mtB rows (szO rows (k + 1)).1]) (X := [seB _]) 1 rfl (BaseOk.refl _) (by first | (simp [VVal.underL, VVal.under, Yo]; done) | (simp [VVal.underL, VVal.under, Yo]; omega)) (by simp [mtB_under])) ⟨k + 1, ?_, rfl, ?_⟩
      · first | omega | (simp only []; omega)
      · exact ⟨by omega, rfl⟩
  · try simp only [decide_eq_true_eq, decide_eq_false_iff_not, Bool.not_eq_true', Bool.not_eq_false', bne_iff_ne, beq_iff_eq, Bool.and_eq_true, Bool.or_eq_true, Bool.not_eq_true, ge_iff_le, gt_iff_lt, Int.not_le, Int.not_lt, beq_eq_false_iff_ne, bne_eq_false_iff_eq, ne_eq, Decidable.not_not, ZR, Ya, Z8] at hc1
    refine ZO (ZQ (ZH (ZN (Zc (Ze (Za ?_))))))
    refine Zn (env' := u22) rfl rfl (Zb (.inl rfl) rfl) rfl ?_
    refine Zn (env' := u22) rfl rfl (Zb (.inr rfl) rfl) rfl ?_
    refine Zf (Zc (Zi ?_))
    refine Yy (.inr rfl) (Zh rfl rfl) XH12 (by first | rfl | simp [VVal.under, VVal.underL, Yo, *]) ?_
    obtain rfl : k = rows.length := by omega
    exact ⟨rfl, rfl⟩
theorem size_m {x : SW} {n : Nat} (H : Zd) (l : List (BitVec 64)) (t : BitVec 64) (hn : n = (msk l t).length) (h62 : (msk l t).length < 4611686018427387904) : F (psys x) 130 [.fsl ((msk l t).map iW) n 1 false] H fun v G => v = iI (szN (msk l t) : Nat) ∧ G = H := by
  subst hn; exact size_spec H (msk l t) h62
theorem Clone_nil {x : SW} (H : Zd) : F (psys x) 99 [.slice none 0 0 true 0] H fun v G => v = .fsl [] 0 1 false ∧ G = H := by
  refine Zr Tryd.func99 rfl u8 rfl ?_
  refine Ze (Za ?_)
  refine Zn (env' := u8) rfl rfl (Zg (VVal.slice none 0 0 true 0) (.inr rfl) rfl) rfl ?_
  refine Zf (Zc (Ze (Ze (Za ?_))))
  refine Zn (env' := u8) rfl rfl (Zb (.inl rfl) rfl) rfl ?_
  refine Zn (env' := u8) rfl rfl (rfl) rfl ?_
  refine Zf (Zc ?_)
  refine ZX rfl rfl ?_
  refine Ze (Za ?_)
  refine Zn (env' := u8) rfl rfl (Zg (VVal.slice none 0 0 true 0) (.inr rfl) rfl) rfl ?_
  refine Zf (Zc (Zi (Zp ?_)))
  refine E_gh (.inr rfl) (Zh rfl rfl) (Gh.ansLV (BaseOk.refl _) (LV.nil H.length 1 []) rfl) ?_
  exact ⟨rfl, rfl⟩
theorem Clone_emp {x : SW} (H : Zd) : F (psys x) 99 [.slice none 0 0 false 0] H fun v G => v = .fsl [] 0 1 false ∧ G = H := by
  refine Zr Tryd.func99 rfl u8 rfl ?_
  refine Ze (Za ?_)
  refine Zn (env' := u8) rfl rfl (Zg (VVal.slice none 0 0 true 0) (.inr rfl) rfl) rfl ?_
  refine Zf (Zc (Ze (Ze (Za ?_))))
  refine Zn (env' := u8) rfl rfl (Zb (.inl rfl) rfl) rfl ?_
  refine Zn (env' := u8) rfl rfl (rfl) rfl ?_
  refine Zf (Zc ?_)
  refine Z4 rfl rfl ?_
  refine Zk (Zc (Ze (Za ?_)))
  refine Zn (env' := u8) rfl rfl (ZA rfl rfl (by decide) rfl) rfl ?_
  refine Zn (env' := u8) rfl rfl (Zb (.inl rfl) rfl) rfl ?_
  refine Zn (env' := u8) rfl rfl (v_appIn rfl rfl rfl rfl rfl rfl rfl (Zu rfl rfl) rfl rfl rfl rfl (by decide) (by decide) (by decide)) rfl ?_
  refine L_heap (H' := H ++ [.cells [] true]) (by rw [ZC rfl]; rfl) ?_
  refine Zn (env' := u8) rfl rfl (Zb (.inr rfl) rfl) rfl ?_
  refine Zf (Zc (Zi ?_))
  refine E_gh (.inr rfl) (Zh rfl rfl) (Gh.fsl (j := 0) (off := 0) (len := 0) (l := []) (BaseOk.refl _) rfl rfl (Nat.le_refl _) rfl) ?_
  exact ⟨rfl, rfl⟩
theorem Clone_c {x : SW} (H : Zd) (l : List (BitVec 64)) (hne : l ≠ []) (hl : l.length ≤ 1000000) : F (psys x) 99 [fzW l] H fun v G => v = .slice (some (H.length, 0)) l.length l.length (decide (l.length = 0)) 1 ∧ G = H ++ [.cells (l.map iW) true] := by
  refine Zr Tryd.func99 rfl u8 rfl ?_
  refine Ze (Za ?_)
  refine Zn (env' := u8) rfl rfl (Zg (VVal.slice none 0 0 true 0) (.inr rfl) rfl) rfl ?_
  refine Zf (Zc (Ze (Ze (Za ?_))))
  refine Zn (env' := u8) rfl rfl (Zb (.inl rfl) rfl) rfl ?_
  refine Zn (env' := u8) rfl rfl (v_eqNilF rfl rfl rfl rfl rfl (fun e => hne (List.eq_nil_of_length_eq_zero e))) rfl ?_
  refine Zf (Zc ?_)
  refine Z4 rfl rfl ?_
  refine Zk (Zc (Ze (Za ?_)))
  refine Zn (env' := u8) rfl rfl (ZA rfl rfl (by decide) rfl) rfl ?_
  refine Zn (env' := u8) rfl rfl (Zb (.inl rfl) rfl) rfl ?_
  refine L_opX rfl rfl (v_appE rfl rfl rfl rfl rfl rfl rfl rfl (by rw [List.length_map]; exact (Nat.mul_one _).symm) (mapW_one _) (by decide) (by show l.length * 8 ≤ _ ∧ l.length ≤ _; omega)) ?_
  rintro _ _ ⟨Z, i, rfl, rfl, hi⟩
  refine L_env (env' := u8) rfl ?_
  refine Zn (env' := u8) rfl rfl (Zb (.inr rfl) rfl) rfl ?_
  refine Zf (Zc (Zi ?_))
  refine E_gh (.inr rfl) (Zh rfl rfl) (Gh.pack (BaseOk.refl _) hi (YA _ _)) ?_
  exact ⟨rfl, rfl⟩
theorem Clone_0 {x : SW} (H : Zd) : F (psys x) 99 [fzW []] H fun v G => v = .fsl [] 0 1 false ∧ G = H := F_split0 (Clone_nil H) (Clone_emp H)
theorem Clone_L {x : SW} (H L : Zd) (l : List (BitVec 64)) (hne : l ≠ []) (hl : l.length ≤ 1000000) : F (psys x) 99 [fzW l] (H ++ L) fun v G => v = .slice (some (H.length + L.length, 0)) l.length l.length (decide (l.length = 0)) 1 ∧ G = H ++ (L ++ [.cells (l.map iW) true]) := by
  have := Clone_c (x := x) (H ++ L) l hne hl
  rw [List.length_append, List.append_assoc] at this
  exact this
theorem full_0 {x : SW} (H : Zd) (t : BitVec 64) : F (psys x) 102 [fzW [], iW t] H fun v G => v = .bool (Ys [] t) ∧ G = H := by
  refine Zr Tryd.func102 rfl u27 rfl ?_
  refine Ze (Za ?_)
  refine Zn (env' := u27) rfl rfl (Zg (VVal.bool false) (.inr rfl) rfl) rfl ?_
  refine Zf (Zc (Ze (Za ?_)))
  refine Zn (env' := u27) rfl rfl (Zb (.inl rfl) rfl) rfl ?_
  refine Zv rfl rfl rfl (by exact Clone_0 _) ?_
  rintro _ _ ⟨rfl, rfl⟩
  refine L_env (env' := u27) rfl ?_
  refine Zn (env' := u27) rfl rfl (Zb (.inr rfl) rfl) rfl ?_
  refine Zf (Zc (Ze (Ze (Za ?_))))
  refine Zn (env' := u27) rfl rfl (Zb (.inl rfl) rfl) rfl ?_
  refine Zn (env' := u27) rfl rfl (rfl) rfl ?_
  refine Zn (env' := u27) rfl rfl (Zg (VVal.int .i64 0) (.inl rfl) rfl) rfl ?_
  refine Zf (Zc (Zl ?_))
  refine ZD [false,false,true,true,true,false,true,true,true,true,false,false,true,true,true,true,true,true,true,true,true,true,true,true,true,true,true] (env' := u27) rfl ?_
  refine ZL (fun (k : Nat) => 0) (fun (k : Nat) => [(11, iI (k : Nat))]) (fun (k : Nat) G => (True) ∧ G = H ++ []) 0 rfl ?_ ?_
  · refine ⟨?_, rfl⟩
    trivial
  rintro k _ ⟨_, rfl⟩
  refine Z7 (env' := u27) rfl ?_
  refine Ze (Za ?_)
  refine Zn (env' := u27) rfl rfl (rfl) rfl ?_
  refine Zf (Zc (Ze ?_))
  refine Zm _ rfl (fun hc1 => ?_) (fun hc1 => ?_)
  · try simp only [decide_eq_true_eq, decide_eq_false_iff_not, Bool.not_eq_true', Bool.not_eq_false', bne_iff_ne, beq_iff_eq, Bool.and_eq_true, Bool.or_eq_true, Bool.not_eq_true, ge_iff_le, gt_iff_lt, Int.not_le, Int.not_lt, beq_eq_false_iff_ne, bne_eq_false_iff_eq, ne_eq, Decidable.not_not, ZR, Ya, Z8] at hc1
    exfalso; omega
  · try simp only [decide_eq_true_eq, decide_eq_false_iff_not, Bool.not_eq_true', Bool.not_eq_false', bne_iff_ne, beq_iff_eq, Bool.and_eq_true, Bool.or_eq_true, Bool.not_eq_true, ge_iff_le, gt_iff_lt, Int.not_le, Int.not_lt, beq_eq_false_iff_ne, bne_eq_false_iff_eq, ne_eq, Decidable.not_not, ZR, Ya, Z8] at hc1
    refine ZO (ZQ (ZH (ZN (Zc (Ze (Za ?_))))))
    refine Zn (env' := u27) rfl rfl (Zb (.inl rfl) rfl) rfl ?_
    refine Zv rfl rfl rfl (by exact size_spec _ [] (by decide)) ?_
    rintro _ _ ⟨rfl, rfl⟩
    refine L_env (env' := u27) rfl ?_
    refine Zn (env' := u27) rfl rfl (Zb (.inl rfl) rfl) rfl ?_
    refine Zn (env' := u27) rfl rfl (rfl) rfl ?_
    refine Zn (env' := u27) rfl rfl (rfl) rfl ?_
    refine Zn (env' := u27) rfl rfl (Zb (.inr rfl) rfl) rfl ?_
    refine Zf (Zc (Zi ?_))
    refine Yy (.inr rfl) (Zh rfl rfl) XH12 XH15 ?_
    exact ⟨rfl, rfl⟩
theorem full_c {x : SW} (H : Zd) (l : List (BitVec 64)) (t : BitVec 64) (hne : l ≠ []) (hl : l.length ≤ 1000000) : F (psys x) 102 [fzW l, iW t] H fun v G => v = .bool (Ys l t) ∧ G = H := by
  refine Zr Tryd.func102 rfl u27 rfl ?_
  refine Ze (Za ?_)
  refine Zn (env' := u27) rfl rfl (Zg (VVal.bool false) (.inr rfl) rfl) rfl ?_
  refine Zf (Zc (Ze (Za ?_)))
  refine Zn (env' := u27) rfl rfl (Zb (.inl rfl) rfl) rfl ?_
  refine Zv rfl rfl rfl (by exact Clone_L _ _ _ hne hl) ?_
  rintro _ _ ⟨rfl, rfl⟩
  refine L_env (env' := u27) rfl ?_
  refine Zn (env' := u27) rfl rfl (Zb (.inr rfl) rfl) rfl ?_
  refine Zf (Zc (Ze (Ze (Za ?_))))
  refine Zn (env' := u27) rfl rfl (Zb (.inl rfl) rfl) rfl ?_
  refine Zn (env' := u27) rfl rfl (rfl) rfl ?_
  refine Zn (env' := u27) rfl rfl (Zg (VVal.int .i64 0) (.inl rfl) rfl) rfl ?_
  refine Zf (Zc (Zl ?_))
  refine ZD [false,false,true,true,true,false,true,true,true,true,false,false,true,true,true,true,true,true,true,true,true,true,true,true,true,true,true] (env' := u27) rfl ?_
  refine ZL (fun (k : Nat) => l.length - k) (fun (k : Nat) => [(11, iI (k : Nat))]) (fun (k : Nat) G => (k ≤ l.length) ∧ G = H ++ [.cells ((mskT l t k).map iW) true]) 0 rfl ?_ ?_
  · refine ⟨?_, (by rw [mskT_0]; rfl)⟩
    exact Nat.zero_le _
  rintro k _ ⟨hk, rfl⟩
  refine Z7 (env' := u27) rfl ?_
  refine Ze (Za ?_)
  refine Zn (env' := u27) rfl rfl (rfl) rfl ?_
  refine Zf (Zc (Ze ?_))
  refine Zm _ rfl (fun hc1 => ?_) (fun hc1 => ?_)
  · try simp only [decide_eq_true_eq, decide_eq_false_iff_not, Bool.not_eq_true', Bool.not_eq_false', bne_iff_ne, beq_iff_eq, Bool.and_eq_true, Bool.or_eq_true, Bool.not_eq_true, ge_iff_le, gt_iff_lt, Int.not_le, Int.not_lt, beq_eq_false_iff_ne, bne_eq_false_iff_eq, ne_eq, Decidable.not_not, ZR, Ya, Z8] at hc1
    refine Zk (Zc (Ze (Zl (Ze (Za ?_)))))
    refine Zn (env' := u27) rfl rfl (Zb (.inl rfl) rfl) rfl ?_
    refine Zn (env' := u27) rfl rfl (Zb (.inr rfl) rfl) rfl ?_
    refine Zf (Zc (Za ?_))
    refine Zn (env' := u27) rfl rfl (Zb (.inl rfl) rfl) rfl ?_
    refine Zn (env' := u27) rfl rfl (Zb (.inl rfl) rfl) rfl ?_
    refine Zn (env' := u27) rfl rfl XH38 rfl ?_
    refine Zn (env' := u27) rfl rfl (by first | exact v_loadF rfl rfl rfl rfl (by first | exact fget0 (α := BitVec 64) 0 (by rw [mskT_len]; omega) | rfl) | exact v_load rfl rfl rfl rfl XH8 (by first | exact fget0 (α := BitVec 64) 0 (by rw [mskT_len]; omega) | rfl)) rfl ?_
    refine Zn (env' := u27) rfl rfl (Zb (.inl rfl) rfl) rfl ?_
    refine Zn (env' := u27) rfl rfl (v_andNotW rfl rfl rfl) rfl ?_
    refine Zn (env' := u27) rfl rfl XH38 rfl ?_
    refine Zn (env' := u27) rfl rfl (ZM rfl rfl rfl rfl rfl rfl rfl XH8 (by first | (simp [mskT_len]; done) | (simp [mskT_len]; omega)) (by exact (ZC rfl).trans (by rw [splice_w (by rw [mskT_len]; omega)]))) rfl ?_
    refine Zf (Zy (Zc (Za ?_)))
    refine Zn (env' := u27) rfl rfl (v_addI rfl rfl rfl XH1) rfl ?_
    refine Zn (env' := u27) rfl rfl (Zb (.inl rfl) rfl) rfl ?_
    refine Zf ?_
    have hE : (mskT l t k).set (k : Int).toNat ((mskT l t k).getD (k : Int).toNat 0 &&& ~~~t) = mskT l t (k + 1) := by rw [Int.toNat_natCast, mskT_get (by omega), mskT_set (by omega)]
    refine ZI [false,false,true,true,true,false,true,true,true,true,false,false,true,true,true,true,true,true,true,true,true,true,true,true,true,true,true] (env' := u27) rfl ⟨k + 1, ?_, rfl, ?_⟩
    · first | omega | (simp only []; omega)
    · exact ⟨by omega, by rw [← hE]; rfl⟩
  · try simp only [decide_eq_true_eq, decide_eq_false_iff_not, Bool.not_eq_true', Bool.not_eq_false', bne_iff_ne, beq_iff_eq, Bool.and_eq_true, Bool.or_eq_true, Bool.not_eq_true, ge_iff_le, gt_iff_lt, Int.not_le, Int.not_lt, beq_eq_false_iff_ne, bne_eq_false_iff_eq, ne_eq, Decidable.not_not, ZR, Ya, Z8] at hc1
    refine ZO (ZQ (ZH (ZN (Zc (Ze ?_)))))
    obtain rfl : k = l.length := by omega
    rw [mskT_all]
    refine Za ?_
    refine Zn (env' := u27) rfl rfl (Zb (.inl rfl) rfl) rfl ?_
    refine L_gh (Gh.freezeL (l := (msk l t).map iW) 22 0 rfl rfl (by rw [show l.length * 1 = (msk l t).length * 1 by rw [Ym]]; exact mapW_all) (Nat.le_refl _) rfl) ?_
    refine Zv rfl rfl rfl (by exact size_m _ _ _ (by rw [Ym]) (by rw [Ym]; omega)) ?_
    rintro _ _ ⟨rfl, rfl⟩
    refine L_env (env' := u27) rfl ?_
    refine Zn (env' := u27) rfl rfl (Zb (.inl rfl) rfl) rfl ?_
    refine Zn (env' := u27) rfl rfl (rfl) rfl ?_
    refine Zn (env' := u27) rfl rfl (rfl) rfl ?_
    refine Zn (env' := u27) rfl rfl (Zb (.inr rfl) rfl) rfl ?_
    refine Zf (Zc (Zi ?_))
    refine Yy (.inr rfl) (Zh rfl rfl) XH12 XH15 ?_
    exact ⟨by unfold Ys; rw [beq_nat], rfl⟩
end MM
open Go Go.V Go.RowKit
abbrev u33 {a0 a1 a2 a3 a4 a5 a6 a7 a8 a9 a10 a11 a12 a13 a14 a15 a16 a17 a18 a19 a20 a21 a22 a23 a24 a25 a26 a27 a28 a29 a30 a31 a32 : VVal} : VEnv := a0 :: a1 :: a2 :: a3 :: a4 :: a5 :: a6 :: a7 :: a8 :: a9 :: a10 :: a11 :: a12 :: a13 :: a14 :: a15 :: a16 :: a17 :: a18 :: a19 :: a20 :: a21 :: a22 :: a23 :: a24 :: a25 :: a26 :: a27 :: a28 :: a29 :: a30 :: a31 :: a32 :: []
abbrev u43 {a0 a1 a2 a3 a4 a5 a6 a7 a8 a9 a10 a11 a12 a13 a14 a15 a16 a17 a18 a19 a20 a21 a22 a23 a24 a25 a26 a27 a28 a29 a30 a31 a32 a33 a34 a35 a36 a37 a38 a39 a40 a41 a42 : VVal} : VEnv := a0 :: a1 :: a2 :: a3 :: a4 :: a5 :: a6 :: a7 :: a8 :: a9 :: a10 :: a11 :: a12 :: a13 :: a14 :: a15 :: a16 :: a17 :: a18 :: a19 :: a20 :: a21 :: a22 :: a23 :: a24 :: a25 :: a26 :: a27 :: a28 :: a29 :: a30 :: a31 :: a32 :: a33 :: a34 :: a35 :: a36 :: a37 :: a38 :: a39 :: a40 :: a41 :: a42 :: []
namespace MM
theorem full_spec {x : SW} (H : Zd) (l : List (BitVec 64)) (t : BitVec 64) (hl : l.length ≤ 1000000) : F (psys x) 102 [fzW l, iW t] H fun v G => v = .bool (Ys l t) ∧ G = H := by
  by_cases h : l = []
  · subst h; exact full_0 H t
  · exact full_c H l t h hl
theorem del_cells {l : List (BitVec 64)} {i : Nat} (hi : i < l.length) : Zt (Zt (l.map iW) i ((l.map iW).drop (i + 1))) (0 + (l.length - 1)) (Zx [VVal.int .u64 0] (l.length - (l.length - 1))) = (l.eraseIdx i ++ [0#64]).map iW := by
  rw [show l.length - (l.length - 1) = 1 by omega, show 0 + (l.length - 1) = l.length - 1 by omega]
  have hlen : ((l.eraseIdx i).map iW).length = l.length - 1 := by rw [List.length_map, List.length_eraseIdx_of_lt hi]
  have h1 : Zt (l.map iW) i ((l.map iW).drop (i + 1)) = (l.eraseIdx i).map iW ++ (l.map iW).drop (l.length - 1) := by
    unfold Zt
    rw [List.length_drop, List.length_map, show i + (l.length - (i + 1)) = l.length - 1 by omega, List.eraseIdx_eq_take_drop_succ, List.map_append, List.map_take, List.map_drop]
  rw [h1]
  unfold Zt
  rw [List.take_append_of_le_length (by omega), List.take_of_length_le (by omega), List.drop_of_length_le (by
    rw [List.length_append, hlen, List.length_drop, List.length_map]
    show _ ≤ l.length - 1 + 1
    omega), List.append_nil, List.map_append]
  rfl
theorem erase_all {l : List (BitVec 64)} {i : Nat} : Zq ((l.eraseIdx i ++ [0#64]).map iW) 0 ((l.eraseIdx i).length * 1) = some ((l.eraseIdx i).map iW) := by
  unfold Zq
  rw [if_pos (by rw [List.length_map, List.length_append]; omega), List.drop_zero, List.map_append, List.take_append_of_le_length XH17, List.take_of_length_le XH17]
theorem Delete_spec {x : SW} (H : Zd) (p : Nat) (l : List (BitVec 64)) (i : Nat) (ex : Bool) (hp : H[p]? = some (.cells (l.map iW) true)) (hi : i < l.length) (hl : l.length ≤ 1000000) : F (psys x) 98 [.slice (some (p, 0)) l.length l.length ex 1, iI (i : Nat), iI ((i : Int) + 1)] H fun v G => v = .slice (some (p, 0)) (l.length - 1) l.length ex 1 ∧ G = H.set p (.cells ((l.eraseIdx i ++ [0#64]).map iW) true) := by
  have hpl := Zz hp
  refine Zr Tryd.func98 rfl u33 rfl ?_
  refine Ze (Za ?_)
  refine Zn (env' := u33) rfl rfl (Zg (VVal.slice none 0 0 true 0) (.inr rfl) rfl) rfl ?_
  refine Zf (Zc (Ze (Za ?_)))
  refine Zn (env' := u33) rfl rfl (Zb (.inl rfl) rfl) rfl ?_
  refine Zn (env' := u33) rfl rfl (Zb (.inl rfl) rfl) rfl ?_
  refine Zn (env' := u33) rfl rfl (Zb (.inl rfl) rfl) rfl ?_
  refine Zn (env' := u33) rfl rfl (Zb (.inl rfl) rfl) rfl ?_
  refine Zn (env' := u33) rfl rfl (rfl) rfl ?_
  refine Zn (env' := u33) rfl rfl (v_slLH (l := i) (h := i + 1) (m := l.length) rfl rfl rfl rfl rfl rfl (vb_lhm (l := i) (h := i + 1) (m := l.length) (len := l.length) (cap := l.length) (by omega) (by omega) (by omega)) rfl (Nat.le_refl _) (by omega)) rfl ?_
  refine Zf (Zc (Ze (Ze (Za ?_))))
  refine Zn (env' := u33) rfl rfl (Zb (.inl rfl) rfl) rfl ?_
  refine Zn (env' := u33) rfl rfl (Zb (.inl rfl) rfl) rfl ?_
  refine Zn (env' := u33) rfl rfl (v_is false rfl (by rw [beq_eq_false_iff_ne]; omega)) rfl ?_
  refine Zf (Zc ?_)
  refine Z4 rfl rfl ?_
  refine Zk (Zc (Ze (Za ?_)))
  refine Zn (env' := u33) rfl rfl (Zb (.inl rfl) rfl) rfl ?_
  refine Zn (env' := u33) rfl rfl (rfl) rfl ?_
  refine Zn (env' := u33) rfl rfl (Zb (.inr rfl) rfl) rfl ?_
  refine Zf (Zc (Ze ?_))
  refine ZT [0, 1, 2, 3, 4, 5, 6, 7] #[0, 0, 3, 0, 0, 24, 63, 127] XH5 XH5 XH5 ?_
  refine Z3 (env' := u33) (c := .calm) rfl rfl rfl (Zb (.inl rfl) rfl) rfl rfl rfl ?_
  refine Z3 (env' := u33) (c := .calm) rfl rfl rfl (Zb (.inl rfl) rfl) rfl rfl rfl ?_
  refine Z3 (env' := u33) (c := .calm) rfl rfl rfl (v_val (v_slLH (l := 0) (h := i) (m := l.length) rfl rfl rfl rfl rfl rfl (vb_hi (by omega)) rfl (Nat.le_refl _) (by omega)) (show _ = VVal.slice (some (p, 0)) i l.length ex 1 by simp)) rfl rfl rfl ?_
  refine Z3 (env' := u33) (c := .calm) rfl rfl rfl (Zb (.inl rfl) rfl) rfl rfl rfl ?_
  refine Z3 (env' := u33) (c := .calm) rfl rfl rfl (Zb (.inl rfl) rfl) rfl rfl rfl ?_
  refine O_opX .calm rfl rfl rfl (v_slTail (l := i + 1) rfl rfl rfl rfl rfl rfl rfl (by omega) (get_out hp) (by rw [List.length_map])) rfl rfl ?_
  rintro v2 _ ⟨rfl, hsl, hsc⟩
  refine O_env (env' := u33) rfl ?_
  refine Z3 (env' := u33) (c := .turn) rfl rfl rfl (v_appIn rfl rfl rfl rfl rfl rfl rfl (get_out hp) hsl hsc (by rw [List.length_drop, List.length_map]) (by rw [← List.map_drop]; exact mapW_one _) (by show (i + (l.length - (i + 1))) * 8 ≤ _ ∧ _; omega) (by omega) XH17) rfl rfl rfl ?_
  refine Z3 (env' := u33) (c := .calm) rfl rfl rfl (Zb (.inr rfl) rfl) rfl rfl rfl ?_
  refine ZS [] XH5 (trivial) ?_
  refine Zc (Ze ?_)
  rw [Ye hpl, show i + (l.length - (i + 1)) = l.length - 1 by omega]
  refine Za ?_
  refine Zn (env' := u33) rfl rfl (Zb (.inl rfl) rfl) rfl ?_
  refine Zn (env' := u33) rfl rfl (Zb (.inl rfl) rfl) rfl ?_
  refine Zn (env' := u33) rfl rfl (rfl) rfl ?_
  refine Zn (env' := u33) rfl rfl (Zb (.inl rfl) rfl) rfl ?_
  refine Zn (env' := u33) rfl rfl (v_slLH (l := l.length - 1) (h := l.length) (m := l.length) rfl rfl rfl rfl rfl rfl (vb_lh (by omega) (Nat.le_refl _)) rfl (by omega) (by omega)) rfl ?_
  refine Zn (env' := u33) rfl rfl (v_clear1 rfl rfl rfl rfl rfl rfl rfl (get_out (List.getElem?_set_self hpl)) (by unfold Zt; simp; omega)) rfl ?_
  refine L_heap (H' := H.set p (.cells ((l.eraseIdx i ++ [0#64]).map iW) true) ++ []) (by rw [Ye (by rw [List.length_set]; exact hpl), List.set_set]; exact congrArg (fun c => H.set p (.cells c true) ++ []) (del_cells hi)) ?_
  refine Zf (Zc (Ze (Za ?_)))
  refine Zn (env' := u33) rfl rfl (Zb (.inl rfl) rfl) rfl ?_
  refine Zn (env' := u33) rfl rfl (Zb (.inr rfl) rfl) rfl ?_
  refine Zf (Zc (Zi ?_))
  refine Yy (.inr rfl) (Zh rfl rfl) (by exact BaseOk.set (BaseOk.refl _) _ (YA _ _)) XH15 ?_
  exact ⟨rfl, rfl⟩
theorem Del_at {x : SW} (H : Zd) (l : List (BitVec 64)) (i : Nat) (ex : Bool) (hi : i < l.length) (hl : l.length ≤ 1000000) : F (psys x) 98 [.slice (some (H.length + 0, 0)) l.length l.length ex 1, iI (i : Nat), iI ((i : Int) + 1)] (H ++ [.cells (l.map iW) true]) fun v G => v = fzW (l.eraseIdx i) ∧ G = H ++ [.dead] := by
  refine F.gh (Delete_spec (H ++ [.cells (l.map iW) true]) (H.length + 0) l i ex (Zu rfl rfl) hi hl) fun v G h => ?_
  obtain ⟨rfl, rfl⟩ := h
  refine ⟨fzW (l.eraseIdx i), H ++ [.dead], ?_, rfl, rfl⟩
  rw [ZC rfl, show l.length - 1 = (l.eraseIdx i).length by rw [List.length_eraseIdx_of_lt hi]]
  exact Gh.freezeL 0 0 rfl rfl erase_all (by rw [List.length_eraseIdx_of_lt hi]; omega) rfl
theorem Del_atI {x : SW} (H : Zd) (l : List (BitVec 64)) (i : Int) (ex : Bool) (h0 : 0 ≤ i) (hi : i < l.length) (hl : l.length ≤ 1000000) : F (psys x) 98 [.slice (some (H.length + 0, 0)) l.length l.length ex 1, iI i, iI (i + 1)] (H ++ [.cells (l.map iW) true]) fun v G => v = fzW (l.eraseIdx i.toNat) ∧ G = H ++ [.dead] := by
  have := Del_at (x := x) H l i.toNat ex (by omega) hl
  rw [show ((i.toNat : Nat) : Int) = i by omega] at this
  exact this
def freeV (l : List (BitVec 64)) (i : Int) : BitVec 64 := if l.length ≤ 12 ∧ 0 ≤ i ∧ i < l.length then frW l i.toNat else 0#64
theorem Free_spec {x : SW} (H : Zd) (l : List (BitVec 64)) (i : Int) (hl : l.length ≤ 1000000) : F (psys x) 61 [fzW l, iI i] H fun v G => v = iW (freeV l i) ∧ G = H := by
  refine Zr Tryd.func61 rfl u43 rfl ?_
  refine Ze (Za ?_)
  refine Zn (env' := u43) rfl rfl (Zg (VVal.int .u64 0) (.inr rfl) rfl) rfl ?_
  refine Zf (Zc (Ze (Ze (Za ?_))))
  refine Zn (env' := u43) rfl rfl (Zb (.inl rfl) rfl) rfl ?_
  refine Zv rfl rfl rfl (by exact fits_spec _ _) ?_
  rintro _ _ ⟨rfl, rfl⟩
  refine L_env (env' := u43) rfl ?_
  refine Zn (env' := u43) rfl rfl (rfl) rfl ?_
  refine Zn (env' := u43) rfl rfl (Zb (.inl rfl) rfl) rfl ?_
  refine ZK 11 (env1 := u43) (env2 := u43) rfl rfl rfl (fun hg1 => ?_) (fun hg1 => ?_)
  · try simp only [decide_eq_true_eq, decide_eq_false_iff_not, Bool.not_eq_true', Bool.not_eq_false', bne_iff_ne, beq_iff_eq, Bool.and_eq_true, Bool.or_eq_true, Bool.not_eq_true, ge_iff_le, gt_iff_lt, Int.not_le, Int.not_lt, beq_eq_false_iff_ne, bne_eq_false_iff_eq, ne_eq, Decidable.not_not, ZR, Ya, Z8] at hg1
    refine L_off (env' := u43) rfl rfl ?_
    refine L_off (env' := u43) rfl rfl ?_
    refine Zn (env' := u43) rfl rfl (Yb (VVal.bool true) rfl rfl rfl) rfl ?_
    refine Zn (env' := u43) rfl rfl (Zb (.inl rfl) rfl) rfl ?_
    refine L_off (env' := u43) rfl rfl ?_
    refine L_off (env' := u43) rfl rfl ?_
    refine L_off (env' := u43) rfl rfl ?_
    refine L_off (env' := u43) rfl rfl ?_
    refine Zn (env' := u43) rfl rfl (Yb (VVal.bool true) rfl rfl rfl) rfl ?_
    refine Zf (Zc ?_)
    refine ZX rfl rfl ?_
    refine Ze (Za ?_)
    refine Zn (env' := u43) rfl rfl (Zg (VVal.int .u64 0) (.inr rfl) rfl) rfl ?_
    refine Zf (Zc (Zi (Zp ?_)))
    refine Yy (.inr rfl) (Zh rfl rfl) XH12 XH15 ?_
    first
      | exact ⟨by rw [freeV, if_neg (by omega)]; rfl, rfl⟩
      | exact ⟨by rw [freeV, if_pos (by omega)]; rfl, rfl⟩
  · try simp only [decide_eq_true_eq, decide_eq_false_iff_not, Bool.not_eq_true', Bool.not_eq_false', bne_iff_ne, beq_iff_eq, Bool.and_eq_true, Bool.or_eq_true, Bool.not_eq_true, ge_iff_le, gt_iff_lt, Int.not_le, Int.not_lt, beq_eq_false_iff_ne, bne_eq_false_iff_eq, ne_eq, Decidable.not_not, ZR, Ya, Z8] at hg1
    refine Zn (env' := u43) rfl rfl (Zb (.inl rfl) rfl) rfl ?_
    refine Zn (env' := u43) rfl rfl (rfl) rfl ?_
    refine Zn (env' := u43) rfl rfl (Yl rfl rfl rfl) rfl ?_
    refine Zn (env' := u43) rfl rfl (Zb (.inl rfl) rfl) rfl ?_
    refine ZK 15 (env1 := u43) (env2 := u43) rfl rfl rfl (fun hg2 => ?_) (fun hg2 => ?_)
    · try simp only [decide_eq_true_eq, decide_eq_false_iff_not, Bool.not_eq_true', Bool.not_eq_false', bne_iff_ne, beq_iff_eq, Bool.and_eq_true, Bool.or_eq_true, Bool.not_eq_true, ge_iff_le, gt_iff_lt, Int.not_le, Int.not_lt, beq_eq_false_iff_ne, bne_eq_false_iff_eq, ne_eq, Decidable.not_not, ZR, Ya, Z8] at hg2
      refine L_off (env' := u43) rfl rfl ?_
      refine L_off (env' := u43) rfl rfl ?_
      refine L_off (env' := u43) rfl rfl ?_
      refine L_off (env' := u43) rfl rfl ?_
      refine Zn (env' := u43) rfl rfl (Yb (VVal.bool true) rfl rfl rfl) rfl ?_
      refine Zf (Zc ?_)
      refine ZX rfl rfl ?_
      refine Ze (Za ?_)
      refine Zn (env' := u43) rfl rfl (Zg (VVal.int .u64 0) (.inr rfl) rfl) rfl ?_
      refine Zf (Zc (Zi (Zp ?_)))
      refine Yy (.inr rfl) (Zh rfl rfl) XH12 XH15 ?_
      first
        | exact ⟨by rw [freeV, if_neg (by omega)]; rfl, rfl⟩
        | exact ⟨by rw [freeV, if_pos (by omega)]; rfl, rfl⟩
    · try simp only [decide_eq_true_eq, decide_eq_false_iff_not, Bool.not_eq_true', Bool.not_eq_false', bne_iff_ne, beq_iff_eq, Bool.and_eq_true, Bool.or_eq_true, Bool.not_eq_true, ge_iff_le, gt_iff_lt, Int.not_le, Int.not_lt, beq_eq_false_iff_ne, bne_eq_false_iff_eq, ne_eq, Decidable.not_not, ZR, Ya, Z8] at hg2
      refine Zn (env' := u43) rfl rfl (Zb (.inl rfl) rfl) rfl ?_
      refine Zn (env' := u43) rfl rfl (Zb (.inl rfl) rfl) rfl ?_
      refine Zn (env' := u43) rfl rfl (rfl) rfl ?_
      refine Zn (env' := u43) rfl rfl (rfl) rfl ?_
      refine Zn (env' := u43) rfl rfl (Yl rfl rfl rfl) rfl ?_
      refine Zf (Zc ?_)
      refine Zm _ rfl (fun hc3 => ?_) (fun hc3 => ?_)
      · try simp only [decide_eq_true_eq, decide_eq_false_iff_not, Bool.not_eq_true', Bool.not_eq_false', bne_iff_ne, beq_iff_eq, Bool.and_eq_true, Bool.or_eq_true, Bool.not_eq_true, ge_iff_le, gt_iff_lt, Int.not_le, Int.not_lt, beq_eq_false_iff_ne, bne_eq_false_iff_eq, ne_eq, Decidable.not_not, ZR, Ya, Z8] at hc3
        refine Ze (Za ?_)
        refine Zn (env' := u43) rfl rfl (Zg (VVal.int .u64 0) (.inr rfl) rfl) rfl ?_
        refine Zf (Zc (Zi (Zp ?_)))
        refine Yy (.inr rfl) (Zh rfl rfl) XH12 XH15 ?_
        first
          | exact ⟨by rw [freeV, if_neg (by omega)]; rfl, rfl⟩
          | exact ⟨by rw [freeV, if_pos (by omega)]; rfl, rfl⟩
      · try simp only [decide_eq_true_eq, decide_eq_false_iff_not, Bool.not_eq_true', Bool.not_eq_false', bne_iff_ne, beq_iff_eq, Bool.and_eq_true, Bool.or_eq_true, Bool.not_eq_true, ge_iff_le, gt_iff_lt, Int.not_le, Int.not_lt, beq_eq_false_iff_ne, bne_eq_false_iff_eq, ne_eq, Decidable.not_not, ZR, Ya, Z8] at hc3
        refine Zk (Zc (Ze (Za ?_)))
        have hne : l ≠ [] := fun e => by have h9 := congrArg List.length e; simp only [List.length_nil] at h9; omega
        refine Zn (env' := u43) rfl rfl (Zb (.inl rfl) rfl) rfl ?_
        refine Zv rfl rfl rfl (by exact Clone_L _ _ _ hne hl) ?_
        rintro _ _ ⟨rfl, rfl⟩
        refine L_env (env' := u43) rfl ?_
        refine Zn (env' := u43) rfl rfl (Zb (.inl rfl) rfl) rfl ?_
        refine Zn (env' := u43) rfl rfl (Zb (.inl rfl) rfl) rfl ?_
        refine Zn (env' := u43) rfl rfl (v_addI rfl rfl rfl XH1) rfl ?_
        refine Zv rfl rfl rfl (by exact Del_atI _ _ i _ (by omega) (by omega) hl) ?_
        rintro _ _ ⟨rfl, rfl⟩
        refine L_env (env' := u43) rfl ?_
        refine Zn (env' := u43) rfl rfl (ZB rfl rfl) rfl ?_
        refine Zn (env' := u43) rfl rfl (ZB rfl rfl) rfl ?_
        refine Zn (env' := u43) rfl rfl (ZM rfl rfl rfl rfl rfl rfl rfl XH8 XH6 XH18) rfl ?_
        refine Zn (env' := u43) rfl rfl (Yn (VVal.int .u64 0) rfl rfl rfl rfl rfl rfl rfl XH8 XH6 XH18) rfl ?_
        refine Zf (Zc (Ze (Ze (Za ?_))))
        refine Zn (env' := u43) rfl rfl (Zb (.inl rfl) rfl) rfl ?_
        refine Zn (env' := u43) rfl rfl (Zb (.inl rfl) rfl) rfl ?_
        refine Zn (env' := u43) rfl rfl XH38 rfl ?_
        refine Zn (env' := u43) rfl rfl XH39 rfl ?_
        refine Zv rfl rfl rfl (by exact mset_spec _ _) ?_
        rintro _ _ ⟨rfl, rfl⟩
        refine L_env (env' := u43) rfl ?_
        refine Zv rfl rfl rfl (by exact All_spec _ _) ?_
        rintro _ _ ⟨rfl, rfl⟩
        refine L_env (env' := u43) rfl ?_
        refine Zf (Zc (Zl ?_))
        refine ZD [true,true,true,true,true,false,false,true,true,true,true,true,true,true,true,true,true,true,true,true,true,true,true,true,true,true,true,true,true,true,true,true,false,true,true,true,true,true,true,true,true,true,true] (env' := u43) rfl ?_
        refine B_rangeM cI (pl (l.getD i.toNat 0) 0) (fun l0 h => by cases h) rfl (fun l G R h => All1_spec _ _ _ _ h) (σ := BitVec 64) (fun k s => H ++ [.dead, .cells [fzW (l.eraseIdx i.toNat)] true, .cells [iW s] true, k]) 0#64 (fun k => by rw [List.append_assoc]; rfl) (fun k s => by rw [List.length_append]; exact Zu rfl rfl) (fun k k1 s => by rw [List.length_append]; exact ZC rfl) (fun pre s => s = frF l i.toNat pre) ?_ (fun j pre c s => False) rfl ?_ ?_ ?_
        · rfl
        · intro pre c post s hx hI kr kb hkr hkb
          try dsimp only at hI ⊢
          subst hI
          have hc : c ∈ pl (l.getD i.toNat 0) 0 := by rw [hx]; simp
          obtain ⟨_, hc64, hcb⟩ := mem_pl.1 hc
          refine Z7 (env' := u43) rfl ?_
          refine Za ?_
          refine Zn (env' := u43) rfl rfl (Zb (.inr rfl) rfl) rfl ?_
          refine Zf ?_
          refine ⟨rfl, (frF l i.toNat pre), rfl, ?_⟩
          try dsimp only
          refine Zl (Ze ?_)
          refine ZT [0, 1, 2, 3] #[0, 0, 2, 7] XH5 XH5 XH5 ?_
          refine Z3 (env' := u43) (c := .look) rfl rfl rfl XH39 rfl rfl rfl ?_
          refine Z3 (env' := u43) (c := .calm) rfl rfl rfl (Zb (.inl rfl) rfl) rfl rfl rfl ?_
          refine Z3 (env' := u43) (c := .calm) rfl rfl rfl (v_shl1 rfl rfl rfl XH1) rfl rfl rfl ?_
          refine Z6 (env' := u43) rfl rfl rfl rfl rfl (by exact full_spec _ _ _ (by first | assumption | (rw [List.length_eraseIdx_of_lt (by omega)]; omega))) XH10 rfl rfl ?_
          refine ZS [] XH5 (trivial) ?_
          refine Zc ?_
          refine Zm _ rfl (fun hc4 => ?_) (fun hc4 => ?_)
          · try simp only [decide_eq_true_eq, decide_eq_false_iff_not, Bool.not_eq_true', Bool.not_eq_false', bne_iff_ne, beq_iff_eq, Bool.and_eq_true, Bool.or_eq_true, Bool.not_eq_true, ge_iff_le, gt_iff_lt, Int.not_le, Int.not_lt, beq_eq_false_iff_ne, bne_eq_false_iff_eq, ne_eq, Decidable.not_not, ZR, Ya, Z8] at hc4
            refine ZT [0, 1, 2, 3, 4] #[0, 0, 2, 7, 15] XH5 XH5 XH5 ?_
            refine Z3 (env' := u43) (c := .look) rfl rfl rfl XH39 rfl rfl rfl ?_
            refine Z3 (env' := u43) (c := .calm) rfl rfl rfl (Zb (.inl rfl) rfl) rfl rfl rfl ?_
            refine Z3 (env' := u43) (c := .calm) rfl rfl rfl (v_shl1 rfl rfl rfl XH1) rfl rfl rfl ?_
            refine Z3 (env' := u43) (c := .calm) rfl rfl rfl (v_orW rfl rfl rfl) rfl rfl rfl ?_
            refine Z3 (env' := u43) (c := .turn) rfl rfl rfl (ZM rfl rfl rfl rfl rfl rfl rfl XH8 XH6 XH18) rfl rfl rfl ?_
            refine ZS [] XH5 (trivial) ?_
            refine Zy ?_
            refine ⟨_, rfl, .inl ⟨rfl, ?_⟩⟩
            rw [frF_snoc]
            first
              | rw [if_pos (by assumption)]; rfl
              | rw [if_neg (not_of_f (by assumption))]
          · try simp only [decide_eq_true_eq, decide_eq_false_iff_not, Bool.not_eq_true', Bool.not_eq_false', bne_iff_ne, beq_iff_eq, Bool.and_eq_true, Bool.or_eq_true, Bool.not_eq_true, ge_iff_le, gt_iff_lt, Int.not_le, Int.not_lt, beq_eq_false_iff_ne, bne_eq_false_iff_eq, ne_eq, Decidable.not_not, ZR, Ya, Z8] at hc4
            refine Zk (Zy ?_)
            refine ⟨_, rfl, .inl ⟨rfl, ?_⟩⟩
            rw [frF_snoc]
            first
              | rw [if_pos (by assumption)]; rfl
              | rw [if_neg (not_of_f (by assumption))]
        · intro s k hk hI
          try dsimp only at hI ⊢
          subst hI
          refine Zy (Zc (Ze (Za ?_)))
          refine Zn (env' := u43) rfl rfl XH39 rfl ?_
          refine Zn (env' := u43) rfl rfl (Zb (.inr rfl) rfl) rfl ?_
          refine Zf (Zc (Zi ?_))
          refine Yy (.inr rfl) (Zh rfl rfl) XH12 XH15 ?_
          first
            | exact ⟨by rw [freeV, if_neg (by omega)]; rfl, rfl⟩
            | exact ⟨by rw [freeV, if_pos (by omega)]; rfl, rfl⟩
        · rintro j pre c post s k hk hx ⟨⟩
end MM
open Go Go.V Go.RowKit
abbrev u77 {a0 a1 a2 a3 a4 a5 a6 a7 a8 a9 a10 a11 a12 a13 a14 a15 a16 a17 a18 a19 a20 a21 a22 a23 a24 a25 a26 a27 a28 a29 a30 a31 a32 a33 a34 a35 a36 a37 a38 a39 a40 a41 a42 a43 a44 a45 a46 a47 a48 a49 a50 a51 a52 a53 a54 a55 a56 a57 a58 a59 a60 a61 a62 a63 a64 a65 a66 a67 a68 a69 a70 a71 a72 a73 a74 a75 a76 : VVal} : VEnv := a0 :: a1 :: a2 :: a3 :: a4 :: a5 :: a6 :: a7 :: a8 :: a9 :: a10 :: a11 :: a12 :: a13 :: a14 :: a15 :: a16 :: a17 :: a18 :: a19 :: a20 :: a21 :: a22 :: a23 :: a24 :: a25 :: a26 :: a27 :: a28 :: a29 :: a30 :: a31 :: a32 :: a33 :: a34 :: a35 :: a36 :: a37 :: a38 :: a39 :: a40 :: a41 :: a42 :: a43 :: a44 :: a45 :: a46 :: a47 :: a48 :: a49 :: a50 :: a51 :: a52 :: a53 :: a54 :: a55 :: a56 :: a57 :: a58 :: a59 :: a60 :: a61 :: a62 :: a63 :: a64 :: a65 :: a66 :: a67 :: a68 :: a69 :: a70 :: a71 :: a72 :: a73 :: a74 :: a75 :: a76 :: []
namespace MM
theorem minW {a b : BitVec 64} : (if (b.toNat : Int) < (a.toNat : Int) then (b.toNat : Int) else (a.toNat : Int)) = ((Z5 a b.toNat).toNat : Int) := by
  rw [Yp]; split <;> omega
theorem rep_w : ∀ {n : Nat}, Zx [VVal.int .u64 0] n = (List.replicate n 0#64).map iW
  | 0 => rfl
  | n + 1 => by rw [Zx, rep_w, List.replicate_succ]; rfl
section
variable {T : TypeId → Option VTy} {ρ : Operand → VVal} {H : Zd} {op : Op}
theorem pow12 {i : Nat} (h : i ≤ 12) : 2 ^ i ≤ 4096 := Nat.pow_le_pow_right (by decide) h
theorem v_shlI1 {t ty : TypeId} {y : Operand} {k : IntKind} {i : Nat} (ho : op = .binOp .shl t (.const (.int .i64 1)) y ty) (hy : ρ y = .int k (i : Nat)) (hr : ρ (.const (.int .i64 1)) = .int .i64 1) (h : i ≤ 12) : vop T ρ H op = some (.int .i64 ((2 ^ i : Nat) : Int), H) := by
  rw [ho]; simp only [vop, hr, hy, vbin, vshift]
  rw [if_neg (by omega), show min (i : Int).toNat IntKind.i64.bits = i from by show min (i : Int).toNat 64 = i; omega, Int.one_mul]
  have e : (2 : Int) ^ i = ((2 ^ i : Nat) : Int) := by rw [Int.natCast_pow]; rfl
  have := pow12 h
  rw [e]
  generalize 2 ^ i = p at this ⊢
  rw [wrap_i _ (by omega)]; rfl
theorem v_shrI {t ty : TypeId} {x y : Operand} {k : IntKind} {s i : Nat} (ho : op = .binOp .shr t x y ty) (hx : ρ x = .int .i64 (s : Nat)) (hy : ρ y = .int k (i : Nat)) (h : i ≤ 12) : vop T ρ H op = some (.int .i64 ((s / 2 ^ i : Nat) : Int), H) := by
  rw [ho]; simp only [vop, hx, hy, vbin, vshift]
  rw [if_neg (by omega), show min (i : Int).toNat IntKind.i64.bits = i from by show min (i : Int).toNat 64 = i; omega]
  have e : (2 : Int) ^ i = ((2 ^ i : Nat) : Int) := by rw [Int.natCast_pow]; rfl
  rw [e, ← Int.ofNat_fdiv]; rfl
end
theorem and1 {n : Nat} (h : n < 2 ^ 63) : vbits .and .i64 (n : Int) 1 = ((n % 2 : Nat) : Int) := by
  show IntKind.i64.wrap ((BitVec.ofInt 64 (n : Int) &&& BitVec.ofInt 64 ((1 : Nat) : Int)).toNat : Int) = _
  rw [BitVec.ofInt_natCast, BitVec.ofInt_natCast, BitVec.toNat_and, BitVec.toNat_ofNat, BitVec.toNat_ofNat, Nat.mod_eq_of_lt (Nat.lt_trans h (by decide)), Nat.mod_eq_of_lt (by decide : 1 < 2 ^ 64), show (1 : Nat) = 2 ^ 1 - 1 from rfl, Nat.and_two_pow_sub_one_eq_mod]
  exact wrap_i _ (by have : n % 2 ^ 1 < 2 := Nat.mod_lt _ (by decide); omega)
theorem tb_is {s i : Nat} (hs : s < 4096) : (vbits .and .i64 ((s / 2 ^ i : Nat) : Int) 1 == 1) = s.testBit i := by
  have h1 : s / 2 ^ i ≤ s := Nat.div_le_self _ _
  rw [and1 (by omega), Nat.testBit_eq_decide_div_mod_eq, Bool.eq_iff_iff, beq_iff_eq, decide_eq_true_eq]; omega
theorem andNot_less {s i : Nat} (hs : s < 4096) (hi : i ≤ 12) (h : s.testBit i = true) : vbits .andNot .i64 (s : Int) ((2 ^ i : Nat) : Int) = ((less s i : Nat) : Int) := by
  have hl := less_lt h
  have hp := pow12 hi
  show IntKind.i64.wrap ((BitVec.ofInt 64 (s : Int) &&& ~~~(BitVec.ofInt 64 ((2 ^ i : Nat) : Int))).toNat : Int) = _
  have e : (BitVec.ofInt 64 (s : Int) &&& ~~~(BitVec.ofInt 64 ((2 ^ i : Nat) : Int))).toNat = less s i := by
    rw [BitVec.ofInt_natCast, BitVec.ofInt_natCast]
    apply Nat.eq_of_testBit_eq
    intro j
    rw [less_bit h]
    by_cases hj : j < 64
    · have : (BitVec.ofNat 64 s &&& ~~~BitVec.ofNat 64 (2 ^ i)).getLsbD j = (s.testBit j && decide (j ≠ i)) := by
        rw [BitVec.getLsbD_and, BitVec.getLsbD_not, BitVec.getLsbD_ofNat, BitVec.getLsbD_ofNat, Nat.testBit_two_pow, decide_eq_true hj]
        by_cases e : j = i
        · subst e; simp
        · have : ¬ i = j := fun x => e x.symm
          simp [e, this]
      exact this
    · have h1 : s.testBit j = false := Nat.testBit_lt_two_pow (Nat.lt_of_lt_of_le (show s < 2 ^ 12 from hs) (Nat.pow_le_pow_right (by decide) (by omega)))
      rw [h1, Bool.false_and]
      exact Nat.testBit_lt_two_pow (Nat.lt_of_lt_of_le (BitVec.isLt _) (Nat.pow_le_pow_right (by decide) (by omega)))
  rw [e]
  exact wrap_i _ (by omega)
theorem way_start {rows : List (BitVec 64)} {most : BitVec 64} : (List.replicate (2 ^ rows.length) 0#64).set 0 (Z5 most 1) = wayL rows.length (wU rows most 0) := by
  have h0 : List.replicate (2 ^ rows.length) 0#64 = wayL rows.length fun _ => 0#64 := by
    unfold wayL
    rw [List.map_const', List.length_range]
  rw [h0]
  refine wayL_set ?_ fun s hs hne => ?_
  · unfold wU; rw [wS_0]
  · unfold wU; rw [wS_start hs, if_neg hne, satW_0]
theorem way_top {rows : List (BitVec 64)} {most : BitVec 64} {u : Nat} : wayL rows.length (wU rows most u) = wayL rows.length (wF rows most u (2 ^ rows.length - 1) 0) := wayL_congr fun s hs => by
  unfold wU wF; rw [if_neg (by omega)]; split
  · rename_i h; subst h; rfl
  · rfl
theorem way_down {rows : List (BitVec 64)} {most : BitVec 64} {u s : Nat} (hu : u < 64) (hs : 0 < s) : wayL rows.length (wF rows most u s rows.length) = wayL rows.length (wF rows most u (s - 1) 0) := wayL_congr fun s' hs' => by
  unfold wF
  by_cases h1 : s < s'
  · rw [if_pos h1, if_pos (by omega)]
  · by_cases h2 : s' = s
    · subst h2; rw [if_neg h1, if_pos rfl, if_pos (by omega), wP_all hu]
    · rw [if_neg h1, if_neg h2, if_neg (by omega)]
      by_cases h3 : s' = s - 1
      · rw [if_pos h3, h3]; rfl
      · rw [if_neg h3]
theorem way_end {rows : List (BitVec 64)} {most : BitVec 64} {u : Nat} : wayL rows.length (wF rows most u 0 0) = wayL rows.length (wU rows most (u + 1)) := wayL_congr fun s' _ => by
  unfold wF wU
  by_cases h : s' = 0
  · subst h; rw [if_neg (by omega), if_pos rfl, wS_0]; show Z5 most (wS rows u 0) = _; rw [wS_0]
  · rw [if_pos (by omega)]
theorem way_set {rows : List (BitVec 64)} {most : BitVec 64} {u s k : Nat} (hm : most.toNat ≤ 65536) (hs : s < 2 ^ rows.length) (h1 : s.testBit k = true) (h2 : (rows.getD k 0).getLsbD u = true) :
    (wayL rows.length (wF rows most u s k)).set s (Z5 most (wP rows u s k + wS rows u (less s k))) = wayL rows.length (wF rows most u s (k + 1)) := by
  refine wayL_set ?_ fun s' hs' hne => ?_
  · unfold wF; rw [if_neg (by omega), if_pos rfl, wP, if_pos ⟨h1, h2⟩]
  · unfold wF; rw [if_neg hne, if_neg hne]
theorem way_same {rows : List (BitVec 64)} {most : BitVec 64} {u s k : Nat} (h : ¬ (s.testBit k = true ∧ (rows.getD k 0).getLsbD u = true)) : wF rows most u s k = wF rows most u s (k + 1) := by
  funext s'
  unfold wF; rw [wP, if_neg h]
theorem way_at {rows : List (BitVec 64)} {most : BitVec 64} {u s k : Nat} (hs : s < 2 ^ rows.length) : (wayL rows.length (wF rows most u s k)).getD s 0 = Z5 most (wP rows u s k) := by
  rw [wayL_get hs]; unfold wF; rw [if_neg (by omega), if_pos rfl]
theorem way_less {rows : List (BitVec 64)} {most : BitVec 64} {u s k i : Nat} (hs : s < 2 ^ rows.length) (h : s.testBit i = true) : (wayL rows.length (wF rows most u s k)).getD (less s i) 0 = Z5 most (wS rows u (less s i)) := by
  have hl := less_lt h
  rw [wayL_get (by omega)]; unfold wF; rw [if_neg (by omega), if_neg (by omega)]
def coV (rows : List (BitVec 64)) (m : BitVec 64) : BitVec 64 := if rows.length ≤ 12 then Z5 m (cnT rows 0#64) else 0#64
theorem mCount_spec {x : SW} (H : Zd) (rows : List (BitVec 64)) (most : BitVec 64) (hl : rows.length ≤ 1000000) : F (psys x) 58 [fzW rows, iW most] H fun v G => v = iW (coV rows (Z5 most 65536)) ∧ G = H := by
  refine Zr Tryd.func58 rfl u77 rfl ?_
  refine Ze (Za ?_)
  refine Zn (env' := u77) rfl rfl (Zg (VVal.int .u64 0) (.inr rfl) rfl) rfl ?_
  refine Zf (Zc (Ze (Ze (Za ?_))))
  refine Zn (env' := u77) rfl rfl (Zb (.inl rfl) rfl) rfl ?_
  refine Zv rfl rfl rfl (by exact fits_spec _ _) ?_
  rintro _ _ ⟨rfl, rfl⟩
  refine L_env (env' := u77) rfl ?_
  refine Zn (env' := u77) rfl rfl (rfl) rfl ?_
  refine Zf (Zc ?_)
  refine Zm _ rfl (fun hc1 => ?_) (fun hc1 => ?_)
  · try simp only [decide_eq_true_eq, decide_eq_false_iff_not, Bool.not_eq_true', Bool.not_eq_false', bne_iff_ne, beq_iff_eq, Bool.and_eq_true, Bool.or_eq_true, Bool.not_eq_true, ge_iff_le, gt_iff_lt, Int.not_le, Int.not_lt, beq_eq_false_iff_ne, bne_eq_false_iff_eq, ne_eq, Decidable.not_not, ZR, Ya, Z8] at hc1
    refine Ze (Za ?_)
    refine Zn (env' := u77) rfl rfl (Zg (VVal.int .u64 0) (.inr rfl) rfl) rfl ?_
    refine Zf (Zc (Zi (Zp ?_)))
    refine Yy (.inr rfl) (Zh rfl rfl) XH12 XH15 ?_
    first
      | exact ⟨by rw [coV, if_neg (by omega)]; rfl, rfl⟩
      | (obtain rfl : u = 64 := by omega); exact ⟨by rw [coV, if_pos (by omega), show (wayL rows.length (wU rows (Z5 most 65536) 64)).getD ((2 ^ rows.length - 1 : Nat) : Int).toNat 0 = _ from wayL_get (by omega)]; unfold wU; rw [Int.toNat_natCast, wS_end], rfl⟩
  · try simp only [decide_eq_true_eq, decide_eq_false_iff_not, Bool.not_eq_true', Bool.not_eq_false', bne_iff_ne, beq_iff_eq, Bool.and_eq_true, Bool.or_eq_true, Bool.not_eq_true, ge_iff_le, gt_iff_lt, Int.not_le, Int.not_lt, beq_eq_false_iff_ne, bne_eq_false_iff_eq, ne_eq, Decidable.not_not, ZR, Ya, Z8] at hc1
    refine Zk (Zc (Ze (Za ?_)))
    have hm : (Z5 most 65536).toNat ≤ 65536 := by rw [Yp]; omega
    have hp := pow12 (i := rows.length) (by omega)
    have hp0 : 0 < 2 ^ rows.length := Nat.two_pow_pos _
    refine Zn (env' := u77) rfl rfl (Zb (.inl rfl) rfl) rfl ?_
    refine Zn (env' := u77) rfl rfl (v_val rfl ((congrArg (VVal.int .u64) (minW (a := most) (b := 65536#64))).trans rfl)) rfl ?_
    refine Zn (env' := u77) rfl rfl (Zb (.inr rfl) rfl) rfl ?_
    refine Zf (Zc (Ze (Za ?_)))
    refine Zn (env' := u77) rfl rfl (Zb (.inl rfl) rfl) rfl ?_
    refine Zn (env' := u77) rfl rfl (rfl) rfl ?_
    refine Zn (env' := u77) rfl rfl (v_shlI1 rfl rfl rfl (by omega)) rfl ?_
    refine Zn (env' := u77) rfl rfl (v_makeSlice rfl rfl rfl rfl rfl (by decide) ⟨by omega, Int.le_refl _, by show ((2 ^ rows.length : Nat) : Int) * (8 : Nat) ≤ _; omega, by omega⟩) rfl ?_
    refine L_heap (H' := H ++ [.cells ((List.replicate (2 ^ rows.length) 0#64).map iW) true]) (by show _ ++ [VBlk.cells (Zx [VVal.int .u64 0] _) true] = _; rw [rep_w]; rfl) ?_
    refine Zn (env' := u77) rfl rfl (Zb (.inr rfl) rfl) rfl ?_
    refine Zf (Zc (Ze (Za ?_)))
    refine Zn (env' := u77) rfl rfl (Zb (.inl rfl) rfl) rfl ?_
    refine Zn (env' := u77) rfl rfl (Zb (.inl rfl) rfl) rfl ?_
    refine Zn (env' := u77) rfl rfl (v_val rfl ((congrArg (VVal.int .u64) (minW (a := 1#64) (b := (Z5 most 65536)))).trans (by rw [show Z5 1#64 (Z5 most 65536).toNat = Z5 (Z5 most 65536) 1 from by apply BitVec.eq_of_toNat_eq; rw [Yp, Yp (most := (Z5 most 65536)) (n := 1)]; exact Nat.min_comm _ _]))) rfl ?_
    refine Zn (env' := u77) rfl rfl (by first | exact v_idxF rfl rfl rfl rfl rfl rfl rfl (by show (0 : Int) ≤ 0 ∧ (0 : Int) < ((2 ^ rows.length : Nat) : Int); omega) | exact v_idx rfl rfl rfl rfl rfl rfl rfl (by show (0 : Int) ≤ 0 ∧ (0 : Int) < ((2 ^ rows.length : Nat) : Int); omega)) rfl ?_
    refine Zn (env' := u77) rfl rfl (ZM rfl rfl rfl rfl rfl rfl rfl XH8 (by rw [List.length_map, List.length_replicate]; show 0 + 0 * 1 + 1 ≤ _; omega) (by exact (ZC rfl).trans (congrArg (fun c => H ++ [VBlk.cells c true]) ((splice_w (l := List.replicate (2 ^ rows.length) 0#64) (k := 0) (w := Z5 (Z5 most 65536) 1) (by rw [List.length_replicate]; omega)).trans (by rw [way_start]))))) rfl ?_
    refine Zf (Zc (Ze (Ze (Za ?_))))
    refine Zn (env' := u77) rfl rfl (Zg (VVal.int .i64 0) (.inl rfl) rfl) rfl ?_
    refine Zf (Zc (Zl ?_))
    refine ZD (false :: false :: true :: true :: true :: false :: true :: true :: true :: true :: true :: true :: true :: true :: true :: true :: true :: true :: true :: true :: true :: true :: true :: false :: true :: true :: true :: true :: true :: true :: true :: true :: true :: true :: true :: true :: true :: true :: true :: true :: true :: true :: true :: true :: true :: true :: true :: true :: true :: true :: true :: true :: true :: true :: true :: true :: true :: true :: true :: true :: true :: true :: true :: true :: true :: true :: true :: true :: true :: true :: true :: true :: true :: true :: true :: true :: true :: []) (env' := u77) rfl ?_
    refine ZL (fun (u : Nat) => 64 - u) (fun (u : Nat) => [(23, iI (u : Nat))]) (fun (u : Nat) G => (u ≤ 64) ∧ G = H ++ [.cells ((wayL rows.length (wU rows (Z5 most 65536) u)).map iW) true]) 0 rfl ?_ ?_
    · refine ⟨?_, rfl⟩
      exact Nat.zero_le _
    rintro u _ ⟨hu, rfl⟩
    refine Z7 (env' := u77) rfl ?_
    refine Ze (Za ?_)
    refine Zn (env' := u77) rfl rfl (rfl) rfl ?_
    refine Zf (Zc (Ze ?_))
    refine Zm _ rfl (fun hc2 => ?_) (fun hc2 => ?_)
    · try simp only [decide_eq_true_eq, decide_eq_false_iff_not, Bool.not_eq_true', Bool.not_eq_false', bne_iff_ne, beq_iff_eq, Bool.and_eq_true, Bool.or_eq_true, Bool.not_eq_true, ge_iff_le, gt_iff_lt, Int.not_le, Int.not_lt, beq_eq_false_iff_ne, bne_eq_false_iff_eq, ne_eq, Decidable.not_not, ZR, Ya, Z8] at hc2
      refine Zk (Zc (Ze (Zl (Ze (Za ?_)))))
      refine Zn (env' := u77) rfl rfl (Zb (.inl rfl) rfl) rfl ?_
      refine Zn (env' := u77) rfl rfl (Zb (.inr rfl) rfl) rfl ?_
      refine Zf (Zc (Ze (Za ?_)))
      refine Zn (env' := u77) rfl rfl (Zb (.inl rfl) rfl) rfl ?_
      refine Zn (env' := u77) rfl rfl (rfl) rfl ?_
      refine Zn (env' := u77) rfl rfl (v_val (v_subI rfl rfl rfl (by show -9223372036854775808 ≤ ((2 ^ rows.length : Nat) : Int) - 1 ∧ ((2 ^ rows.length : Nat) : Int) - 1 < 9223372036854775808; omega)) (congrArg iI (show ((2 ^ rows.length : Nat) : Int) - 1 = ((2 ^ rows.length - 1 : Nat) : Int) by omega))) rfl ?_
      refine Zn (env' := u77) rfl rfl (Zb (.inr rfl) rfl) rfl ?_
      refine Zf (Zc (Zl ?_))
      refine ZD (false :: false :: true :: true :: true :: false :: false :: false :: true :: true :: true :: true :: true :: true :: true :: true :: true :: true :: true :: true :: true :: true :: true :: false :: true :: true :: true :: true :: true :: true :: true :: true :: true :: true :: true :: true :: true :: true :: true :: true :: true :: true :: true :: true :: true :: true :: true :: true :: true :: true :: true :: true :: true :: true :: true :: true :: true :: true :: true :: true :: true :: true :: true :: true :: true :: true :: true :: true :: true :: true :: true :: true :: true :: true :: true :: true :: true :: []) (env' := u77) rfl ?_
      refine ZL (fun (s : Nat) => s) (fun (s : Nat) => [(7, iI (s : Nat))]) (fun (s : Nat) G => (s < 2 ^ rows.length) ∧ G = H ++ [.cells ((wayL rows.length (wF rows (Z5 most 65536) u s 0)).map iW) true]) (2 ^ rows.length - 1) rfl ?_ ?_
      · refine ⟨?_, (by rw [way_top])⟩
        omega
      rintro s _ ⟨hs, rfl⟩
      refine Z7 (env' := u77) rfl ?_
      refine Ze (Ze (Za ?_))
      refine Zn (env' := u77) rfl rfl (Zb (.inl rfl) rfl) rfl ?_
      refine Zn (env' := u77) rfl rfl (rfl) rfl ?_
      refine Zf (Zc ?_)
      refine Zm _ rfl (fun hc3 => ?_) (fun hc3 => ?_)
      · try simp only [decide_eq_true_eq, decide_eq_false_iff_not, Bool.not_eq_true', Bool.not_eq_false', bne_iff_ne, beq_iff_eq, Bool.and_eq_true, Bool.or_eq_true, Bool.not_eq_true, ge_iff_le, gt_iff_lt, Int.not_le, Int.not_lt, beq_eq_false_iff_ne, bne_eq_false_iff_eq, ne_eq, Decidable.not_not, ZR, Ya, Z8] at hc3
        refine Zk (Zc (Ze (Zl (Ze (Za ?_)))))
        refine Zn (env' := u77) rfl rfl (Zb (.inl rfl) rfl) rfl ?_
        refine Zn (env' := u77) rfl rfl (rfl) rfl ?_
        refine Zn (env' := u77) rfl rfl (Zg (VVal.int .i64 0) (.inl rfl) rfl) rfl ?_
        refine Zf (Zc (Zl ?_))
        refine ZD (false :: false :: true :: true :: true :: false :: false :: false :: true :: true :: true :: true :: true :: true :: true :: true :: true :: true :: true :: true :: true :: true :: true :: false :: true :: true :: true :: true :: true :: true :: true :: true :: true :: false :: false :: false :: true :: true :: true :: true :: true :: true :: true :: true :: true :: true :: true :: true :: true :: true :: true :: true :: true :: true :: true :: true :: true :: true :: true :: true :: true :: true :: true :: true :: true :: true :: true :: true :: true :: true :: true :: true :: true :: true :: true :: true :: true :: []) (env' := u77) rfl ?_
        refine ZL (fun (k : Nat) => rows.length - k) (fun (k : Nat) => [(35, iI (k : Nat))]) (fun (k : Nat) G => (k ≤ rows.length) ∧ G = H ++ [.cells ((wayL rows.length (wF rows (Z5 most 65536) u s k)).map iW) true]) 0 rfl ?_ ?_
        · refine ⟨?_, rfl⟩
          exact Nat.zero_le _
        rintro k _ ⟨hk, rfl⟩
        refine Z7 (env' := u77) rfl ?_
        refine Ze (Za ?_)
        refine Zn (env' := u77) rfl rfl (rfl) rfl ?_
        refine Zf (Zc (Ze ?_))
        refine Zm _ rfl (fun hc4 => ?_) (fun hc4 => ?_)
        · try simp only [decide_eq_true_eq, decide_eq_false_iff_not, Bool.not_eq_true', Bool.not_eq_false', bne_iff_ne, beq_iff_eq, Bool.and_eq_true, Bool.or_eq_true, Bool.not_eq_true, ge_iff_le, gt_iff_lt, Int.not_le, Int.not_lt, beq_eq_false_iff_ne, bne_eq_false_iff_eq, ne_eq, Decidable.not_not, ZR, Ya, Z8] at hc4
          refine Zk (Zc (Ze (Zl (Ze (Za ?_)))))
          refine Zn (env' := u77) rfl rfl (Zb (.inl rfl) rfl) rfl ?_
          refine Zn (env' := u77) rfl rfl XH38 rfl ?_
          refine Zn (env' := u77) rfl rfl (by first | exact v_loadF rfl rfl rfl rfl (by first | exact fget (α := BitVec 64) 0 (by omega) | exact fget0 (α := BitVec 64) 0 (by omega) | rfl) | exact v_load rfl rfl rfl rfl XH8 (by first | exact fget (α := BitVec 64) 0 (by omega) | exact fget0 (α := BitVec 64) 0 (by omega) | rfl)) rfl ?_
          refine Zn (env' := u77) rfl rfl (Zb (.inr rfl) rfl) rfl ?_
          refine Zn (env' := u77) rfl rfl (Zb (.inr rfl) rfl) rfl ?_
          refine Zf (Zc (Ze (Za ?_)))
          refine Zn (env' := u77) rfl rfl (Zb (.inl rfl) rfl) rfl ?_
          refine Zn (env' := u77) rfl rfl (Zb (.inl rfl) rfl) rfl ?_
          refine Zn (env' := u77) rfl rfl (v_shrI rfl rfl rfl (by omega)) rfl ?_
          refine Zn (env' := u77) rfl rfl (rfl) rfl ?_
          refine Zn (env' := u77) rfl rfl (v_is (s.testBit k) rfl (tb_is (by omega))) rfl ?_
          refine Zn (env' := u77) rfl rfl (Zb (.inl rfl) rfl) rfl ?_
          refine ZK 45 (env1 := u77) (env2 := u77) rfl rfl rfl (fun hg5 => ?_) (fun hg5 => ?_)
          · try simp only [decide_eq_true_eq, decide_eq_false_iff_not, Bool.not_eq_true', Bool.not_eq_false', bne_iff_ne, beq_iff_eq, Bool.and_eq_true, Bool.or_eq_true, Bool.not_eq_true, ge_iff_le, gt_iff_lt, Int.not_le, Int.not_lt, beq_eq_false_iff_ne, bne_eq_false_iff_eq, ne_eq, Decidable.not_not, ZR, Ya, Z8] at hg5
            refine Zn (env' := u77) rfl rfl (Zb (.inl rfl) rfl) rfl ?_
            refine Zn (env' := u77) rfl rfl (Zb (.inl rfl) rfl) rfl ?_
            refine Zn (env' := u77) rfl rfl (v_shrW rfl rfl rfl XH1) rfl ?_
            refine Zn (env' := u77) rfl rfl (v_andW (b := 1#64) rfl rfl rfl) rfl ?_
            refine Zn (env' := u77) rfl rfl (rfl) rfl ?_
            refine Zn (env' := u77) rfl rfl (ZW rfl rfl rfl) rfl ?_
            refine Zf (Zc ?_)
            refine Zm _ rfl (fun hc6 => ?_) (fun hc6 => ?_)
            · try simp only [decide_eq_true_eq, decide_eq_false_iff_not, Bool.not_eq_true', Bool.not_eq_false', bne_iff_ne, beq_iff_eq, Bool.and_eq_true, Bool.or_eq_true, Bool.not_eq_true, ge_iff_le, gt_iff_lt, Int.not_le, Int.not_lt, beq_eq_false_iff_ne, bne_eq_false_iff_eq, ne_eq, Decidable.not_not, ZR, Ya, Z8] at hc6
              refine ZT [0, 1, 2, 3, 4, 5, 6, 7, 8, 9, 10, 11, 12, 13, 14, 15, 16, 17] #[0, 0, 0, 0, 12, 28, 0, 0, 0, 256, 896, 1984, 4032, 8188, 0, 32764, 65535, 131071] XH5 XH5 XH5 ?_
              refine Z3 (env' := u77) (c := .calm) rfl rfl rfl (Zb (.inl rfl) rfl) rfl rfl rfl ?_
              refine Z3 (env' := u77) (c := .calm) rfl rfl rfl (Zb (.inl rfl) rfl) rfl rfl rfl ?_
              refine Z3 (env' := u77) (c := .calm) rfl rfl rfl (Zb (.inl rfl) rfl) rfl rfl rfl ?_
              refine Z3 (env' := u77) (c := .calm) rfl rfl rfl (Zb (.inl rfl) rfl) rfl rfl rfl ?_
              refine Z3 (env' := u77) (c := .calm) rfl rfl rfl XH38 rfl rfl rfl ?_
              refine Z3 (env' := u77) (c := .look) rfl rfl rfl (by first | exact v_loadF rfl rfl rfl rfl (by exact fget0 (α := BitVec 64) (l := wayL rows.length (wF rows (Z5 most 65536) u s k)) (n := (s : Nat)) 0 (by rw [wayL_len]; omega)) | exact v_load rfl rfl rfl rfl XH8 (by exact fget0 (α := BitVec 64) (l := wayL rows.length (wF rows (Z5 most 65536) u s k)) (n := (s : Nat)) 0 (by rw [wayL_len]; omega))) rfl rfl rfl ?_
              refine Z3 (env' := u77) (c := .calm) rfl rfl rfl (Zb (.inl rfl) rfl) rfl rfl rfl ?_
              refine Z3 (env' := u77) (c := .calm) rfl rfl rfl (Zb (.inl rfl) rfl) rfl rfl rfl ?_
              refine Z3 (env' := u77) (c := .calm) rfl rfl rfl (Zb (.inl rfl) rfl) rfl rfl rfl ?_
              refine Z3 (env' := u77) (c := .calm) rfl rfl rfl (v_shlI1 rfl rfl rfl (by omega)) rfl rfl rfl ?_
              refine Z3 (env' := u77) (c := .calm) rfl rfl rfl (v_val rfl (congrArg (VVal.int .i64) (andNot_less (by omega) (by omega) (by assumption)))) rfl rfl rfl ?_
              refine Z3 (env' := u77) (c := .calm) rfl rfl rfl (by first | exact v_idxF rfl rfl rfl rfl rfl rfl rfl XH27 | exact v_idx rfl rfl rfl rfl rfl rfl rfl XH27) rfl rfl rfl ?_
              refine Z3 (env' := u77) (c := .look) rfl rfl rfl (by first | exact v_loadF rfl rfl rfl rfl XH25 | exact v_load rfl rfl rfl rfl XH8 XH25) rfl rfl rfl ?_
              refine Z3 (env' := u77) (c := .calm) rfl rfl rfl (v_addW rfl rfl rfl) rfl rfl rfl ?_
              refine Z3 (env' := u77) (c := .calm) rfl rfl rfl (Zb (.inl rfl) rfl) rfl rfl rfl ?_
              refine Z3 (env' := u77) (c := .calm) rfl rfl rfl (v_val rfl ((congrArg (VVal.int .u64) (by rw [show (wayL rows.length (wF rows (Z5 most 65536) u s k)).getD (s : Int).toNat 0 = Z5 (Z5 most 65536) (wP rows u s k) from way_at hs, show (wayL rows.length (wF rows (Z5 most 65536) u s k)).getD ((less s k : Nat) : Int).toNat 0 = Z5 (Z5 most 65536) (wS rows u (less s k)) from way_less hs (by assumption)]; exact sat_add hm) : _ = VVal.int .u64 ((Z5 (Z5 most 65536) (wP rows u s k + wS rows u (less s k))).toNat : Int)))) rfl rfl rfl ?_
              refine Z3 (env' := u77) (c := .calm) rfl rfl rfl XH38 rfl rfl rfl ?_
              refine Z3 (env' := u77) (c := .turn) rfl rfl rfl (ZM rfl rfl rfl rfl rfl rfl rfl XH8 (by rw [List.length_map, wayL_len]; show 0 + s * 1 + 1 ≤ _; omega) (by exact (ZC rfl).trans (congrArg (fun c => H ++ [VBlk.cells c true]) ((splice_w (l := wayL rows.length (wF rows (Z5 most 65536) u s k)) (k := s) (w := Z5 (Z5 most 65536) (wP rows u s k + wS rows u (less s k))) (by rw [wayL_len]; exact hs)).trans (by rw [way_set hm hs (by assumption) (sh1.1 (by assumption))]))))) rfl rfl rfl ?_
              refine ZS [] XH5 (trivial) ?_
              refine Zy (Zc (Za ?_))
              refine Zn (env' := u77) rfl rfl (v_addI rfl rfl rfl XH1) rfl ?_
              refine Zn (env' := u77) rfl rfl (Zb (.inl rfl) rfl) rfl ?_
              refine Zf ?_
              refine ZI (false :: false :: true :: true :: true :: false :: false :: false :: true :: true :: true :: true :: true :: true :: true :: true :: true :: true :: true :: true :: true :: true :: true :: false :: true :: true :: true :: true :: true :: true :: true :: true :: true :: false :: false :: false :: true :: true :: true :: true :: true :: true :: true :: true :: true :: true :: true :: true :: true :: true :: true :: true :: true :: true :: true :: true :: true :: true :: true :: true :: true :: true :: true :: true :: true :: true :: true :: true :: true :: true :: true :: true :: true :: true :: true :: true :: true :: []) (env' := u77) rfl ⟨k + 1, ?_, rfl, ?_⟩
              · first | omega | (simp only []; omega)
              · first | exact ⟨by omega, rfl⟩ | exact ⟨by omega, by rw [way_same (fun e => absurd e.1 (not_of_f (by assumption)))]⟩ | exact ⟨by omega, by rw [way_same (fun e => absurd (sh1.2 e.2) (by assumption))]⟩
            · try simp only [decide_eq_true_eq, decide_eq_false_iff_not, Bool.not_eq_true', Bool.not_eq_false', bne_iff_ne, beq_iff_eq, Bool.and_eq_true, Bool.or_eq_true, Bool.not_eq_true, ge_iff_le, gt_iff_lt, Int.not_le, Int.not_lt, beq_eq_false_iff_ne, bne_eq_false_iff_eq, ne_eq, Decidable.not_not, ZR, Ya, Z8] at hc6
              refine Zk (Zy (Zc (Za ?_)))
              refine Zn (env' := u77) rfl rfl (v_addI rfl rfl rfl XH1) rfl ?_
              refine Zn (env' := u77) rfl rfl (Zb (.inl rfl) rfl) rfl ?_
              refine Zf ?_
              refine ZI (false :: false :: true :: true :: true :: false :: false :: false :: true :: true :: true :: true :: true :: true :: true :: true :: true :: true :: true :: true :: true :: true :: true :: false :: true :: true :: true :: true :: true :: true :: true :: true :: true :: false :: false :: false :: true :: true :: true :: true :: true :: true :: true :: true :: true :: true :: true :: true :: true :: true :: true :: true :: true :: true :: true :: true :: true :: true :: true :: true :: true :: true :: true :: true :: true :: true :: true :: true :: true :: true :: true :: true :: true :: true :: true :: true :: true :: []) (env' := u77) rfl ⟨k + 1, ?_, rfl, ?_⟩
              · first | omega | (simp only []; omega)
              · first | exact ⟨by omega, rfl⟩ | exact ⟨by omega, by rw [way_same (fun e => absurd e.1 (not_of_f (by assumption)))]⟩ | exact ⟨by omega, by rw [way_same (fun e => absurd (sh1.2 e.2) (by assumption))]⟩
          · try simp only [decide_eq_true_eq, decide_eq_false_iff_not, Bool.not_eq_true', Bool.not_eq_false', bne_iff_ne, beq_iff_eq, Bool.and_eq_true, Bool.or_eq_true, Bool.not_eq_true, ge_iff_le, gt_iff_lt, Int.not_le, Int.not_lt, beq_eq_false_iff_ne, bne_eq_false_iff_eq, ne_eq, Decidable.not_not, ZR, Ya, Z8] at hg5
            refine L_off (env' := u77) rfl rfl ?_
            refine L_off (env' := u77) rfl rfl ?_
            refine L_off (env' := u77) rfl rfl ?_
            refine L_off (env' := u77) rfl rfl ?_
            refine L_off (env' := u77) rfl rfl ?_
            refine Zn (env' := u77) rfl rfl (ZF (VVal.bool false) rfl rfl rfl) rfl ?_
            refine Zf (Zc ?_)
            refine Z4 rfl rfl ?_
            refine Zk (Zy (Zc (Za ?_)))
            refine Zn (env' := u77) rfl rfl (v_addI rfl rfl rfl XH1) rfl ?_
            refine Zn (env' := u77) rfl rfl (Zb (.inl rfl) rfl) rfl ?_
            refine Zf ?_
            refine ZI (false :: false :: true :: true :: true :: false :: false :: false :: true :: true :: true :: true :: true :: true :: true :: true :: true :: true :: true :: true :: true :: true :: true :: false :: true :: true :: true :: true :: true :: true :: true :: true :: true :: false :: false :: false :: true :: true :: true :: true :: true :: true :: true :: true :: true :: true :: true :: true :: true :: true :: true :: true :: true :: true :: true :: true :: true :: true :: true :: true :: true :: true :: true :: true :: true :: true :: true :: true :: true :: true :: true :: true :: true :: true :: true :: true :: true :: []) (env' := u77) rfl ⟨k + 1, ?_, rfl, ?_⟩
            · first | omega | (simp only []; omega)
            · first | exact ⟨by omega, rfl⟩ | exact ⟨by omega, by rw [way_same (fun e => absurd e.1 (not_of_f (by assumption)))]⟩ | exact ⟨by omega, by rw [way_same (fun e => absurd (sh1.2 e.2) (by assumption))]⟩
        · try simp only [decide_eq_true_eq, decide_eq_false_iff_not, Bool.not_eq_true', Bool.not_eq_false', bne_iff_ne, beq_iff_eq, Bool.and_eq_true, Bool.or_eq_true, Bool.not_eq_true, ge_iff_le, gt_iff_lt, Int.not_le, Int.not_lt, beq_eq_false_iff_ne, bne_eq_false_iff_eq, ne_eq, Decidable.not_not, ZR, Ya, Z8] at hc4
          refine ZO (ZQ (ZH (ZN (Zy (Zc (Za ?_))))))
          refine Zn (env' := u77) rfl rfl (Zb (.inl rfl) rfl) rfl ?_
          refine Zn (env' := u77) rfl rfl (v_subI rfl rfl rfl XH1) rfl ?_
          refine Zn (env' := u77) rfl rfl (Zb (.inr rfl) rfl) rfl ?_
          refine Zf ?_
          obtain rfl : k = rows.length := by omega
          rw [show (s : Int) - 1 = ((s - 1 : Nat) : Int) by omega]
          refine ZI (false :: false :: true :: true :: true :: false :: false :: false :: true :: true :: true :: true :: true :: true :: true :: true :: true :: true :: true :: true :: true :: true :: true :: false :: true :: true :: true :: true :: true :: true :: true :: true :: true :: true :: true :: true :: true :: true :: true :: true :: true :: true :: true :: true :: true :: true :: true :: true :: true :: true :: true :: true :: true :: true :: true :: true :: true :: true :: true :: true :: true :: true :: true :: true :: true :: true :: true :: true :: true :: true :: true :: true :: true :: true :: true :: true :: true :: []) (env' := u77) rfl ⟨(s - 1), ?_, rfl, ?_⟩
          · first | omega | (simp only []; omega)
          · exact ⟨by omega, by rw [way_down (by omega) (by omega)]⟩
      · try simp only [decide_eq_true_eq, decide_eq_false_iff_not, Bool.not_eq_true', Bool.not_eq_false', bne_iff_ne, beq_iff_eq, Bool.and_eq_true, Bool.or_eq_true, Bool.not_eq_true, ge_iff_le, gt_iff_lt, Int.not_le, Int.not_lt, beq_eq_false_iff_ne, bne_eq_false_iff_eq, ne_eq, Decidable.not_not, ZR, Ya, Z8] at hc3
        refine ZO (ZQ (ZH (ZN (Zy (Zc (Za ?_))))))
        refine Zn (env' := u77) rfl rfl (v_addI rfl rfl rfl XH1) rfl ?_
        refine Zn (env' := u77) rfl rfl (Zb (.inl rfl) rfl) rfl ?_
        refine Zf ?_
        refine ZI (false :: false :: true :: true :: true :: false :: true :: true :: true :: true :: true :: true :: true :: true :: true :: true :: true :: true :: true :: true :: true :: true :: true :: false :: true :: true :: true :: true :: true :: true :: true :: true :: true :: true :: true :: true :: true :: true :: true :: true :: true :: true :: true :: true :: true :: true :: true :: true :: true :: true :: true :: true :: true :: true :: true :: true :: true :: true :: true :: true :: true :: true :: true :: true :: true :: true :: true :: true :: true :: true :: true :: true :: true :: true :: true :: true :: true :: []) (env' := u77) rfl ⟨u + 1, ?_, rfl, ?_⟩
        · first | omega | (simp only []; omega)
        · exact ⟨by omega, by rw [← way_end, show s = 0 by omega]⟩
    · try simp only [decide_eq_true_eq, decide_eq_false_iff_not, Bool.not_eq_true', Bool.not_eq_false', bne_iff_ne, beq_iff_eq, Bool.and_eq_true, Bool.or_eq_true, Bool.not_eq_true, ge_iff_le, gt_iff_lt, Int.not_le, Int.not_lt, beq_eq_false_iff_ne, bne_eq_false_iff_eq, ne_eq, Decidable.not_not, ZR, Ya, Z8] at hc2
      refine ZO (ZQ (ZH (ZN (Zc (Ze (Za ?_))))))
      refine Zn (env' := u77) rfl rfl (Zb (.inl rfl) rfl) rfl ?_
      refine Zn (env' := u77) rfl rfl (Zb (.inl rfl) rfl) rfl ?_
      refine Zn (env' := u77) rfl rfl (rfl) rfl ?_
      refine Zn (env' := u77) rfl rfl (v_val (v_subI rfl rfl rfl (by show -9223372036854775808 ≤ ((2 ^ rows.length : Nat) : Int) - 1 ∧ ((2 ^ rows.length : Nat) : Int) - 1 < 9223372036854775808; omega)) (congrArg iI (show ((2 ^ rows.length : Nat) : Int) - 1 = ((2 ^ rows.length - 1 : Nat) : Int) by omega))) rfl ?_
      refine Zn (env' := u77) rfl rfl XH38 rfl ?_
      refine Zn (env' := u77) rfl rfl (by first | exact v_loadF rfl rfl rfl rfl XH29 | exact v_load rfl rfl rfl rfl XH8 XH29) rfl ?_
      refine Zn (env' := u77) rfl rfl (Zb (.inr rfl) rfl) rfl ?_
      refine Zf (Zc (Zi ?_))
      refine Yy (.inr rfl) (Zh rfl rfl) XH12 XH15 ?_
      first
        | exact ⟨by rw [coV, if_neg (by omega)]; rfl, rfl⟩
        | (obtain rfl : u = 64 := by omega); exact ⟨by rw [coV, if_pos (by omega), show (wayL rows.length (wU rows (Z5 most 65536) 64)).getD ((2 ^ rows.length - 1 : Nat) : Int).toNat 0 = _ from wayL_get (by omega)]; unfold wU; rw [Int.toNat_natCast, wS_end], rfl⟩
end MM
open Go Go.V Go.RowKit
abbrev u26 {a0 a1 a2 a3 a4 a5 a6 a7 a8 a9 a10 a11 a12 a13 a14 a15 a16 a17 a18 a19 a20 a21 a22 a23 a24 a25 : VVal} : VEnv := a0 :: a1 :: a2 :: a3 :: a4 :: a5 :: a6 :: a7 :: a8 :: a9 :: a10 :: a11 :: a12 :: a13 :: a14 :: a15 :: a16 :: a17 :: a18 :: a19 :: a20 :: a21 :: a22 :: a23 :: a24 :: a25 :: []
theorem W54 {T : TypeId → Option VTy} {H : Zd} {op : Op} {ρ : Operand → VVal} {t : TypeId} {a : Operand} {y : VTy} {p v : VVal} (ho : op = .load t a) (ha : ρ a = p) (hy : T t = some y) (hd : Zj y.desc = false) (h : LdOk H p v := by first | exact .inl ⟨_, _, rfl, by first | exact fget (α := BitVec 64) 0 (by omega) | exact fget0 (α := BitVec 64) 0 (by omega) | exact fgetN (α := BitVec 64) 0 (by omega)⟩ | exact .inr ⟨_, _, _, _, rfl, by exact Zo hb, by first | exact fget (α := BitVec 64) 0 (by omega) | exact fget0 (α := BitVec 64) 0 (by omega) | exact fgetN (α := BitVec 64) 0 (by omega)⟩) : vop T ρ H op = some (v, H) := v_ld ho ha hy hd h
theorem W56 {T : TypeId → Option VTy} {H : Zd} {op : Op} {ρ : Operand → VVal} {t : TypeId} {a : Operand} {y : VTy} {p : VVal} {n : Nat} {vs : List VVal} (ho : op = .load t a) (ha : ρ a = p) (hy : T t = some y) (hd : Zj y.desc = true) (hn : y.size = n) (h : LdOkA H p n vs := by first | exact .inl ⟨_, _, rfl, XH44⟩ | exact .inr ⟨_, _, _, _, rfl, XH40, XH44⟩) : vop T ρ H op = some (.agg vs, H) := v_ldA ho ha hy hd hn h
theorem W57 {S : V.Sys} {H : Zd} {fn : Func} {ex : Exit} {env : VEnv} {B L : Zd} {v : VVal} {R : VVal → Zd → Prop} (hx : ex = .normal ∨ ex = .ret) (hv : ZY S.C.T env (B ++ L) fn.results = some v) (h : R v B) (hB : BaseOk H B := by exact XH48) (hu : v.under H.length = true := by first | rfl | exact YA _ _) : fnK S fn H R ex env (B ++ L) := Yy hx hv hB hu h
theorem W58 {P : Prop} (h : P := by first | exact ⟨by rw [liA_no (by assumption)]; rfl, rfl⟩ | exact ⟨by rw [liA_0 (by omega)]; rfl, rfl⟩ | exact ⟨by rw [liA_in h0, hE]; show _ = VVal.fsl _ s9.length 1 false; rw [hsl], rfl⟩) : P := h
theorem W59 {T : TypeId → Option VTy} {H : Zd} {op : Op} {ρ : Operand → VVal} {t : TypeId} {a : Operand} {y : VTy} {p v : VVal} (ho : op = .load t a) (ha : ρ a = p) (hy : T t = some y) (hd : Zj y.desc = false) (h : LdOk H p v := by first | exact .inl ⟨_, _, rfl, XH44⟩ | exact .inr ⟨_, _, _, _, rfl, XH40, XH44⟩) : vop T ρ H op = some (v, H) := v_ld ho ha hy hd h
theorem W5b {T : TypeId → Option VTy} {H : Zd} {op : Op} {ρ : Operand → VVal} {t e : TypeId} {x i : Operand} {y z : VTy} {k : IntKind} {n : Int} {p v : VVal} {es : Nat} (ho : op = .indexAddr t x i) (hx : ρ x = p) (hi : ρ i = .int k n) (hy : T t = some y) (hd : y.desc = .slice e) (hz : T e = some z) (hs : z.size = es) (h : IxOk p es n v := by first | exact .inl ⟨_, _, _, rfl, by constructor <;> omega, rfl⟩ | exact .inr ⟨_, _, _, _, _, rfl, by constructor <;> omega, rfl⟩) : vop T ρ H op = some (v, H) := v_ix ho hx hi hy hd hz hs h
theorem W5c {T : TypeId → Option VTy} {H : Zd} {op : Op} {ρ : VEnv} {H' : Zd} {t : TypeId} {a : Operand} {i : Nat} {v : VVal} {y : VTy} {b off : Nat} {cs new : List VVal} (ho : op = .store t a (.tmp i)) (hv : ρ[i]? = some v) (ha : ρ.eval a = .ptr (some (b, off))) (hy : T t = some y) (hx : v.cells = some new) (hn : new.length = y.size) (h1 : new.all VVal.one = true) (hb : H[b]? = some (.cells cs true) := by exact XH40) (hl : off + new.length ≤ cs.length := by show 0 + ((k : Nat) : Int).toNat * 1 + 1 ≤ _; rw [List.length_map, wsK_len]; omega) (hH : H.set b (.cells (Zt cs off new) true) = H' := by exact (ZC rfl).trans (congrArg (fun z => H ++ [VBlk.dead, _, VBlk.cells z true, _, _]) (wsK_set (by omega)))) : vop T ρ.eval H op = some (.skip, H') := ZM ho hv ha hy hx hn h1 hb hl hH
theorem W5d {T : TypeId → Option VTy} {H : Zd} {op : Op} {ρ : Operand → VVal} {t : TypeId} {a : Operand} {y : VTy} {p v : VVal} (ho : op = .load t a) (ha : ρ a = p) (hy : T t = some y) (hd : Zj y.desc = false) (h : LdOk H p v := by first | exact .inl ⟨_, _, rfl, XH44⟩ | exact .inr ⟨_, _, _, _, rfl, by exact getB rfl rfl, XH44⟩) : vop T ρ H op = some (v, H) := v_ld ho ha hy hd h
theorem W5e {T : TypeId → Option VTy} {H : Zd} {op : Op} {ρ : VEnv} {H' : Zd} {t : TypeId} {a : Operand} {i : Nat} {v : VVal} {y : VTy} {b off : Nat} {cs new : List VVal} (ho : op = .store t a (.tmp i)) (hv : ρ[i]? = some v) (ha : ρ.eval a = .ptr (some (b, off))) (hy : T t = some y) (hx : v.cells = some new) (hn : new.length = y.size) (h1 : new.all VVal.one = true) (hb : H[b]? = some (.cells cs true) := by exact getB rfl rfl) (hl : off + new.length ≤ cs.length := by show 0 + ((k : Nat) : Int).toNat * 1 + 1 ≤ _; rw [List.length_map, YB]; omega) (hH : H.set b (.cells (Zt cs off new) true) = H' := by exact (setB rfl (show 1 < 6 by decide)).trans (congrArg (fun z => (H ++ [VBlk.dead, VBlk.cells z true, _, _, _, _]) ++ _) (liK_st (by omega) (by omega)))) : vop T ρ.eval H op = some (.skip, H') := ZM ho hv ha hy hx hn h1 hb hl hH
theorem W5f {T : TypeId → Option VTy} {H : Zd} {op : Op} {ρ : Operand → VVal} {t : TypeId} {a : Operand} {y : VTy} {p v : VVal} (ho : op = .load t a) (ha : ρ a = p) (hy : T t = some y) (hd : Zj y.desc = false) (h : LdOk H p v := by first | exact .inl ⟨_, _, rfl, XH44⟩ | exact .inr ⟨_, _, _, _, rfl, by exact Zu rfl rfl, XH44⟩) : vop T ρ H op = some (v, H) := v_ld ho ha hy hd h
def liA (p : Pb) : List (BitVec 64) := if pck p = 0 then liF (wsP p) (ptP p) (List.replicate p.who.length 0#64) else []
theorem liA_no {p : Pb} (h : ¬ pck p = 0) : liA p = [] := if_neg h
theorem liA_in {p : Pb} (h : pck p = 0) : liA p = liF (wsP p) (ptP p) (List.replicate p.who.length 0#64) := if_pos h
theorem liA_len {p : Pb} (h : pck p = 0) : (liA p).length = p.who.length := by rw [liA_in h, liF_len (by rw [List.length_replicate, ZG]), ZG]
theorem liA_0 {p : Pb} (h : p.who.length = 0) : liA p = [] := by
  by_cases e : pck p = 0
  · exact List.eq_nil_of_length_eq_zero ((liA_len e).trans h)
  · exact liA_no e
def wsK (p : Pb) (k : Nat) : List (BitVec 64) := (List.range p.who.length).map fun i => if i < k then wrd p i else 0#64
theorem wsK_len {p : Pb} {k : Nat} : (wsK p k).length = p.who.length := by unfold wsK; simp
theorem wsK_0 {p : Pb} : wsK p 0 = List.replicate p.who.length 0#64 := by
  apply List.ext_getElem (by rw [wsK_len, List.length_replicate])
  intro i h1 h2
  unfold wsK; simp
theorem wsK_all {p : Pb} : wsK p p.who.length = wsP p := by
  apply List.ext_getElem (by rw [wsK_len, ZG])
  intro i h1 h2
  simp only [wsK_len] at h1
  simp [wsK, wsP, h1]
theorem wsK_set {p : Pb} {k : Nat} (h : k < p.who.length) : Zt ((wsK p k).map iW) (0 + ((k : Nat) : Int).toNat * 1) [iW (wrd p k)] = (wsK p (k + 1)).map iW := by
  rw [Int.toNat_natCast, spl_W (by rw [wsK_len]; exact h)]
  congr 1
  apply List.ext_getElem (by rw [List.length_set, wsK_len, wsK_len])
  intro i h1 h2
  have h3 : i < p.who.length := by rw [wsK_len] at h2; exact h2
  rw [List.getElem_set]
  by_cases e : k = i
  · subst e; simp [wsK]
  · have e3 : i < k ↔ i < k + 1 := by omega
    simp [wsK, e, e3]
theorem liK_st {ws : List (BitVec 64)} {a : List Nat} {l : List (BitVec 64)} {b k : Nat} (hk : k < l.length) (h : a.getD k 0 = b) : Zt ((liK ws a l b k).map iW) (0 + ((k : Nat) : Int).toNat * 1) [iW ((liK ws a l b k).getD ((k : Nat) : Int).toNat 0 ||| frW (ZV ws a a.length) b)] = (liK ws a l b (k + 1)).map iW := by
  rw [Int.toNat_natCast, spl_W (by rw [YB]; exact hk), liK_set hk h]
theorem fv_is {l : List (BitVec 64)} {b : Nat} (h1 : l.length ≤ 12) (h2 : b < l.length) : MM.freeV l ((b : Nat) : Int) = frW l b := by
  unfold MM.freeV; rw [if_pos ⟨h1, by omega, by omega⟩, Int.toNat_natCast]
theorem EqualW_spec {x : SW} (H : Zd) (b : Nat) (e : Bool) (l m : List (BitVec 64)) (hb : H[b]? = some (.cells (l.map iW) true)) (h1 : l.length ≤ 1000000) : F (psys x) 62 [.slice (some (b, 0)) l.length l.length e 1, fzW m] H fun v G => v = .bool (decide (l = m)) ∧ G = H := by
 refine Zr Tryd.func62 rfl u26 rfl ?_
 refine Ze (Za ?_)
 refine Lo u26 (Zg (VVal.bool false) (.inr rfl) rfl) ?_
 refine Zf (Zc (Ze (Ze (Za ?_))))
 refine Lo u26 (Zb (.inl rfl) rfl) ?_
 refine Lo u26 (rfl) ?_
 refine Lo u26 (Zb (.inl rfl) rfl) ?_
 refine Lo u26 (rfl) ?_
 refine Lo u26 (rfl) ?_
 refine Zf (Zc ?_)
 refine Zm _ rfl (fun hc1 => ?_) (fun hc1 => ?_)
 ·try simp only [qB, qN] at hc1
  refine Ze (Za ?_)
  refine Lo u26 (Zg (VVal.bool false) (.inr rfl) rfl) ?_
  refine Zf (Zc (Zi (Zp ?_)))
  refine W10 (.inr rfl) (Zh rfl rfl) ?_
  exact ⟨by rw [decide_eq_false (fun e => by rw [e] at hc1; omega)], rfl⟩
 ·try simp only [qB, qN] at hc1
  refine Zk (Zc (Ze (Ze (Za ?_))))
  refine Lo u26 (Zb (.inl rfl) rfl) ?_
  refine Lo u26 (rfl) ?_
  refine Lo u26 (Zg (VVal.int .i64 0) (.inl rfl) rfl) ?_
  refine Zf (Zc (Zl ?_))
  refine ZD (mk 26 67096572) (env' := u26) rfl ?_
  refine ZL (fun (k : Nat) => l.length - k) (fun (k : Nat) => [(13, iI (k : Nat))]) (fun (k : Nat) G => (k ≤ l.length ∧ ∀ j, j < k → l.getD j 0 = m.getD j 0) ∧ G = H ++ []) 0 rfl ?_ ?_
  ·refine ⟨?_, rfl⟩
   exact ⟨Nat.zero_le _, fun j h => by omega⟩
  rintro k _ ⟨⟨hk, hall⟩, rfl⟩
  refine Z7 (env' := u26) rfl ?_
  refine Ze (Za ?_)
  refine Lo u26 (rfl) ?_
  refine Zf (Zc (Ze ?_))
  refine Zm _ rfl (fun hc2 => ?_) (fun hc2 => ?_)
  ·try simp only [qB, qN] at hc2
   refine Zk (Zc (Ze (Zl (Ze (Za ?_)))))
   refine Lo u26 (Zb (.inl rfl) rfl) ?_
   refine Lo u26 (Zb (.inr rfl) rfl) ?_
   refine Zf (Zc (Ze ?_))
   refine ZT [0, 1, 2, 3, 4, 5, 6, 7, 8] #[0, 0, 3, 7, 0, 0, 48, 112, 255] XH5 XH5 XH5 ?_
   refine Oo u26 .calm rfl (Zb (.inl rfl) rfl) ?_
   refine Oo u26 .calm rfl (Zb (.inl rfl) rfl) ?_
   refine Oo u26 .calm rfl (W18 rfl rfl rfl rfl rfl rfl rfl) ?_
   refine Oo u26 .look rfl (W54 rfl rfl rfl rfl) ?_
   refine Oo u26 .calm rfl (Zb (.inl rfl) rfl) ?_
   refine Oo u26 .calm rfl (Zb (.inl rfl) rfl) ?_
   refine Oo u26 .calm rfl (W18 rfl rfl rfl rfl rfl rfl rfl) ?_
   refine Oo u26 .look rfl (W54 rfl rfl rfl rfl) ?_
   refine Oo u26 .calm rfl (rfl) ?_
   refine ZS [] XH5 (trivial) ?_
   refine Zc ?_
   refine Zm _ rfl (fun hc3 => ?_) (fun hc3 => ?_)
   ·try simp only [qB, qN] at hc3
    refine Ze (Za ?_)
    refine Lo u26 (Zg (VVal.bool false) (.inr rfl) rfl) ?_
    refine Zf (Zc (Zi (ZP (Zp (YR (ZP (Zp ?_)))))))
    refine W10 (.inr rfl) (Zh rfl rfl) ?_
    exact ⟨by rw [decide_eq_false (fun e => by subst e; exact hc3 rfl)], rfl⟩
   ·try simp only [qB, qN] at hc3
    refine Zk (Zy (Zc (Za ?_)))
    refine Lo u26 (W14 rfl rfl rfl) ?_
    refine Lo u26 (Zb (.inl rfl) rfl) ?_
    refine Zf ?_
    refine ZI (mk 26 67096572) (env' := u26) rfl ⟨k + 1, ?_, rfl, ?_⟩
    ·first | omega | (simp only []; omega)
    ·exact ⟨⟨by omega, fun j hj => by by_cases e : j = k; (subst e; assumption); exact hall j (by omega)⟩, rfl⟩
  ·try simp only [qB, qN] at hc2
   refine ZO (ZQ (ZH (ZN (Zc (Ze (Za ?_))))))
   refine Lo u26 (Zg (VVal.bool true) (.inr rfl) rfl) ?_
   refine Zf (Zc (Zi ?_))
   refine W10 (.inr rfl) (Zh rfl rfl) ?_
   have e := eq_getD (d := 0) (by omega) (fun j hj => hall j (by omega))
   exact ⟨by rw [decide_eq_true e], rfl⟩
theorem EqualW_n {x : SW} (H : Zd) (b n n2 : Nat) (e : Bool) (l m : List (BitVec 64)) (hb : H[b]? = some (.cells (l.map iW) true)) (h1 : n ≤ 1000000) (hn : l.length = n) (hm : m.length = n2) : F (psys x) 62 [.slice (some (b, 0)) n n e 1, .fsl (m.map iW) n2 1 false] H fun v G => v = .bool (decide (l = m)) ∧ G = H := by
  subst hn; subst hm
  exact EqualW_spec H b e l m hb h1
theorem tLive_spec {x : SW} (H : Zd) (p : Pb) (hp : PbL p) : F (psys x) 33 [.agg (pbB p)] H fun v G => v = fzW (liA p) ∧ G = H := by
 refine Zr Tryd.func33 rfl u76 rfl ?_
 refine Ze (Za ?_)
 refine Lo u76 (Zw rfl rfl rfl) ?_
 refine Lo u76 (Zg (VVal.slice none 0 0 true 0) (.inr rfl) rfl) ?_
 refine Zf (Zc (Ze (Ze ?_)))
 refine Yk (Gh.freezePtrL (cs := pbB p) 1 0 rfl rfl rfl) ?_
 refine Za ?_
 refine Lo u76 (W56 rfl rfl rfl rfl rfl) ?_
 refine Zv rfl rfl rfl (by exact Yz _ p hp) ?_
 rintro _ _ ⟨rfl, rfl⟩
 refine Le u76 ?_
 refine Lo u76 (rfl) ?_
 refine Lo u76 (Zb (.inl rfl) rfl) ?_
 refine ZK 15 (env1 := u76) (env2 := u76) rfl rfl rfl (fun hg1 => ?_) (fun hg1 => ?_)
 ·try simp only [qB, qN] at hg1
  refine Lf u76 ?_
  refine Lf u76 ?_
  refine Lf u76 ?_
  refine Lf u76 ?_
  refine Lo u76 (Yb (VVal.bool true) rfl rfl rfl) ?_
  refine Zf (Zc ?_)
  refine ZX rfl rfl ?_
  refine Ze (Za ?_)
  refine Lo u76 (Zg (VVal.slice none 0 0 true 0) (.inr rfl) rfl) ?_
  refine Zf (Zc ?_)
  refine Yk (Gh.freezeNil 2 (es' := 1) rfl rfl) ?_
  refine Zi (Zp ?_)
  refine W57 (.inr rfl) (Zh rfl rfl) ?_
  exact W58
 ·try simp only [qB, qN] at hg1
  refine Lo u76 (rfl) ?_
  refine Lo u76 (W59 rfl rfl rfl rfl) ?_
  refine Lo u76 (rfl) ?_
  refine Lo u76 (rfl) ?_
  refine Lo u76 (Yl rfl rfl rfl) ?_
  refine Zf (Zc ?_)
  refine Zm _ rfl (fun hc2 => ?_) (fun hc2 => ?_)
  ·try simp only [qB, qN] at hc2
   refine Ze (Za ?_)
   refine Lo u76 (Zg (VVal.slice none 0 0 true 0) (.inr rfl) rfl) ?_
   refine Zf (Zc ?_)
   refine Yk (Gh.freezeNil 2 (es' := 1) rfl rfl) ?_
   refine Zi (Zp ?_)
   refine W57 (.inr rfl) (Zh rfl rfl) ?_
   exact W58
  ·try simp only [qB, qN] at hc2
   refine Zk (Zc (Ze ?_))
   have h0 : pck p = 0 := by first | assumption | simp_all
   have g := pck_good.1 h0
   have g1 := g.n12; have g5 := g.fx
   have hne : ¬ p.who.length = 0 := by first | (have h9 := hc2; simp at h9; omega) | omega | simp_all
   have hwl := ZG (p := p)
   refine ZT [0, 1, 2, 3, 4, 5, 6, 7, 8, 9, 10, 11] #[0, 1, 3, 7, 0, 16, 48, 112, 0, 0, 783, 2047] XH5 XH5 XH5 ?_
   refine Oo u76 .calm rfl (rfl) ?_
   refine Oo u76 .look rfl (W59 rfl rfl rfl rfl) ?_
   refine Oo u76 .look rfl (rfl) ?_
   refine Oo u76 .grow rfl (v_makeSlice rfl rfl rfl rfl rfl (by decide) ⟨by omega, Int.le_refl _, by show (p.who.length : Int) * (8 : Nat) ≤ _; omega, by omega⟩) ?_
   refine Oo u76 .calm rfl (rfl) ?_
   refine Yh (env' := u76) (x := .look _ _) rfl rfl rfl (W59 rfl rfl rfl rfl) rfl rfl rfl ?_
   refine Yh (env' := u76) (x := .look _ _) rfl rfl rfl (rfl) rfl rfl rfl ?_
   refine Yh (env' := u76) (x := .grow _) rfl rfl rfl (v_makeSlice rfl rfl rfl rfl rfl (by decide) ⟨by omega, Int.le_refl _, by show (p.who.length : Int) * (8 : Nat) ≤ _; omega, by omega⟩) rfl rfl rfl ?_
   refine Oo u76 .grow rfl (ZB rfl rfl) ?_
   refine Oo u76 .grow rfl (ZB rfl rfl) ?_
   refine Yh (env' := u76) (x := .turn _ _) rfl rfl rfl (W13 rfl rfl rfl rfl rfl rfl rfl) rfl rfl rfl ?_
   refine Oo u76 .turn rfl (W13 rfl rfl rfl rfl rfl rfl rfl) ?_
   refine O_nilP [(5, 10), (6, 10), (7, 10)] XH5 (And.intro ⟨_, _, _, _, ⟨(gA (gA (gA (gA (gA (gA (gL XH5))))))), (gA (gL XH5)), And.intro (W59 rfl rfl rfl rfl) (W59 rfl rfl rfl rfl)⟩⟩ (And.intro ⟨_, _, _, _, ⟨(gA (gA (gA (gA (gA (gL XH5)))))), (gA (gL XH5)), And.intro (rfl) (rfl)⟩⟩ (And.intro ⟨_, _, _, _, ⟨(gA (gA (gA (gA (gL XH5))))), (gA (gL XH5)), (by simp [V.fine])⟩⟩ (trivial)))) ?_
   refine Zc (Ze (Ze ?_))
   refine YQ (H' := H ++ [.dead, .cells ((List.replicate p.who.length 0#64).map iW) true, .cells ((wsK p 0).map iW) true, .cells [.slice (some (H.length + 1, 0)) p.who.length p.who.length true 1] true, .cells [.slice (some (H.length + 2, 0)) p.who.length p.who.length true 1] true]) (by rw [wsK_0, ← MM.rep_w]; rfl) ?_
   refine Za ?_
   refine Lo u76 (W59 rfl rfl rfl rfl) ?_
   refine Lo u76 (rfl) ?_
   refine Lo u76 (Zg (VVal.int .i64 0) (.inl rfl) rfl) ?_
   refine Zf (Zc (Zl ?_))
   refine ZD (mk 76 75557863725911102193637) (env' := u76) rfl ?_
   refine ZL (fun (k : Nat) => p.who.length - k) (fun (k : Nat) => [(31, iI (k : Nat))]) (fun (k : Nat) G => (k ≤ p.who.length) ∧ G = H ++ [.dead, .cells ((List.replicate p.who.length 0#64).map iW) true, .cells ((wsK p k).map iW) true, .cells [.slice (some (H.length + 1, 0)) p.who.length p.who.length true 1] true, .cells [.slice (some (H.length + 2, 0)) p.who.length p.who.length true 1] true]) 0 rfl ?_ ?_
   ·refine ⟨?_, rfl⟩
    exact Nat.zero_le _
   rintro k _ ⟨hk, rfl⟩
   refine Z7 (env' := u76) rfl ?_
   refine Ze (Za ?_)
   refine Lo u76 (rfl) ?_
   refine Zf (Zc (Ze ?_))
   refine Zm _ rfl (fun hc3 => ?_) (fun hc3 => ?_)
   ·try simp only [qB, qN] at hc3
    refine Zk (Zc (Ze (Zl (Ze (Za ?_)))))
    refine Lo u76 (Zb (.inl rfl) rfl) ?_
    refine Lo u76 (Zb (.inr rfl) rfl) ?_
    refine Zf (Zc ?_)
    refine ZT [0, 1, 2, 3, 4, 5, 6] #[0, 0, 0, 0, 12, 31, 63] XH5 XH5 XH5 ?_
    refine Yh (env' := u76) (x := .look _ _) rfl rfl rfl (W59 rfl rfl rfl rfl) rfl rfl rfl ?_
    refine Oo u76 .calm rfl (Zb (.inl rfl) rfl) ?_
    refine Oo u76 .look rfl (W56 rfl rfl rfl rfl rfl) ?_
    refine Oo u76 .calm rfl (Zb (.inl rfl) rfl) ?_
    refine Z6 (env' := u76) rfl rfl rfl rfl rfl (by exact Word_spec _ p k (by omega) (by omega)) XH10 rfl rfl ?_
    refine Oo u76 .calm rfl (W5b rfl rfl rfl rfl rfl rfl rfl) ?_
    refine Oo u76 .turn rfl (W5c rfl rfl rfl rfl rfl rfl rfl) ?_
    refine O_nilP [(0, 4)] XH5 (And.intro ⟨_, _, _, _, ⟨(gA (gA (gA (gA (gA (gA (gL XH5))))))), (gA (gA (gL XH5))), And.intro (W59 rfl rfl rfl rfl) (W59 rfl rfl rfl rfl)⟩⟩ (trivial)) ?_
    refine Zy (Zc (Za ?_))
    refine Lo u76 (W14 rfl rfl rfl) ?_
    refine Lo u76 (Zb (.inl rfl) rfl) ?_
    refine Zf ?_
    refine ZI (mk 76 75557863725911102193637) (env' := u76) rfl ⟨k + 1, ?_, rfl, ?_⟩
    ·first | omega | (simp only []; omega)
    ·exact ⟨by omega, rfl⟩
   ·try simp only [qB, qN] at hc3
    refine ZO (ZQ (ZH (ZN (Zc (Ze (Ze ?_))))))
    obtain rfl : k = p.who.length := by omega
    rw [wsK_all]
    refine Yk (Gh.cellL (l := (wsP p).map iW) 4 0 2 rfl rfl (by decide) rfl (Yt (by simp [hwl])) (Nat.le_refl _)) ?_
    refine Za ?_
    refine Lo u76 (W56 rfl rfl rfl rfl rfl) ?_
    refine Zv rfl rfl rfl (by exact tpat_spec _ p) ?_
    rintro _ _ ⟨rfl, rfl⟩
    refine Le u76 ?_
    refine Zf (Zc (Zl ?_))
    refine ZD (mk 76 75557863721516276908007) (env' := u76) rfl ?_
    refine B_rangeJ (fvP p) 2 (fun _ => rfl) (ptP p) (fun l0 h => by cases h) rfl (fun l9 G9 K9 hI9 => tpat1_spec l9 p hp G9 K9 hI9) (σ := {q : List (BitVec 64) // q.length = p.who.length}) (fun k s => H ++ [.dead, .cells ((s.1).map iW) true, .dead, .cells [.slice (some (H.length + 1, 0)) p.who.length p.who.length true 1] true, .cells [.fsl ((wsP p).map iW) p.who.length 1 false] true, k]) ⟨(List.replicate p.who.length 0#64), List.length_replicate ..⟩ (fun k => by rw [List.append_assoc]; rfl) (fun k s => by simp) (fun k s => by rw [show (H ++ _ : Zd).length = H.length + 5 by simp]; exact Zu rfl rfl) (fun k k1 s => by rw [show (H ++ _ : Zd).length = H.length + 5 by simp]; exact ZC rfl) (fun pre s => ∀ z, ptP p = pre ++ z → liF (wsP p) (ptP p) (List.replicate p.who.length 0#64) = liF (wsP p) z s.1) ?_ (fun j pre c s => (j = Code.exit 2 ∧ (liF (wsP p) (ptP p) (List.replicate p.who.length 0#64) = s.1))) rfl ?_ ?_ ?_
    ·exact fun z hz => by rw [hz]; rfl
    ·intro pre c post s hx hI Lp kr kb hkr hkb
     obtain ⟨s9, hs9⟩ := s
     try dsimp only at hI ⊢
     have hs9 : s9.length = p.who.length := hs9
     have hc9 : c ∈ ptP p := by rw [hx]; simp
     obtain ⟨h0, hpc, hcl, _, _⟩ := ptP_mem hc9
     have hbl := @Yx (wsP p) c c.length
     have hz := @szP_le c c.length
     have hI9 := hI _ hx
     refine Z7 (env' := u76) rfl ?_
     refine Ze (Za ?_)
     refine Lo u76 (Zb (.inr rfl) rfl) ?_
     refine Zf (Zc (Za ?_))
     refine Lo u76 (Zb (.inr rfl) rfl) ?_
     refine Zf ?_
     refine ⟨rfl, ⟨s9, hs9⟩, rfl, ?_⟩
     try dsimp only
     refine Zl (Ze (Ze (Za ?_)))
     refine Lo u76 (Zb (.inl rfl) rfl) ?_
     refine Lo u76 (rfl) ?_
     refine Lo u76 (Zg (VVal.int .i64 0) (.inl rfl) rfl) ?_
     refine Zf (Zc (Zl ?_))
     refine ZD (mk 76 75557863514808090885927) (env' := u76) rfl ?_
     refine ZL (fun (b : Nat) => szP c c.length - b) (fun (b : Nat) => [(47, iI (b : Nat))]) (fun (b : Nat) G => (b ≤ szP c c.length) ∧ G = (H ++ [.dead, .cells (((liK (wsP p) c s9 b 0)).map iW) true, .dead, .cells [.slice (some (H.length + 1, 0)) p.who.length p.who.length true 1] true, .cells [.fsl ((wsP p).map iW) p.who.length 1 false] true, kb]) ++ Lp) 0 rfl ?_ ?_
     ·refine ⟨?_, (by rw [liK_0])⟩
      exact Nat.zero_le _
     rintro b _ ⟨hb9, rfl⟩
     refine Z7 (env' := u76) rfl ?_
     refine Ze (Za ?_)
     refine Lo u76 (rfl) ?_
     refine Zf (Zc (Ze ?_))
     refine Zm _ rfl (fun hc4 => ?_) (fun hc4 => ?_)
     ·try simp only [qB, qN] at hc4
      refine Zk (Zc (Ze (Zl (Ze (Za ?_)))))
      refine Lo u76 (Zb (.inl rfl) rfl) ?_
      refine Lo u76 (Zb (.inr rfl) rfl) ?_
      refine Zf (Zc (Ze (Za ?_)))
      refine Lo u76 (Zb (.inl rfl) rfl) ?_
      refine Lo u76 (Zb (.inl rfl) rfl) ?_
      refine Zv rfl rfl rfl (by exact MM.Free_spec _ (ZV (wsP p) c c.length) ((b : Nat) : Int) (by omega)) ?_
      rintro _ _ ⟨rfl, rfl⟩; rw [fv_is (by omega) (by omega)]
      refine Le u76 ?_
      refine Lo u76 (Zb (.inr rfl) rfl) ?_
      refine Zf (Zc (Ze (Za ?_)))
      refine Lo u76 (Zb (.inl rfl) rfl) ?_
      refine Lo u76 (rfl) ?_
      refine Lo u76 (Zg (VVal.int .i64 0) (.inl rfl) rfl) ?_
      refine Zf (Zc (Zl ?_))
      refine ZD (mk 76 75557800464413307698215) (env' := u76) rfl ?_
      refine ZL (fun (k : Nat) => c.length - k) (fun (k : Nat) => [(55, iI (k : Nat))]) (fun (k : Nat) G => (k ≤ c.length) ∧ G = (H ++ [.dead, .cells (((liK (wsP p) c s9 b k)).map iW) true, .dead, .cells [.slice (some (H.length + 1, 0)) p.who.length p.who.length true 1] true, .cells [.fsl ((wsP p).map iW) p.who.length 1 false] true, kb]) ++ Lp) 0 rfl ?_ ?_
      ·refine ⟨?_, rfl⟩
       exact Nat.zero_le _
      rintro k _ ⟨hk9, rfl⟩
      refine Z7 (env' := u76) rfl ?_
      refine Ze (Za ?_)
      refine Lo u76 (rfl) ?_
      refine Zf (Zc (Ze ?_))
      refine Zm _ rfl (fun hc5 => ?_) (fun hc5 => ?_)
      ·try simp only [qB, qN] at hc5
       refine Zk (Zc (Ze (Zl (Ze (Za ?_)))))
       refine Lo u76 (Zb (.inl rfl) rfl) ?_
       refine Lo u76 (W18 rfl rfl rfl rfl rfl rfl rfl) ?_
       refine Lo u76 (W59 rfl rfl rfl rfl) ?_
       refine Lo u76 (Zb (.inr rfl) rfl) ?_
       refine Lo u76 (Zb (.inr rfl) rfl) ?_
       refine Zf (Zc (Ze (Za ?_)))
       refine Lo u76 (Zb (.inl rfl) rfl) ?_
       refine Lo u76 (Zb (.inl rfl) rfl) ?_
       refine Lo u76 (rfl) ?_
       refine Zf (Zc ?_)
       refine Zm _ rfl (fun hc6 => ?_) (fun hc6 => ?_)
       ·try simp only [qB, qN] at hc6
        refine Za ?_
        refine Lo u76 (W5d rfl rfl rfl rfl) ?_
        refine Lo u76 (Zb (.inl rfl) rfl) ?_
        refine Lo u76 (W5b rfl rfl rfl rfl rfl rfl rfl) ?_
        refine Lo u76 (W5d rfl rfl rfl rfl) ?_
        refine Lo u76 (Zb (.inl rfl) rfl) ?_
        refine Lo u76 (v_orW rfl rfl rfl) ?_
        refine Lo u76 (W5b rfl rfl rfl rfl rfl rfl rfl) ?_
        refine Lo u76 (W5e rfl rfl rfl rfl rfl rfl rfl) ?_
        refine Zf (Zy (Zc (Za ?_)))
        refine Lo u76 (W14 rfl rfl rfl) ?_
        refine Lo u76 (Zb (.inl rfl) rfl) ?_
        refine Zf ?_
        refine ZI (mk 76 75557800464413307698215) (env' := u76) rfl ⟨k + 1, ?_, rfl, ?_⟩
        ·first | omega | (simp only []; omega)
        ·first | exact ⟨by omega, rfl⟩ | exact ⟨by omega, by rw [liK_same (by omega)]⟩
       ·try simp only [qB, qN] at hc6
        refine Zk (Zy (Zc (Za ?_)))
        refine Lo u76 (W14 rfl rfl rfl) ?_
        refine Lo u76 (Zb (.inl rfl) rfl) ?_
        refine Zf ?_
        refine ZI (mk 76 75557800464413307698215) (env' := u76) rfl ⟨k + 1, ?_, rfl, ?_⟩
        ·first | omega | (simp only []; omega)
        ·first | exact ⟨by omega, rfl⟩ | exact ⟨by omega, by rw [liK_same (by omega)]⟩
      ·try simp only [qB, qN] at hc5
       refine ZO (ZQ (ZH (ZN (Zy (Zc (Za ?_))))))
       refine Lo u76 (W14 rfl rfl rfl) ?_
       refine Lo u76 (Zb (.inl rfl) rfl) ?_
       refine Zf ?_
       obtain rfl : k = c.length := by omega
       refine ZI (mk 76 75557863514808090885927) (env' := u76) rfl ⟨b + 1, ?_, rfl, ?_⟩
       ·first | omega | (simp only []; omega)
       ·exact ⟨by omega, by rw [liK_next (by omega)]⟩
     ·try simp only [qB, qN] at hc4
      refine ZO (ZQ (ZH (ZN (Zc (Ze ?_)))))
      obtain rfl : b = szP c c.length := by omega
      refine Za ?_
      refine Lo u76 (W5d rfl rfl rfl rfl) ?_
      refine Lo u76 (W5d rfl rfl rfl rfl) ?_
      refine Zv rfl rfl rfl (by exact EqualW_n _ (H.length + 1) _ _ true (liU (wsP p) c s9) (wsP p) (getB rfl rfl) (by omega) (by rw [liU_len]; exact hs9) hwl) ?_
      rintro _ _ ⟨rfl, rfl⟩
      refine Le u76 ?_
      refine Zf (Zc ?_)
      refine Zm _ rfl (fun hc7 => ?_) (fun hc7 => ?_)
      ·try simp only [qB, qN] at hc7
       refine ZO ?_
       refine K_blkO rfl ?_
       refine ⟨⟨liU (wsP p) c s9, by rw [liU_len]; exact hs9⟩, [], (by simp [liU]), .inr ⟨Code.exit 2, rfl, ⟨rfl, ?_⟩⟩⟩
       exact hI9.trans ((liF_hit (by assumption)).trans (show wsP p = liU (wsP p) c s9 from (show liU (wsP p) c s9 = wsP p by assumption).symm))
      ·try simp only [qB, qN] at hc7
       refine Zk (Zy ?_)
       refine ⟨⟨liU (wsP p) c s9, by rw [liU_len]; exact hs9⟩, [], (by simp [liU]), .inl ⟨rfl, ?_⟩⟩
       exact fun z hz9 => by rw [hx, List.append_assoc] at hz9; obtain rfl : post = z := (by simpa using hz9); exact hI9.trans (liF_on (by assumption))
    ·intro s k hk hI J9
     obtain ⟨s9, hs9⟩ := s
     try dsimp only at hI ⊢
     have hE : liF (wsP p) (ptP p) (List.replicate p.who.length 0#64) = s9 := (hI [] (List.append_nil _).symm)
     refine Zy (Zc (Ze ?_))
     have hsl : s9.length = p.who.length := by first | exact hs9 | assumption
     refine YQ (List.append_assoc _ _ _) ?_
     refine Za ?_
     refine Lo u76 (W5f rfl rfl rfl rfl) ?_
     refine Lo u76 (Zb (.inr rfl) rfl) ?_
     refine Zf (Zc ?_)
     refine Yk (Gh.freezeL (l := s9.map iW) 2 1 rfl rfl (Yt (by simp [hsl])) (Nat.le_refl _) rfl) ?_
     refine Zi ?_
     refine W57 (.inr rfl) (Zh rfl rfl) ?_
     exact W58
    ·rintro j pre c post s k hk hx (⟨rfl, hE⟩) J9
     obtain ⟨s9, hs9⟩ := s
     try dsimp only
     refine J_exit ?_
     refine ZN (Zc (Ze ?_))
     have hsl : s9.length = p.who.length := by first | exact hs9 | assumption
     refine YQ (List.append_assoc _ _ _) ?_
     refine Za ?_
     refine Lo u76 (W5f rfl rfl rfl rfl) ?_
     refine Lo u76 (Zb (.inr rfl) rfl) ?_
     refine Zf (Zc ?_)
     refine Yk (Gh.freezeL (l := s9.map iW) 2 1 rfl rfl (Yt (by simp [hsl])) (Nat.le_refl _) rfl) ?_
     refine Zi ?_
     refine W57 (.inr rfl) (Zh rfl rfl) ?_
     exact W58
abbrev u34 {a0 a1 a2 a3 a4 a5 a6 a7 a8 a9 a10 a11 a12 a13 a14 a15 a16 a17 a18 a19 a20 a21 a22 a23 a24 a25 a26 a27 a28 a29 a30 a31 a32 a33 : VVal} : VEnv := a0 :: a1 :: a2 :: a3 :: a4 :: a5 :: a6 :: a7 :: a8 :: a9 :: a10 :: a11 :: a12 :: a13 :: a14 :: a15 :: a16 :: a17 :: a18 :: a19 :: a20 :: a21 :: a22 :: a23 :: a24 :: a25 :: a26 :: a27 :: a28 :: a29 :: a30 :: a31 :: a32 :: a33 :: []
theorem W5l {S : V.Sys} {H : Zd} {fn : Func} {ex : Exit} {env : VEnv} {B L : Zd} {v : VVal} {R : VVal → Zd → Prop} (hx : ex = .normal ∨ ex = .ret) (hv : ZY S.C.T env (B ++ L) fn.results = some v) (h : R v B) (hB : BaseOk H B := by exact XH48) (hu : v.under H.length = true := by first | exact (show ((VVal.agg (pbB z0P)).under H.length && (true && true)) = true by rw [pb_under]; rfl) | exact (show ((VVal.agg (pbB (p.users, p.who, p.fixed.set s.toNat u, p.rules, ()))).under H.length && (true && true)) = true by rw [pb_under]; rfl)) : fnK S fn H R ex env (B ++ L) := Yy hx hv hB hu h
theorem W5m {P : Prop} (h : P := by first | exact ⟨by rw [fxP_ok hE, hE]; show _ = VVal.tuple [.agg [iI p.users, fzW p.who, .fsl ((p.fixed.set s.toNat u).map iI) (p.fixed.set s.toNat u).length 1 false, fzR p.rules], iI 0]; rw [List.length_set]; rfl, rfl⟩ | exact ⟨by have h9 : ¬ fxE p s u = 0 := (fun e => by have := fxE_ok.1 e; omega); rw [fxP_no h9]; unfold fxE; rw [if_neg (fun e => e (by assumption)), if_pos (by omega)]; rfl, rfl⟩ | exact ⟨by have h9 : ¬ fxE p s u = 0 := (fun e => absurd (pck_good.2 (fxE_ok.1 e).1) (by assumption)); rw [fxP_no h9]; unfold fxE; rw [if_pos (by assumption)]; rfl, rfl⟩) : P := h
theorem W5n {T : TypeId → Option VTy} {H : Zd} {op : Op} {ρ : VEnv} {H' : Zd} {t : TypeId} {a : Operand} {i : Nat} {v : VVal} {y : VTy} {b off : Nat} {cs new : List VVal} (ho : op = .store t a (.tmp i)) (hv : ρ[i]? = some v) (ha : ρ.eval a = .ptr (some (b, off))) (hy : T t = some y) (hx : v.cells = some new) (hn : new.length = y.size) (h1 : new.all VVal.one = true) (hb : H[b]? = some (.cells cs true) := by exact Zu rfl (Zo hY)) (hl : off + new.length ≤ cs.length := by show 0 + s.toNat * 1 + 1 ≤ _; rw [List.length_map]; omega) (hH : H.set b (.cells (Zt cs off new) true) = H' := by exact (ZC rfl).trans (by rw [Ye (Zz hY)])) : vop T ρ.eval H op = some (.skip, H') := ZM ho hv ha hy hx hn h1 hb hl hH
theorem W5o {T : TypeId → Option VTy} {H : Zd} {op : Op} {ρ : Operand → VVal} {t : TypeId} {a : Operand} {y : VTy} {p : VVal} {n : Nat} {vs : List VVal} (ho : op = .load t a) (ha : ρ a = p) (hy : T t = some y) (hd : Zj y.desc = true) (hn : y.size = n) (h : LdOkA H p n vs := by first | exact .inl ⟨_, _, rfl, XH43⟩ | exact .inr ⟨_, _, _, _, rfl, by exact Zu rfl (List.getElem?_set_self (by simp)), XH43⟩) : vop T ρ H op = some (.agg vs, H) := v_ldA ho ha hy hd hn h
theorem W5p {T : TypeId → Option VTy} {H : Zd} {op : Op} {ρ : VEnv} {H' : Zd} {t : TypeId} {a : Operand} {i : Nat} {v : VVal} {y : VTy} {b off : Nat} {cs new : List VVal} (ho : op = .store t a (.tmp i)) (hv : ρ[i]? = some v) (ha : ρ.eval a = .ptr (some (b, off))) (hy : T t = some y) (hx : v.cells = some new) (hn : new.length = y.size) (h1 : new.all VVal.one = true) (hb : H[b]? = some (.cells cs true) := by exact getB rfl rfl) (hl : off + new.length ≤ cs.length := by exact XH42) (hH : H.set b (.cells (Zt cs off new) true) = H' := by exact setB rfl (show 1 < 2 by decide)) : vop T ρ.eval H op = some (.skip, H') := ZM ho hv ha hy hx hn h1 hb hl hH
def CpR (H : Zd) (p : Pb) (v : VVal) (G : Zd) : Prop := ∃ Y j, v = .agg [iI p.users, fzW p.who, .slice (some (H.length + j, 0)) p.fixed.length p.fixed.length false 1, fzR p.rules] ∧ G = H ++ Y ∧ Y[j]? = some (.cells (p.fixed.map iI) true)
theorem Copy_spec {x : SW} (H : Zd) (p : Pb) (hp : PbL p) (hne : p.fixed ≠ []) : F (psys x) 69 [.agg (pbB p)] H (CpR H p) := by
 have h1 := hp.w; have h2 := hp.f; have h3 := hp.r; have h4 := hp.s
 have hd : decide (p.fixed.length = 0) = false := decide_eq_false fun e => hne (List.eq_nil_of_length_eq_zero e)
 refine Zr Tryd.func69 rfl u34 rfl ?_
 refine Ze (Za ?_)
 refine Lo u34 (Zw rfl rfl rfl) ?_
 refine Lo u34 (ZB rfl rfl) ?_
 refine Zf (Zc (Ze ?_))
 refine Yk (Gh.freezePtrL (cs := pbB p) 1 0 rfl rfl rfl) ?_
 refine ZT [0, 1, 2, 3, 5, 6, 9, 4, 7, 8, 10] #[0, 1, 0, 4, 12, 0, 32, 124, 255, 0, 1023] XH5 XH5 XH5 ?_
 refine Oo u34 .calm rfl (rfl) ?_
 refine Yh (env' := u34) (x := .look _ _) rfl rfl rfl (W26 rfl rfl rfl rfl) rfl rfl rfl ?_
 refine Oo u34 .calm rfl (rfl) ?_
 refine Oo u34 .look rfl (W26 rfl rfl rfl rfl) ?_
 refine Oo u34 .calm rfl (rfl) ?_
 refine Yh (env' := u34) (x := .look _ _) rfl rfl rfl (W26 rfl rfl rfl rfl) rfl rfl rfl ?_
 refine Yh (env' := u34) (x := .grow _) rfl rfl rfl (ZB rfl rfl) rfl rfl rfl ?_
 refine Z6 (env' := u34) rfl rfl rfl rfl rfl (by exact CloWf _ _ h1) XH10 rfl rfl ?_
 refine Z6 (env' := u34) rfl rfl rfl rfl rfl (by exact CloI_L _ _ _ hne h2) XH10 rfl rfl ?_
 refine Oo u34 .calm rfl (rfl) ?_
 refine Oo u34 .turn rfl (W13 rfl rfl rfl rfl rfl rfl rfl) ?_
 refine ZS [_, _, _, _, _] (by rfl) (And.intro (And.intro (W26 rfl rfl rfl rfl) (W26 rfl rfl rfl rfl)) (And.intro (And.intro (W26 rfl rfl rfl rfl) (W26 rfl rfl rfl rfl)) (And.intro (And.intro (W26 rfl rfl rfl rfl) (W26 rfl rfl rfl rfl)) (And.intro ((by first | exact rfl | simp)) (And.intro ((by simp [V.fine])) trivial))))) ?_
 refine Zc (Ze (Ze (Za ?_)))
 refine Lo u34 (rfl) ?_
 refine Lo u34 (W26 rfl rfl rfl rfl) ?_
 refine Lo u34 (rfl) ?_
 refine Lo u34 (Zg (VVal.int .i64 0) (.inl rfl) rfl) ?_
 refine Zf (Zc (Zl ?_))
 refine ZD (mk 34 17179410419) (env' := u34) rfl ?_
 refine ZL (fun (k : Nat) => p.rules.length - k) (fun (k : Nat) => [(18, iI (k : Nat))]) (fun (k : Nat) G => (k ≤ p.rules.length) ∧ ∃ lv X, G = (H ++ [.dead, pqB 0 YG YG YG, .cells [iI p.users, fzW p.who, .slice (some (H.length + 3, 0)) p.fixed.length p.fixed.length (decide (p.fixed.length = 0)) 1, lv] true, .cells (p.fixed.map iI) true]) ++ X ∧ LV (H.length + 4) 3 X lv ((p.rules.take k).flatMap rlB) (p.rules.take k).length) 0 rfl ?_ ?_
 ·refine ⟨?_, ⟨_, [], by rw [List.append_nil]; rfl, LV.nil _ _ _⟩⟩
  exact Nat.zero_le _
 rintro k _ ⟨hk, ⟨lv, X, rfl, hl⟩⟩
 refine Z7 (env' := u34) rfl ?_
 refine Ze (Za ?_)
 refine Lo u34 (rfl) ?_
 refine Zf (Zc (Ze ?_))
 refine Zm _ rfl (fun hc1 => ?_) (fun hc1 => ?_)
 ·try simp only [qB, qN] at hc1
  refine Zk (Zc (Ze (Zl (Ze (Za ?_)))))
  refine Lo u34 (W18 rfl rfl rfl rfl rfl rfl rfl) ?_
  refine Lo u34 (W24 rfl rfl rfl rfl rfl) ?_
  refine Lo u34 (ZB rfl rfl) ?_
  refine Lo u34 (W13 rfl rfl rfl rfl rfl rfl rfl) ?_
  refine Zf (Zc (Ze (Za ?_)))
  refine Lo u34 (rfl) ?_
  refine Lo u34 (W26 rfl rfl rfl rfl) ?_
  refine Zv rfl rfl rfl (by exact CloIf _ _ (h4 _ (rul_mem (by omega)))) ?_
  rintro _ _ ⟨rfl, rfl⟩
  refine Le u34 ?_
  refine Lo u34 (rfl) ?_
  refine Lo u34 (W13 rfl rfl rfl rfl rfl rfl rfl) ?_
  refine Zf (Zc (Za ?_))
  refine Lo u34 (rfl) ?_
  refine Lo u34 (W26 rfl rfl rfl rfl) ?_
  refine Lo u34 (W24 rfl rfl rfl rfl rfl) ?_
  refine Lo u34 (ZA rfl rfl (by decide) rfl) ?_
  refine L_opX rfl rfl (v_appXh rfl rfl rfl rfl rfl rfl rfl (by simp) (hl.app _) rfl rfl (by decide) (by rw [List.length_take]; show (_ + 1) * 40 ≤ _ ∧ _ + 1 ≤ _; omega) (by decide)) ?_
  rintro _ _ ⟨Y1, rfl, rfl, hY1, hY2, hY3⟩
  refine Le u34 ?_
  refine Lo u34 (rfl) ?_
  refine Lo u34 (W13 rfl rfl rfl rfl rfl rfl rfl) ?_
  refine Zf (Zy (Zc (Za ?_)))
  refine Lo u34 (W14 rfl rfl rfl) ?_
  refine Lo u34 (Zb (.inl rfl) rfl) ?_
  refine Zf ?_
  refine ZI (mk 34 17179410419) (env' := u34) rfl ⟨k + 1, ?_, rfl, ?_⟩
  ·first | omega | (simp only []; omega)
  ·exact ⟨by omega, _, _, rfl, by rw [Yr (d := r0) (by omega)]; exact LV.pushF hY3⟩
 ·try simp only [qB, qN] at hc1
  refine ZO (ZQ (ZH (ZN (Zc (Ze ?_)))))
  obtain rfl : k = p.rules.length := by omega
  rw [List.take_length] at hl
  refine B_ghCell 2 3 hl rfl rfl (by simp) fun X5 _ _ => ?_
  refine YQ (List.append_assoc _ _ _) ?_
  refine Za ?_
  refine Lo u34 (W24 rfl rfl rfl rfl rfl) ?_
  refine Lo u34 (W13 rfl rfl rfl rfl rfl rfl rfl) ?_
  refine Zf (Zc (Zi ?_))
  refine Yv (.inr rfl) (YO rfl rfl rfl rfl XH0 XH9) ?_
  exact ⟨_, 3, (show VVal.agg [iI p.users, fzW p.who, .slice (some (H.length + 3, 0)) p.fixed.length p.fixed.length (decide (p.fixed.length = 0)) 1, fzR p.rules] = _ from by rw [hd]), rfl, rfl⟩
def z0P : Pb := (0, [], [], [], ())
def fxE (p : Pb) (s u : Int) : Int := if pck p ≠ 0 then pck p else if s < 0 ∨ (p.who.length : Int) ≤ s ∨ u < 0 ∨ p.users ≤ u then 1 else 0
def fxP (p : Pb) (s u : Int) : Pb := if fxE p s u = 0 then (p.users, p.who, p.fixed.set s.toNat u, p.rules, ()) else z0P
theorem fxE_ok {p : Pb} {s u : Int} : fxE p s u = 0 ↔ Go.V.Good p ∧ (0 ≤ s ∧ s < p.who.length) ∧ 0 ≤ u ∧ u < p.users := by
  unfold fxE
  constructor
  · intro h
    split at h
    · rename_i h1; exact absurd h h1
    · rename_i h1
      split at h
      · cases h
      · exact ⟨pck_good.1 (Decidable.of_not_not h1), by omega, by omega⟩
  · rintro ⟨g, h1, h2⟩
    rw [if_neg (fun e => e (pck_good.2 g)), if_neg (by omega)]
theorem fxP_ok {p : Pb} {s u : Int} (h : fxE p s u = 0) : fxP p s u = (p.users, p.who, p.fixed.set s.toNat u, p.rules, ()) := if_pos h
theorem fxP_no {p : Pb} {s u : Int} (h : ¬ fxE p s u = 0) : fxP p s u = z0P := if_neg h
theorem spl_I {l : List Int} {k : Nat} {w : Int} (h : k < l.length) : Zt (l.map iI) (0 + k * 1) [iI w] = (l.set k w).map iI := by
  rw [show 0 + k * 1 = k by omega]
  unfold Zt
  rw [List.map_set, List.set_eq_take_append_cons_drop, if_pos (by rw [List.length_map]; exact h)]; simp
theorem Fix_spec {x : SW} (H : Zd) (p : Pb) (s u : Int) (hp : PbL p) : F (psys x) 38 [.agg (pbB p), iI s, iI u] H fun v G => v = .tuple [.agg (pbB (fxP p s u)), iI (fxE p s u)] ∧ G = H := by
 refine Zr Tryd.func38 rfl u44 rfl ?_
 refine Ze (Za ?_)
 refine Lo u44 (Zw rfl rfl rfl) ?_
 refine Lo u44 (ZB rfl rfl) ?_
 refine Lo u44 (Zg (VVal.int .i64 0) (.inr rfl) rfl) ?_
 refine Zf (Zc (Ze (Ze ?_)))
 refine Yk (Gh.freezePtrL (cs := pbB p) 3 0 rfl rfl rfl) ?_
 refine Za ?_
 refine Lo u44 (W24 rfl rfl rfl rfl rfl) ?_
 refine Zv rfl rfl rfl (by exact Yz _ _ hp) ?_
 rintro _ _ ⟨rfl, rfl⟩
 refine Le u44 ?_
 refine Lo u44 (Zb (.inr rfl) rfl) ?_
 refine Zf (Zc (Ze (Za ?_)))
 refine Lo u44 (Zb (.inl rfl) rfl) ?_
 refine Lo u44 (rfl) ?_
 refine Zf (Zc ?_)
 refine Zm _ rfl (fun hc1 => ?_) (fun hc1 => ?_)
 ·try simp only [qB, qN] at hc1
  refine Ze (Za ?_)
  refine Lo u44 (rfl) ?_
  refine Lo u44 (Zb (.inl rfl) rfl) ?_
  refine Lo u44 (W13 rfl rfl rfl rfl rfl rfl rfl) ?_
  refine Lo u44 (Zb (.inr rfl) rfl) ?_
  refine Zf (Zc ?_)
  refine Yk (Gh.cellNilL 1 1 (es' := 1) rfl rfl) ?_
  refine Yk (Gh.cellNilL 1 2 (es' := 1) rfl rfl) ?_
  refine Yk (Gh.cellNilL 1 3 (es' := 3) rfl rfl) ?_
  refine Zi (Zp ?_)
  refine W5l (.inr rfl) (vres_cAt rfl rfl rfl rfl XH24 XH9 rfl) ?_
  exact W5m
 ·try simp only [qB, qN] at hc1
  refine Zk (Zc (Ze (Ze (Za ?_))))
  refine Lo u44 (Zb (.inl rfl) rfl) ?_
  refine Lo u44 (rfl) ?_
  refine Lo u44 (Zb (.inl rfl) rfl) ?_
  refine ZK 18 (env1 := u44) (env2 := u44) rfl rfl rfl (fun hg2 => ?_) (fun hg2 => ?_)
  ·try simp only [qB, qN] at hg2
   refine Lf u44 ?_
   refine Lf u44 ?_
   refine Lf u44 ?_
   refine Lf u44 ?_
   refine Lf u44 ?_
   refine Lo u44 (Yb (VVal.bool true) rfl rfl rfl) ?_
   refine Lo u44 (Zb (.inl rfl) rfl) ?_
   refine Lf u44 ?_
   refine Lf u44 ?_
   refine Lo u44 (Yb (VVal.bool true) rfl rfl rfl) ?_
   refine Lo u44 (Zb (.inl rfl) rfl) ?_
   refine Lf u44 ?_
   refine Lf u44 ?_
   refine Lf u44 ?_
   refine Lf u44 ?_
   refine Lo u44 (Yb (VVal.bool true) rfl rfl rfl) ?_
   refine Zf (Zc ?_)
   refine ZX rfl rfl ?_
   refine Ze (Za ?_)
   refine Lo u44 (rfl) ?_
   refine Lo u44 (W13 rfl rfl rfl rfl rfl rfl rfl) ?_
   refine Lo u44 (Zg (VVal.int .i64 1) (.inr rfl) rfl) ?_
   refine Zf (Zc ?_)
   refine Yk (Gh.cellNilL 1 1 (es' := 1) rfl rfl) ?_
   refine Yk (Gh.cellNilL 1 2 (es' := 1) rfl rfl) ?_
   refine Yk (Gh.cellNilL 1 3 (es' := 3) rfl rfl) ?_
   refine Zi (Zp ?_)
   refine W5l (.inr rfl) (vres_cAt rfl rfl rfl rfl XH24 XH9 rfl) ?_
   exact W5m
  ·try simp only [qB, qN] at hg2
   refine Lo u44 (Zb (.inl rfl) rfl) ?_
   refine Lo u44 (rfl) ?_
   refine Lo u44 (W26 rfl rfl rfl rfl) ?_
   refine Lo u44 (rfl) ?_
   refine Lo u44 (rfl) ?_
   refine Lo u44 (Yl rfl rfl rfl) ?_
   refine Lo u44 (Zb (.inl rfl) rfl) ?_
   refine ZK 25 (env1 := u44) (env2 := u44) rfl rfl rfl (fun hg3 => ?_) (fun hg3 => ?_)
   ·try simp only [qB, qN] at hg3
    refine Lf u44 ?_
    refine Lf u44 ?_
    refine Lo u44 (Yb (VVal.bool true) rfl rfl rfl) ?_
    refine Lo u44 (Zb (.inl rfl) rfl) ?_
    refine Lf u44 ?_
    refine Lf u44 ?_
    refine Lf u44 ?_
    refine Lf u44 ?_
    refine Lo u44 (Yb (VVal.bool true) rfl rfl rfl) ?_
    refine Zf (Zc ?_)
    refine ZX rfl rfl ?_
    refine Ze (Za ?_)
    refine Lo u44 (rfl) ?_
    refine Lo u44 (W13 rfl rfl rfl rfl rfl rfl rfl) ?_
    refine Lo u44 (Zg (VVal.int .i64 1) (.inr rfl) rfl) ?_
    refine Zf (Zc ?_)
    refine Yk (Gh.cellNilL 1 1 (es' := 1) rfl rfl) ?_
    refine Yk (Gh.cellNilL 1 2 (es' := 1) rfl rfl) ?_
    refine Yk (Gh.cellNilL 1 3 (es' := 3) rfl rfl) ?_
    refine Zi (Zp ?_)
    refine W5l (.inr rfl) (vres_cAt rfl rfl rfl rfl XH24 XH9 rfl) ?_
    exact W5m
   ·try simp only [qB, qN] at hg3
    refine Lo u44 (Zb (.inl rfl) rfl) ?_
    refine Lo u44 (rfl) ?_
    refine Lo u44 (Yl rfl rfl rfl) ?_
    refine Lo u44 (Zb (.inl rfl) rfl) ?_
    refine ZK 29 (env1 := u44) (env2 := u44) rfl rfl rfl (fun hg4 => ?_) (fun hg4 => ?_)
    ·try simp only [qB, qN] at hg4
     refine Lf u44 ?_
     refine Lf u44 ?_
     refine Lf u44 ?_
     refine Lf u44 ?_
     refine Lo u44 (Yb (VVal.bool true) rfl rfl rfl) ?_
     refine Zf (Zc ?_)
     refine ZX rfl rfl ?_
     refine Ze (Za ?_)
     refine Lo u44 (rfl) ?_
     refine Lo u44 (W13 rfl rfl rfl rfl rfl rfl rfl) ?_
     refine Lo u44 (Zg (VVal.int .i64 1) (.inr rfl) rfl) ?_
     refine Zf (Zc ?_)
     refine Yk (Gh.cellNilL 1 1 (es' := 1) rfl rfl) ?_
     refine Yk (Gh.cellNilL 1 2 (es' := 1) rfl rfl) ?_
     refine Yk (Gh.cellNilL 1 3 (es' := 3) rfl rfl) ?_
     refine Zi (Zp ?_)
     refine W5l (.inr rfl) (vres_cAt rfl rfl rfl rfl XH24 XH9 rfl) ?_
     exact W5m
    ·try simp only [qB, qN] at hg4
     refine Lo u44 (Zb (.inl rfl) rfl) ?_
     refine Lo u44 (rfl) ?_
     refine Lo u44 (W26 rfl rfl rfl rfl) ?_
     refine Lo u44 (rfl) ?_
     refine Lo u44 (Yl rfl rfl rfl) ?_
     refine Zf (Zc ?_)
     refine Zm _ rfl (fun hc5 => ?_) (fun hc5 => ?_)
     ·try simp only [qB, qN] at hc5
      refine Ze (Za ?_)
      refine Lo u44 (rfl) ?_
      refine Lo u44 (W13 rfl rfl rfl rfl rfl rfl rfl) ?_
      refine Lo u44 (Zg (VVal.int .i64 1) (.inr rfl) rfl) ?_
      refine Zf (Zc ?_)
      refine Yk (Gh.cellNilL 1 1 (es' := 1) rfl rfl) ?_
      refine Yk (Gh.cellNilL 1 2 (es' := 1) rfl rfl) ?_
      refine Yk (Gh.cellNilL 1 3 (es' := 3) rfl rfl) ?_
      refine Zi (Zp ?_)
      refine W5l (.inr rfl) (vres_cAt rfl rfl rfl rfl XH24 XH9 rfl) ?_
      exact W5m
     ·try simp only [qB, qN] at hc5
      refine Zk (Zc (Ze ?_))
      have hE : fxE p s u = 0 := fxE_ok.2 ⟨pck_good.1 (by assumption), by omega, by omega⟩
      have g := (fxE_ok.1 hE).1
      have g5 := g.fx
      have hs9 := (fxE_ok.1 hE).2.1
      refine Za ?_
      refine Lo u44 (W24 rfl rfl rfl rfl rfl) ?_
      refine Zv rfl rfl rfl (by exact Copy_spec _ p hp (fun e => by rw [e] at g5; simp at g5; omega)) ?_
      rintro _ _ ⟨Y, j, rfl, rfl, hY⟩
      refine Le u44 ?_
      refine Lo u44 (ZB rfl rfl) ?_
      refine Lo u44 (W13 rfl rfl rfl rfl rfl rfl rfl) ?_
      refine Zf (Zc (Ze (Za ?_)))
      refine Lo u44 (rfl) ?_
      refine Lo u44 (W26 rfl rfl rfl rfl) ?_
      refine Lo u44 (Zb (.inl rfl) rfl) ?_
      refine Lo u44 (Zb (.inl rfl) rfl) ?_
      refine Lo u44 (W18 rfl rfl rfl rfl rfl rfl rfl) ?_
      refine Lo u44 (W5n rfl rfl rfl rfl rfl rfl rfl) ?_
      refine Zf (Zc (Ze ?_))
      have hj := Zz hY
      refine Yk (Gh.cellL (H := H ++ [.dead, .cells _ true]) (cs := (p.fixed.set s.toNat u).map iI) (l := (p.fixed.set s.toNat u).map iI) Y.length 2 j (by rw [List.getElem?_append_right (by rw [List.length_set]; exact Nat.le_refl _), List.length_set, Nat.sub_self]; rfl) rfl (by omega) (by rw [Zo (List.getElem?_set_self hj)]; show some (VBlk.cells (Zt (p.fixed.map iI) (0 + s.toNat * 1) [iI u]) true) = _; rw [spl_I (by omega)]) (Yt (by rw [List.length_map, List.length_set])) (Nat.le_refl _)) ?_
      refine Za ?_
      refine Lo u44 (W5o rfl rfl rfl rfl rfl) ?_
      refine Lo u44 (W5p rfl rfl rfl rfl rfl rfl rfl) ?_
      refine Lo u44 (Zg (VVal.int .i64 0) (.inr rfl) rfl) ?_
      refine Zf (Zc ?_)
      refine YQ (List.append_assoc _ _ _) ?_
      refine Zi ?_
      refine W5l (.inr rfl) (vres_cAt rfl rfl rfl rfl XH24 XH9 rfl) ?_
      exact W5m
theorem fx_good {q : Pb} {s u : Int} (h : fxE q s u = 0) : Go.V.Good (fxP q s u) := by
  obtain ⟨g, h1, h2⟩ := fxE_ok.1 h
  rw [fxP_ok h]
  have g5 := g.fx
  refine ⟨g.n12, g.u64, g.r32, g.u0, ?_, fun i hi => ?_, g.ru⟩
  · show (q.fixed.set _ _).length = _; rw [List.length_set]; exact g5
  · show okW q.users ((q.fixed.set s.toNat u).getD i 0) (q.who.getD i 0) = true
    have hi : i < q.who.length := hi
    have ok := okW_in g hi
    unfold okW
    rw [YF, Bool.and_eq_true, decide_eq_true_eq, decide_eq_true_eq]
    refine ⟨?_, ok.2⟩
    split
    · omega
    · exact ok.1
theorem fx_hds {q : Pb} {s u : Int} (h : fxE q s u = 0) (hm : myB q s.toNat u = true) {us : List Int} (hd : hds (fxP q s u) us = true) : hds q us = true ∧ us.getD s.toNat 0 = u := by
  obtain ⟨g, h1, h2⟩ := fxE_ok.1 h
  have gx := fx_good h
  have g5 := g.fx
  obtain ⟨_, hl, h3, h4⟩ := hds_iff.1 hd
  have ex := fxP_ok h
  rw [ex] at hl h3 h4 gx
  have hl : us.length = q.who.length := hl
  have hs : s.toNat < q.who.length := by omega
  have hfx : ∀ i, i < q.who.length → i ≠ s.toNat → myB q i (us.getD i 0) = true := fun i hi hne => by
    have h5 := h3 i hi
    have hw : wrd (q.users, q.who, q.fixed.set s.toNat u, q.rules, ()) i = wrd q i := by
      have hg : (q.fixed.set s.toNat u).getD i 0 = q.fixed.getD i 0 := by rw [YF, if_neg (fun e : i = s.toNat ∧ _ => hne e.1)]
      show (if 0 ≤ (q.fixed.set s.toNat u).getD i 0 then 1#64 <<< ((q.fixed.set s.toNat u).getD i 0).toNat else q.who.getD i 0) = _
      rw [hg]; rfl
    unfold myB at h5 ⊢
    rw [hw] at h5; exact h5
  have hus : us.getD s.toNat 0 = u := by
    have h5 := h3 s.toNat hs
    rw [myB_f gx hs (by show 0 ≤ (q.fixed.set s.toNat u).getD s.toNat 0; rw [YF, if_pos ⟨rfl, by omega⟩]; omega), decide_eq_true_eq] at h5
    have h6 : us.getD s.toNat 0 = (q.fixed.set s.toNat u).getD s.toNat 0 := h5
    rw [h6, YF, if_pos ⟨rfl, by omega⟩]
  refine ⟨hds_iff.2 ⟨g, hl, fun i hi => ?_, h4⟩, hus⟩
  by_cases e : i = s.toNat
  · subst e; rw [hus]; exact hm
  · exact hfx i hi e
theorem fxP_L {p : Pb} {s u : Int} (h : PbL p) : PbL (fxP p s u) := by
  by_cases e : fxE p s u = 0
  · rw [fxP_ok e]
    exact ⟨h.u, h.w, by show (p.fixed.set _ _).length ≤ _; rw [List.length_set]; exact h.f, h.r, h.s⟩
  · rw [fxP_no e]; exact ⟨by decide, by decide, by decide, by decide, fun r hr => by cases hr⟩
abbrev seB (w : BitVec 64) : VBlk := .cells [iW w] true
theorem not_of_f {b : Bool} (h : b = false) : ¬ b = true := by rw [h]; decide
theorem beq_nat {a b : Nat} : ((a : Int) == (b : Int)) = (a == b) := Bool.eq_iff_iff.2 (by rw [beq_iff_eq, beq_iff_eq]; omega)
abbrev u39 {a0 a1 a2 a3 a4 a5 a6 a7 a8 a9 a10 a11 a12 a13 a14 a15 a16 a17 a18 a19 a20 a21 a22 a23 a24 a25 a26 a27 a28 a29 a30 a31 a32 a33 a34 a35 a36 a37 a38 : VVal} : VEnv := a0 :: a1 :: a2 :: a3 :: a4 :: a5 :: a6 :: a7 :: a8 :: a9 :: a10 :: a11 :: a12 :: a13 :: a14 :: a15 :: a16 :: a17 :: a18 :: a19 :: a20 :: a21 :: a22 :: a23 :: a24 :: a25 :: a26 :: a27 :: a28 :: a29 :: a30 :: a31 :: a32 :: a33 :: a34 :: a35 :: a36 :: a37 :: a38 :: []
theorem W5t {P : Prop} (h : P := by first | exact ⟨by rw [myB_f g hi (by assumption), beq_d], rfl⟩ | exact ⟨by rw [myB_w g hi (by omega), decide_eq_false (by omega)]; rfl, rfl⟩ | exact ⟨by rw [myB_w g hi (by omega), decide_eq_true (by omega), Bool.true_and]; exact congrArg VVal.bool bit_eq, rfl⟩) : P := h
theorem May_spec {x : SW} (H : Zd) (p : Pb) (g : Go.V.Good p) (i : Nat) (hi : i < p.who.length) (u : Int) : F (psys x) 43 [.agg (pbB p), iI (i : Nat), iI u] H fun v G => v = .bool (myB p i u) ∧ G = H := by
 have g5 := g.fx
 refine Zr Tryd.func43 rfl u39 rfl ?_
 refine Ze (Za ?_)
 refine Lo u39 (Zw rfl rfl rfl) ?_
 refine Lo u39 (Zg (VVal.bool false) (.inr rfl) rfl) ?_
 refine Zf (Zc (Ze (Ze (Za ?_))))
 refine Lo u39 (rfl) ?_
 refine Lo u39 (W26 rfl rfl rfl rfl) ?_
 refine Lo u39 (Zb (.inl rfl) rfl) ?_
 refine Lo u39 (W18 rfl rfl rfl rfl rfl rfl rfl) ?_
 refine Lo u39 (W26 rfl rfl rfl rfl) ?_
 refine Lo u39 (rfl) ?_
 refine Zf (Zc ?_)
 refine Zm _ rfl (fun hc1 => ?_) (fun hc1 => ?_)
 ·try simp only [qB, qN] at hc1
  refine Ze (Za ?_)
  refine Lo u39 (Zb (.inl rfl) rfl) ?_
  refine Lo u39 (rfl) ?_
  refine Lo u39 (W26 rfl rfl rfl rfl) ?_
  refine Lo u39 (Zb (.inl rfl) rfl) ?_
  refine Lo u39 (W18 rfl rfl rfl rfl rfl rfl rfl) ?_
  refine Lo u39 (W26 rfl rfl rfl rfl) ?_
  refine Lo u39 (rfl) ?_
  refine Lo u39 (Zb (.inr rfl) rfl) ?_
  refine Zf (Zc (Zi (Zp ?_)))
  refine W10 (.inr rfl) (Zh rfl rfl) ?_
  exact W5t
 ·try simp only [qB, qN] at hc1
  refine Zk (Zc (Ze (Za ?_)))
  refine Lo u39 (Zb (.inl rfl) rfl) ?_
  refine Lo u39 (rfl) ?_
  refine Lo u39 (Zb (.inl rfl) rfl) ?_
  refine ZK 22 (env1 := u39) (env2 := u39) rfl rfl rfl (fun hg2 => ?_) (fun hg2 => ?_)
  ·try simp only [qB, qN] at hg2
   refine Lo u39 (Zb (.inl rfl) rfl) ?_
   refine Lo u39 (rfl) ?_
   refine Lo u39 (W26 rfl rfl rfl rfl) ?_
   refine Lo u39 (rfl) ?_
   refine Lo u39 (ZW rfl rfl rfl) ?_
   refine Lo u39 (Zb (.inl rfl) rfl) ?_
   refine ZK 28 (env1 := u39) (env2 := u39) rfl rfl rfl (fun hg3 => ?_) (fun hg3 => ?_)
   ·try simp only [qB, qN] at hg3
    refine Lo u39 (rfl) ?_
    refine Lo u39 (W26 rfl rfl rfl rfl) ?_
    refine Lo u39 (Zb (.inl rfl) rfl) ?_
    refine Lo u39 (W18 rfl rfl rfl rfl rfl rfl rfl) ?_
    refine Lo u39 (W26 rfl rfl rfl rfl) ?_
    refine Lo u39 (Zb (.inl rfl) rfl) ?_
    refine Lo u39 (v_shrW rfl rfl rfl XH1) ?_
    refine Lo u39 (v_andW (b := 1#64) rfl rfl rfl) ?_
    refine Lo u39 (rfl) ?_
    refine Lo u39 (ZW rfl rfl rfl) ?_
    refine Lo u39 (Zb (.inr rfl) rfl) ?_
    refine Zf (Zc (Zi ?_))
    refine W10 (.inr rfl) (Zh rfl rfl) ?_
    exact W5t
   ·try simp only [qB, qN] at hg3
    refine Lf u39 ?_
    refine Lf u39 ?_
    refine Lf u39 ?_
    refine Lf u39 ?_
    refine Lf u39 ?_
    refine Lf u39 ?_
    refine Lf u39 ?_
    refine Lf u39 ?_
    refine Lf u39 ?_
    refine Lo u39 (ZF (VVal.bool false) rfl rfl rfl) ?_
    refine Lo u39 (Zb (.inr rfl) rfl) ?_
    refine Zf (Zc (Zi ?_))
    refine W10 (.inr rfl) (Zh rfl rfl) ?_
    exact W5t
  ·try simp only [qB, qN] at hg2
   refine Lf u39 ?_
   refine Lf u39 ?_
   refine Lf u39 ?_
   refine Lf u39 ?_
   refine Lo u39 (ZF (VVal.bool false) rfl rfl rfl) ?_
   refine Lo u39 (Zb (.inl rfl) rfl) ?_
   refine Lf u39 ?_
   refine Lf u39 ?_
   refine Lf u39 ?_
   refine Lf u39 ?_
   refine Lf u39 ?_
   refine Lf u39 ?_
   refine Lf u39 ?_
   refine Lf u39 ?_
   refine Lf u39 ?_
   refine Lo u39 (ZF (VVal.bool false) rfl rfl rfl) ?_
   refine Lo u39 (Zb (.inr rfl) rfl) ?_
   refine Zf (Zc (Zi ?_))
   refine W10 (.inr rfl) (Zh rfl rfl) ?_
   exact W5t
section
variable {H L : Zd} {p q : Nat} {s : HSt}
end
theorem fx_hds_rev {q : Pb} {s u : Int} (h : fxE q s u = 0) {us : List Int} (hd : hds q us = true) (hu : us.getD s.toNat 0 = u) : hds (fxP q s u) us = true := by
  obtain ⟨g, h1, h2⟩ := fxE_ok.1 h
  have gx := fx_good h
  have g5 := g.fx
  obtain ⟨_, hl, h3, h4⟩ := hds_iff.1 hd
  have ex := fxP_ok h
  rw [ex] at gx ⊢
  have hs : s.toNat < q.who.length := by omega
  refine hds_iff.2 ⟨gx, hl, fun i hi => ?_, h4⟩
  have hi : i < q.who.length := hi
  by_cases e : i = s.toNat
  · subst e
    rw [myB_f gx hs (by show 0 ≤ (q.fixed.set s.toNat u).getD s.toNat 0; rw [YF, if_pos ⟨rfl, by omega⟩]; omega), decide_eq_true_eq]
    show us.getD s.toNat 0 = (q.fixed.set s.toNat u).getD s.toNat 0
    rw [YF, if_pos ⟨rfl, by omega⟩]; exact hu
  · have hw : wrd (q.users, q.who, q.fixed.set s.toNat u, q.rules, ()) i = wrd q i := by
      have hg : (q.fixed.set s.toNat u).getD i 0 = q.fixed.getD i 0 := by rw [YF, if_neg (fun e2 : i = s.toNat ∧ _ => e e2.1)]
      show (if 0 ≤ (q.fixed.set s.toNat u).getD i 0 then 1#64 <<< ((q.fixed.set s.toNat u).getD i 0).toNat else q.who.getD i 0) = _
      rw [hg]; rfl
    have h5 := h3 i hi
    unfold myB at h5 ⊢
    rw [hw]; exact h5
theorem myB_in' {p : Pb} {i : Nat} {u : Int} (g : Go.V.Good p) (hi : i < p.who.length) (h : myB p i u = true) : 0 ≤ u ∧ u < p.users := by
  have ok := (okW_in g hi).1
  by_cases h0 : 0 ≤ p.fixed.getD i 0
  · rw [myB_f g hi h0, decide_eq_true_eq] at h; omega
  · rw [myB_w g hi (by omega), Bool.and_eq_true, decide_eq_true_eq] at h; exact h.1
def cLi (p : Pb) (j v : Nat) : Bool := myB p j (v : Nat) && (leA (fxP p (j : Nat) (v : Nat))).isSome
theorem cLi_iff {p : Pb} {j v : Nat} (g : Go.V.Good p) (hj : j < p.who.length) (hv : (v : Int) < p.users) : cLi p j v = true ↔ ∃ ns : List Nat, hds p (zI ns) = true ∧ ns.getD j 0 = v := by
  have hE : fxE p (j : Nat) (v : Nat) = 0 := fxE_ok.2 ⟨g, by omega, by omega⟩
  unfold cLi
  rw [Bool.and_eq_true]
  constructor
  · rintro ⟨h1, h2⟩
    obtain ⟨l, hl⟩ := Option.isSome_iff_exists.1 h2
    obtain ⟨h3, h4⟩ := fx_hds hE (by rw [Int.toNat_natCast]; exact h1) (leA_some hl)
    refine ⟨l, h3, ?_⟩
    rw [Int.toNat_natCast] at h4
    have hl2 : j < l.length := by have := (hds_iff.1 h3).2.1; rw [zI_len] at this; omega
    rw [zI_get hl2] at h4
    omega
  · rintro ⟨ns, h1, h2⟩
    have hl2 : j < ns.length := by have := (hds_iff.1 h1).2.1; rw [zI_len] at this; omega
    have hz : (zI ns).getD j 0 = (v : Int) := by rw [zI_get hl2, h2]
    refine ⟨by have := (hds_iff.1 h1).2.2.1 j hj; rwa [hz] at this, leA_can (fx_hds_rev hE h1 (by rw [Int.toNat_natCast]; exact hz))⟩
theorem ptP_iff {p : Pb} {a : List Nat} (h : pck p = 0) : a ∈ ptP p ↔ Pat a ∧ a.length = p.who.length ∧ Mat (ZV (wsP p) a a.length) ∧ ∀ r, r ∈ p.rules → erl r p.who.length (zI a) = true := by
  have g := pck_good.1 h
  have hr : ∀ r, r ∈ p.rules → rck (wsP p).length r = true := fun r hr => by rw [ZG]; exact g.ru r hr
  constructor
  · intro ha
    obtain ⟨_, h1, h2, _, h3⟩ := ptP_mem ha
    have hk := kept_iff (ws := wsP p) (rs := p.rules) h1 (by rw [ZG]; exact h2) hr
    have h4 : keptN (kpB (wsP p) (addR (wsP p).length p.rules p.rules.length)) 0 a = true := by rw [ZG]; exact h3
    have h5 := hk.1 h4
    rw [ZG] at h5
    exact ⟨h1, h2, h5⟩
  · rintro ⟨h1, h2, h3, h4⟩
    have hk := kept_iff (ws := wsP p) (rs := p.rules) h1 (by rw [ZG]; exact h2) hr
    have h5 := hk.2 ⟨h3, by rw [ZG]; exact h4⟩
    unfold ptP
    rw [if_pos h, ptT_snd, List.mem_filter]
    refine ⟨?_, ?_⟩
    · have := pats_all (m := (wsP p).length) (row := []) h1 (by rw [ZG]; simpa using h2) rfl
      exact this
    · rw [ZG] at h5; exact h5
theorem live_iff {p : Pb} {j v : Nat} (h : pck p = 0) (hj : j < p.who.length) : (∃ a, a ∈ ptP p ∧ (frW (ZV (wsP p) a a.length) (a.getD j 0)).getLsbD v = true) ↔ ∃ ns : List Nat, hds p (zI ns) = true ∧ ns.getD j 0 = v := by
  have g := pck_good.1 h
  constructor
  · rintro ⟨a, ha, hb⟩
    obtain ⟨h1, h2, h3, h4⟩ := (ptP_iff h).1 ha
    have hlt := Pat.lt h1 (Nat.le_refl a.length) (i := j) (by omega)
    obtain ⟨us, h5, h6⟩ := (frW_mat (by rw [Yx]; exact hlt)).1 hb
    refine ⟨plN a us, hds_plan.2 ⟨g, plan_of h1 (by rw [ZG]; exact h2) h5 (fun r hr => by rw [ZG]; exact h4 r hr)⟩, ?_⟩
    rw [plN_get (by omega), h6]
  · rintro ⟨ns, h1, h2⟩
    obtain ⟨_, hp⟩ := hds_plan.1 h1
    obtain ⟨q1, q2, q3, q4⟩ := of_plan hp
    have q5 := @ptK_pl ns
    have hlt := Pat.lt q1 (Nat.le_refl _) (i := j) (by rw [q2, ZG]; exact hj)
    refine ⟨(ptK ns ns.length).1, (ptP_iff h).2 ⟨q1, by rw [q2, ZG], ⟨_, q3⟩, fun r hr => by have := q4 r hr; rwa [ZG] at this⟩, ?_⟩
    refine (frW_mat (by rw [Yx]; exact hlt)).2 ⟨_, q3, ?_⟩
    rw [← plN_get (by rw [q2, ZG]; exact hj), q5, h2]
def flK (p : Pb) (i u : Nat) : List (BitVec 64) := (List.range p.who.length).map fun j => if j < i then wdP (cLi p j) p.users.toNat else if j = i then wdP (cLi p j) u else 0#64
theorem flK_len {p : Pb} {i u : Nat} : (flK p i u).length = p.who.length := by unfold flK; simp
theorem flK_get {p : Pb} {i u j : Nat} (h : j < p.who.length) : (flK p i u).getD j 0 = if j < i then wdP (cLi p j) p.users.toNat else if j = i then wdP (cLi p j) u else 0#64 := by
  unfold flK; simp [List.getD_eq_getElem?_getD, h]
theorem flK_all {p : Pb} (h : pck p = 0) : flK p p.who.length 0 = liA p := by
  have g := pck_good.1 h
  have g2 := g.u64; have g4 := g.u0
  refine list_ext_D (by rw [flK_len, liA_len h]) fun j hj => ?_
  rw [flK_len] at hj
  rw [flK_get hj, if_pos hj, liA_in h]
  apply BitVec.eq_of_getLsbD_eq
  intro v hv
  rw [wdP_bit hv, Bool.eq_iff_iff, liF_bit (by rw [ZG]; exact hj) (by rw [List.length_replicate, ZG]) (fun a ha => by have := ptP_mem ha; rw [ZG]; exact ⟨this.2.1, this.2.2.1⟩) (fun e => by simp [List.getD_eq_getElem?_getD, hj] at e)]
  rw [live_iff h hj, Bool.and_eq_true, decide_eq_true_eq]
  constructor
  · rintro ⟨h1, h2⟩
    exact .inr ((cLi_iff g hj (by omega)).1 h2)
  · rintro (h1 | ⟨ns, h1, h2⟩)
    · simp [List.getD_eq_getElem?_getD, hj] at h1
    · have hl2 : j < ns.length := by have := (hds_iff.1 h1).2.1; rw [zI_len] at this; omega
      have hm := (hds_iff.1 h1).2.2.1 j hj
      have hb : (v : Int) < p.users := by
        have := (myB_in' g hj hm).2
        rw [zI_get hl2, h2] at this; exact this
      exact ⟨by omega, (cLi_iff g hj hb).2 ⟨ns, h1, h2⟩⟩
namespace MM
end MM
open Go Go.V Go.RowKit
def sumP (p : Pb) : Nat := ((ptP p).map (cnA (wsP p))).sum
theorem W5x {T : TypeId → Option VTy} {H : Zd} {op : Op} {ρ : Operand → VVal} {t : TypeId} {a : Operand} {y : VTy} {p v : VVal} (ho : op = .load t a) (ha : ρ a = p) (hy : T t = some y) (hd : Zj y.desc = false) (h : LdOk H p v := by first | exact .inl ⟨_, _, rfl, XH41⟩ | exact .inr ⟨_, _, _, _, rfl, by first | exact Zo (Zu rfl rfl) | exact Zu rfl rfl | exact getB rfl rfl, XH41⟩) : vop T ρ H op = some (v, H) := v_ld ho ha hy hd h
theorem W5z {P : Prop} (h : P := by first | exact ⟨congrArg iW (by rw [hI]; rfl), rfl⟩ | exact ⟨congrArg iW (by rw [hX1, satW_full hX1 hX2]), rfl⟩) : P := h
theorem pl_step {ws : List (BitVec 64)} {a : List Nat} {most : BitVec 64} {s : Nat} (h : (ZV ws a a.length).length ≤ 12) : Z5 (Z5 most 65536) s + MM.coV (ZV ws a a.length) (Z5 ((Z5 most 65536) - Z5 (Z5 most 65536) s) 65536) = Z5 (Z5 most 65536) (s + cnA ws a) := by
  unfold MM.coV
  rw [if_pos h]
  exact sat_more (by rw [Yp]; omega)
theorem sum_split {f : List Nat → Nat} {l pre post : List (List Nat)} {a : List Nat} (h : l = pre ++ a :: post) : ((pre ++ [a]).map f).sum = (pre.map f).sum + f a ∧ ((pre ++ [a]).map f).sum ≤ (l.map f).sum := by
  subst h
  simp only [List.map_append, List.sum_append, List.map_cons, List.sum_cons, List.map_nil, List.sum_nil]
  omega
theorem tPlans_spec {x : SW} (H : Zd) (p : Pb) (hp : PbL p) (most : BitVec 64) : F (psys x) 29 [.agg (pbB p), iW most] H fun v G => v = iW (Z5 (Z5 most 65536) (sumP p)) ∧ G = H := by
 refine Zr Tryd.func29 rfl u25 rfl ?_
 refine Ze (Za ?_)
 refine Lo u25 (Zw rfl rfl rfl) ?_
 refine Lo u25 (Zw rfl rfl rfl) ?_
 refine Lo u25 (Zg (VVal.int .u64 0) (.inr rfl) rfl) ?_
 refine Zf (Zc (Ze ?_))
 refine Yk (Gh.freezePtrL (cs := pbB p) 2 0 rfl rfl rfl) ?_
 refine Za ?_
 refine Lo u25 (W12 rfl rfl rfl rfl) ?_
 refine Lo u25 (v_val rfl ((congrArg (VVal.int .u64) (MM.minW (a := most) (b := 65536#64))).trans rfl)) ?_
 refine Lo u25 (W13 rfl rfl rfl rfl rfl rfl rfl) ?_
 refine Zf (Zc (Ze (Za ?_)))
 refine Lo u25 (ZB rfl rfl) ?_
 refine Lo u25 (Yn (VVal.int .u64 0) rfl rfl rfl rfl rfl rfl rfl XH0 XH6 XH7) ?_
 refine Zf (Zc (Ze (Ze (Za ?_))))
 refine Lo u25 (W11 rfl rfl rfl rfl rfl) ?_
 refine Zv rfl rfl rfl (by exact tpat_spec _ p) ?_
 rintro _ _ ⟨rfl, rfl⟩
 refine Le u25 ?_
 refine Zf (Zc (Zl ?_))
 refine ZD (mk 25 33552343) (env' := u25) rfl ?_
 refine B_rangeJ (fvP p) 2 (fun _ => rfl) (ptP p) (fun l0 h => by cases h) rfl (fun l9 G9 K9 hI9 => tpat1_spec l9 p hp G9 K9 hI9) (σ := Nat) (fun k s => H ++ [.dead, .cells [iW (Z5 most 65536)] true, .cells [iW (Z5 (Z5 most 65536) s)] true, k]) 0 (fun k => by rw [List.append_assoc]; show _ = H ++ [.dead, .cells [iW (Z5 most 65536)] true, .cells [iW (Z5 (Z5 most 65536) 0)] true, k]; rw [satW_0]; rfl) (fun k s => by simp) (fun k s => by rw [show (H ++ _ : Zd).length = H.length + 3 by simp]; exact Zu rfl rfl) (fun k k1 s => by rw [show (H ++ _ : Zd).length = H.length + 3 by simp]; exact ZC rfl) (fun pre s => s = (pre.map (cnA (wsP p))).sum) ?_ (fun j pre c s => (j = Code.exit 0 ∧ (Z5 (Z5 most 65536) s = (Z5 most 65536) ∧ s ≤ sumP p))) rfl ?_ ?_ ?_
 ·rfl
 ·intro pre c post s hx hI Lp kr kb hkr hkb
  try dsimp only at hI ⊢
  have hc9 : c ∈ ptP p := by rw [hx]; simp
  obtain ⟨h0, hpc, hcl, _, _⟩ := ptP_mem hc9
  have g1 := (pck_good.1 h0).n12
  have hbl := @Yx (wsP p) c c.length
  have hz := @szP_le c c.length
  obtain ⟨hs1, hs2⟩ := sum_split (f := cnA (wsP p)) hx
  refine Z7 (env' := u25) rfl ?_
  refine Za ?_
  refine Lo u25 (Zb (.inr rfl) rfl) ?_
  refine Zf ?_
  refine ⟨rfl, s, rfl, ?_⟩
  try dsimp only
  refine Zl (Ze ?_)
  refine ZT [0, 1, 2, 3, 4, 5, 6, 7] #[0, 0, 0, 0, 12, 30, 63, 127] XH5 XH5 XH5 ?_
  refine Yh (env' := u25) (x := .look _ _) rfl rfl rfl (W12 rfl rfl rfl rfl) rfl rfl rfl ?_
  refine Oo u25 .calm rfl (Zb (.inl rfl) rfl) ?_
  refine Oo u25 .look rfl (W12 rfl rfl rfl rfl) ?_
  refine Oo u25 .look rfl (W12 rfl rfl rfl rfl) ?_
  refine Oo u25 .calm rfl (v_subW rfl rfl rfl) ?_
  refine Z6 (env' := u25) rfl rfl rfl rfl rfl (by exact MM.mCount_spec _ (ZV (wsP p) c c.length) ((Z5 most 65536) - Z5 (Z5 most 65536) s) (by omega)) XH10 rfl rfl ?_
  refine Oo u25 .calm rfl (v_val (v_addW rfl rfl rfl) (congrArg iW (pl_step (s := s) (a := c) (ws := wsP p) (most := most) (by omega)))) ?_
  refine Oo u25 .turn rfl (W13 rfl rfl rfl rfl rfl rfl rfl) ?_
  refine O_nilP [(0, 5)] XH5 (And.intro ⟨_, _, _, _, ⟨(gA (gA (gA (gA (gA (gA (gA (gL XH5)))))))), (gA (gA (gL XH5))), And.intro (W12 rfl rfl rfl rfl) (W12 rfl rfl rfl rfl)⟩⟩ (trivial)) ?_
  refine Zc (Ze (Za ?_))
  refine Lo u25 (W12 rfl rfl rfl rfl) ?_
  refine Lo u25 (W12 rfl rfl rfl rfl) ?_
  refine Lo u25 (rfl) ?_
  refine Zf (Zc ?_)
  refine Zm _ rfl (fun hc1 => ?_) (fun hc1 => ?_)
  ·try simp only [qB, qN] at hc1
   refine ZO ?_
   refine K_blkO rfl ?_
   refine ⟨s + cnA (wsP p) c, [], (by simp; rfl), .inr ⟨Code.exit 0, rfl, ⟨rfl, ?_⟩⟩⟩
   exact ⟨hc1, by rw [hI, ← hs1]; exact hs2⟩
  ·try simp only [qB, qN] at hc1
   refine Zk (Zy ?_)
   refine ⟨s + cnA (wsP p) c, [], (by simp; rfl), .inl ⟨rfl, ?_⟩⟩
   rw [hs1, hI]
 ·intro s k hk hI J9
  try dsimp only at hI ⊢
  refine Zy (Zc (Ze ?_))
  try refine YQ (List.append_assoc _ _ _) ?_
  refine Za ?_
  refine Lo u25 (W5x rfl rfl rfl rfl) ?_
  refine Lo u25 (Zb (.inr rfl) rfl) ?_
  refine Zf (Zc (Zi ?_))
  refine W10 (.inr rfl) (Zh rfl rfl) ?_
  exact W5z
 ·rintro j pre c post s k hk hx (⟨rfl, ⟨hX1, hX2⟩⟩) J9
  try dsimp only
  skip
  refine J_exit ?_
  refine ZN (Zc (Ze ?_))
  try refine YQ (List.append_assoc _ _ _) ?_
  refine Za ?_
  refine Lo u25 (W5x rfl rfl rfl rfl) ?_
  refine Lo u25 (Zb (.inr rfl) rfl) ?_
  refine Zf (Zc (Zi ?_))
  refine W10 (.inr rfl) (Zh rfl rfl) ?_
  exact W5z
def pt : Pb := (2, [3#64, 3#64], [-1, -1], [], ())
theorem pt_L : PbL pt := ⟨by decide, by decide, by decide, by decide, fun r hr => by cases hr⟩
theorem pt_n : sumP pt = 4 := by decide +kernel
theorem pt_l : liA pt = [3#64, 3#64] := by decide +kernel
theorem twakes_spec {x : SW} (H : Zd) : F (psys x) 31 [] H fun v G => v = .bool true ∧ G = H := by
 refine Zr Tryd.func31 rfl u22 rfl ?_
 refine Ze (Za ?_)
 refine Lo u22 (Zg (VVal.bool false) (.inr rfl) rfl) ?_
 refine Zf (Zc (Ze (Za ?_)))
 refine Lo u22 (ZA rfl rfl (by decide) rfl) ?_
 refine Lo u22 (ZA rfl rfl (by decide) rfl) ?_
 refine Lo u22 (rfl) ?_
 refine Lo u22 (ZB rfl rfl) ?_
 refine Lo u22 (W13 rfl rfl rfl rfl rfl rfl rfl) ?_
 refine Zf (Zc (Ze (Za ?_)))
 refine L_gh (Gh.cellL (l := [iW 3#64, iW 3#64]) 2 1 0 rfl rfl (by decide) rfl rfl (Nat.le_refl _)) ?_
 refine L_gh (Gh.cellL (l := [iI (-1), iI (-1)]) 2 2 1 rfl rfl (by decide) rfl rfl (Nat.le_refl _)) ?_
 refine L_gh (Gh.cellNilL 2 3 (es' := 3) rfl rfl) ?_
 refine Lo u22 (W11 rfl rfl rfl rfl rfl) ?_
 refine Zv rfl rfl rfl (by exact tLive_spec _ pt pt_L) ?_
 rintro v _ ⟨hv, rfl⟩; rw [pt_l] at hv; subst hv
 refine Le u22 ?_
 refine Lo u22 (Zb (.inr rfl) rfl) ?_
 refine Zf (Zc (Ze (Za ?_)))
 refine Lo u22 (W11 rfl rfl rfl rfl rfl) ?_
 refine Zv rfl rfl rfl (by exact tPlans_spec _ pt pt_L 9#64) ?_
 rintro v _ ⟨hv, rfl⟩; obtain rfl : v = iW 4#64 := hv.trans (congrArg iW (by rw [pt_n]; decide))
 refine Le u22 ?_
 refine Lo u22 (v_is true rfl rfl) ?_
 refine Lo u22 (Zb (.inl rfl) rfl) ?_
 refine Lo u22 (Zb (.inl rfl) rfl) ?_
 refine Lo u22 (rfl) ?_
 refine Lo u22 (v_is true rfl rfl) ?_
 refine Lo u22 (ZW rfl rfl rfl) ?_
 refine Lo u22 (Zb (.inl rfl) rfl) ?_
 refine Lo u22 (Zb (.inl rfl) rfl) ?_
 refine Lo u22 (W18 rfl rfl rfl rfl rfl rfl rfl) ?_
 refine Lo u22 (W12 rfl rfl rfl rfl) ?_
 refine Lo u22 (v_is true rfl rfl) ?_
 refine Lo u22 (ZW rfl rfl rfl) ?_
 refine Lo u22 (Zb (.inr rfl) rfl) ?_
 refine Zf (Zc (Zi ?_))
 refine W10 (.inr rfl) (Zh rfl rfl) ?_
 exact ⟨rfl, rfl⟩
end Go.Proofs.YtenkjadobkjaeaaDoor.VT
