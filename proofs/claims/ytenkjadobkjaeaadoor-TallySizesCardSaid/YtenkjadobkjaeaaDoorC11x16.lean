/- Proved: Rows.TallySizesCardSaid, the statement TallySizes with its card, of the given program at the commit; no conditions beyond those in the statement. -/
import Derived.Test.YtenkjadobkjaeaaDoorC11x15
set_option autoImplicit false
set_option linter.unusedVariables false
set_option linter.unusedSimpArgs false
set_option maxHeartbeats 4000000
set_option maxRecDepth 100000
namespace Go.Proofs.YtenkjadobkjaeaaDoor.VT
open Go Go.V Go.RowKit
abbrev u77 {a0 a1 a2 a3 a4 a5 a6 a7 a8 a9 a10 a11 a12 a13 a14 a15 a16 a17 a18 a19 a20 a21 a22 a23 a24 a25 a26 a27 a28 a29 a30 a31 a32 a33 a34 a35 a36 a37 a38 a39 a40 a41 a42 a43 a44 a45 a46 a47 a48 a49 a50 a51 a52 a53 a54 a55 a56 a57 a58 a59 a60 a61 a62 a63 a64 a65 a66 a67 a68 a69 a70 a71 a72 a73 a74 a75 a76 : VVal} : VEnv := a0 :: a1 :: a2 :: a3 :: a4 :: a5 :: a6 :: a7 :: a8 :: a9 :: a10 :: a11 :: a12 :: a13 :: a14 :: a15 :: a16 :: a17 :: a18 :: a19 :: a20 :: a21 :: a22 :: a23 :: a24 :: a25 :: a26 :: a27 :: a28 :: a29 :: a30 :: a31 :: a32 :: a33 :: a34 :: a35 :: a36 :: a37 :: a38 :: a39 :: a40 :: a41 :: a42 :: a43 :: a44 :: a45 :: a46 :: a47 :: a48 :: a49 :: a50 :: a51 :: a52 :: a53 :: a54 :: a55 :: a56 :: a57 :: a58 :: a59 :: a60 :: a61 :: a62 :: a63 :: a64 :: a65 :: a66 :: a67 :: a68 :: a69 :: a70 :: a71 :: a72 :: a73 :: a74 :: a75 :: a76 :: []
namespace MM
theorem minW {a b : BitVec 64} : (if (b.toNat : Int) < (a.toNat : Int) then (b.toNat : Int) else (a.toNat : Int)) = ((Z7 a b.toNat).toNat : Int) := by
  rw [Yv]; split <;> omega
theorem rep_w : ∀ {n : Nat}, ZG [VVal.int .u64 0] n = (List.replicate n 0#64).map iW
  | 0 => rfl
  | n + 1 => by rw [ZG, rep_w, List.replicate_succ]; rfl
section
variable {T : TypeId → Option VTy} {ρ : Operand → VVal} {H : Zf} {op : Op}
theorem pow12 {i : Nat} (h : i ≤ 12) : 2 ^ i ≤ 4096 := Nat.pow_le_pow_right (by decide) h
theorem v_shlI1 {t ty : TypeId} {y : Operand} {k : IntKind} {i : Nat} (ho : op = .binOp .shl t (.const (.int .i64 1)) y ty) (hy : ρ y = .int k (i : Nat)) (hr : ρ (.const (.int .i64 1)) = .int .i64 1) (h : i ≤ 12) : vop T ρ H op = some (.int .i64 ((2 ^ i : Nat) : Int), H) := by
  rw [ho]; simp only [vop, hr, hy, vbin, vshift]
  rw [if_neg (by omega), show min (i : Int).toNat IntKind.i64.bits = i from by show min (i : Int).toNat 64 = i; omega, Int.one_mul]
  have e : (2 : Int) ^ i = ((2 ^ i : Nat) : Int) := by rw [Int.natCast_pow]; rfl
  have := pow12 h
  rw [e]
  generalize 2 ^ i = p at this ⊢
  rw [wrap_i _ (by omega)]; rfl
theorem v_shrI {t ty : TypeId} {x y : Operand} {k : IntKind} {s i : Nat} (ho : op = .binOp .shr t x y ty) (hx : ρ x = .int .i64 (s : Nat)) (hy : ρ y = .int k (i : Nat)) (h : i ≤ 12) : vop T ρ H op = some (.int .i64 ((s / 2 ^ i : Nat) : Int), H) := by
  rw [ho]; simp only [vop, hx, hy, vbin, vshift]
  rw [if_neg (by omega), show min (i : Int).toNat IntKind.i64.bits = i from by show min (i : Int).toNat 64 = i; omega]
  have e : (2 : Int) ^ i = ((2 ^ i : Nat) : Int) := by rw [Int.natCast_pow]; rfl
  rw [e, ← Int.ofNat_fdiv]; rfl
end
theorem and1 {n : Nat} (h : n < 2 ^ 63) : vbits .and .i64 (n : Int) 1 = ((n % 2 : Nat) : Int) := by
  show IntKind.i64.wrap ((BitVec.ofInt 64 (n : Int) &&& BitVec.ofInt 64 ((1 : Nat) : Int)).toNat : Int) = _
  rw [BitVec.ofInt_natCast, BitVec.ofInt_natCast, BitVec.toNat_and, BitVec.toNat_ofNat, BitVec.toNat_ofNat, Nat.mod_eq_of_lt (Nat.lt_trans h (by decide)), Nat.mod_eq_of_lt (by decide : 1 < 2 ^ 64), show (1 : Nat) = 2 ^ 1 - 1 from rfl, Nat.and_two_pow_sub_one_eq_mod]
  exact wrap_i _ (by have : n % 2 ^ 1 < 2 := Nat.mod_lt _ (by decide); omega)
theorem tb_is {s i : Nat} (hs : s < 4096) : (vbits .and .i64 ((s / 2 ^ i : Nat) : Int) 1 == 1) = s.testBit i := by
  have h1 : s / 2 ^ i ≤ s := Nat.div_le_self _ _
  rw [and1 (by omega), Nat.testBit_eq_decide_div_mod_eq, Bool.eq_iff_iff, beq_iff_eq, decide_eq_true_eq]; omega
theorem andNot_less {s i : Nat} (hs : s < 4096) (hi : i ≤ 12) (h : s.testBit i = true) : vbits .andNot .i64 (s : Int) ((2 ^ i : Nat) : Int) = ((less s i : Nat) : Int) := by
  have hl := less_lt h
  have hp := pow12 hi
  show IntKind.i64.wrap ((BitVec.ofInt 64 (s : Int) &&& ~~~(BitVec.ofInt 64 ((2 ^ i : Nat) : Int))).toNat : Int) = _
  have e : (BitVec.ofInt 64 (s : Int) &&& ~~~(BitVec.ofInt 64 ((2 ^ i : Nat) : Int))).toNat = less s i := by
    rw [BitVec.ofInt_natCast, BitVec.ofInt_natCast]
    apply Nat.eq_of_testBit_eq
    intro j
    rw [less_bit h]
    by_cases hj : j < 64
    · have : (BitVec.ofNat 64 s &&& ~~~BitVec.ofNat 64 (2 ^ i)).getLsbD j = (s.testBit j && decide (j ≠ i)) := by
        rw [BitVec.getLsbD_and, BitVec.getLsbD_not, BitVec.getLsbD_ofNat, BitVec.getLsbD_ofNat, Nat.testBit_two_pow, decide_eq_true hj]
        by_cases e : j = i
        · subst e; simp
        · have : ¬ i = j := fun x => e x.symm
          simp [e, this]
      exact this
    · have h1 : s.testBit j = false := Nat.testBit_lt_two_pow (Nat.lt_of_lt_of_le (show s < 2 ^ 12 from hs) (Nat.pow_le_pow_right (by decide) (by omega)))
      rw [h1, Bool.false_and]
      exact Nat.testBit_lt_two_pow (Nat.lt_of_lt_of_le (BitVec.isLt _) (Nat.pow_le_pow_right (by decide) (by omega)))
  rw [e]
  exact wrap_i _ (by omega)
theorem way_start {rows : List (BitVec 64)} {most : BitVec 64} : (List.replicate (2 ^ rows.length) 0#64).set 0 (Z7 most 1) = wayL rows.length (wU rows most 0) := by
  have h0 : List.replicate (2 ^ rows.length) 0#64 = wayL rows.length fun _ => 0#64 := by
    unfold wayL
    rw [List.map_const', List.length_range]
  rw [h0]
  refine wayL_set ?_ fun s hs hne => ?_
  · unfold wU; rw [wS_0]
  · unfold wU; rw [wS_start hs, if_neg hne, satW_0]
theorem way_top {rows : List (BitVec 64)} {most : BitVec 64} {u : Nat} : wayL rows.length (wU rows most u) = wayL rows.length (wF rows most u (2 ^ rows.length - 1) 0) := wayL_congr fun s hs => by
  unfold wU wF; rw [if_neg (by omega)]; split
  · rename_i h; subst h; rfl
  · rfl
theorem way_down {rows : List (BitVec 64)} {most : BitVec 64} {u s : Nat} (hu : u < 64) (hs : 0 < s) : wayL rows.length (wF rows most u s rows.length) = wayL rows.length (wF rows most u (s - 1) 0) := wayL_congr fun s' hs' => by
  unfold wF
  by_cases h1 : s < s'
  · rw [if_pos h1, if_pos (by omega)]
  · by_cases h2 : s' = s
    · subst h2; rw [if_neg h1, if_pos rfl, if_pos (by omega), wP_all hu]
    · rw [if_neg h1, if_neg h2, if_neg (by omega)]
      by_cases h3 : s' = s - 1
      · rw [if_pos h3, h3]; rfl
      · rw [if_neg h3]
theorem way_end {rows : List (BitVec 64)} {most : BitVec 64} {u : Nat} : wayL rows.length (wF rows most u 0 0) = wayL rows.length (wU rows most (u + 1)) := wayL_congr fun s' _ => by
  unfold wF wU
  by_cases h : s' = 0
  · subst h; rw [if_neg (by omega), if_pos rfl, wS_0]; show Z7 most (wS rows u 0) = _; rw [wS_0]
  · rw [if_pos (by omega)]
theorem way_set {rows : List (BitVec 64)} {most : BitVec 64} {u s k : Nat} (hm : most.toNat ≤ 65536) (hs : s < 2 ^ rows.length) (h1 : s.testBit k = true) (h2 : (rows.getD k 0).getLsbD u = true) :
    (wayL rows.length (wF rows most u s k)).set s (Z7 most (wP rows u s k + wS rows u (less s k))) = wayL rows.length (wF rows most u s (k + 1)) := by
  refine wayL_set ?_ fun s' hs' hne => ?_
  · unfold wF; rw [if_neg (by omega), if_pos rfl, wP, if_pos ⟨h1, h2⟩]
  · unfold wF; rw [if_neg hne, if_neg hne]
theorem way_same {rows : List (BitVec 64)} {most : BitVec 64} {u s k : Nat} (h : ¬ (s.testBit k = true ∧ (rows.getD k 0).getLsbD u = true)) : wF rows most u s k = wF rows most u s (k + 1) := by
  funext s'
  unfold wF; rw [wP, if_neg h]
theorem way_at {rows : List (BitVec 64)} {most : BitVec 64} {u s k : Nat} (hs : s < 2 ^ rows.length) : (wayL rows.length (wF rows most u s k)).getD s 0 = Z7 most (wP rows u s k) := by
  rw [wayL_get hs]; unfold wF; rw [if_neg (by omega), if_pos rfl]
theorem way_less {rows : List (BitVec 64)} {most : BitVec 64} {u s k i : Nat} (hs : s < 2 ^ rows.length) (h : s.testBit i = true) : (wayL rows.length (wF rows most u s k)).getD (less s i) 0 = Z7 most (wS rows u (less s i)) := by
  have hl := less_lt h
  rw [wayL_get (by omega)]; unfold wF; rw [if_neg (by omega), if_neg (by omega)]
def coV (rows : List (BitVec 64)) (m : BitVec 64) : BitVec 64 := if rows.length ≤ 12 then Z7 m (cnT rows 0#64) else 0#64
theorem mCount_spec {x : SW} (H : Zf) (rows : List (BitVec 64)) (most : BitVec 64) (hl : rows.length ≤ 1000000) : F (psys x) 58 [fzW rows, iW most] H fun v G => v = iW (coV rows (Z7 most 65536)) ∧ G = H := by
  refine Zq Tryd.func58 rfl u77 rfl ?_
  refine Zd (Za ?_)
  refine Zr (env' := u77) rfl rfl (Zg (VVal.int .u64 0) (.inr rfl) rfl) rfl ?_
  refine Ze (Zc (Zd (Zd (Za ?_))))
  refine Zr (env' := u77) rfl rfl (Zb (.inl rfl) rfl) rfl ?_
  refine Zp rfl rfl rfl (by exact fits_spec _ _) ?_
  rintro _ _ ⟨rfl, rfl⟩
  refine L_env (env' := u77) rfl ?_
  refine Zr (env' := u77) rfl rfl (rfl) rfl ?_
  refine Ze (Zc ?_)
  refine Zk _ rfl (fun hc1 => ?_) (fun hc1 => ?_)
  · try simp only [decide_eq_true_eq, decide_eq_false_iff_not, Bool.not_eq_true', Bool.not_eq_false', bne_iff_ne, beq_iff_eq, Bool.and_eq_true, Bool.or_eq_true, Bool.not_eq_true, ge_iff_le, gt_iff_lt, Int.not_le, Int.not_lt, beq_eq_false_iff_ne, bne_eq_false_iff_eq, ne_eq, Decidable.not_not, ZX, Yc, Ya] at hc1
    refine Zd (Za ?_)
    refine Zr (env' := u77) rfl rfl (Zg (VVal.int .u64 0) (.inr rfl) rfl) rfl ?_
    refine Ze (Zc (Zl (Zm ?_)))
    refine YA (.inr rfl) (Zh rfl rfl) XH11 XH14 ?_
    first
      | exact ⟨by rw [coV, if_neg (by omega)]; rfl, rfl⟩
      | (obtain rfl : u = 64 := by omega); exact ⟨by rw [coV, if_pos (by omega), show (wayL rows.length (wU rows (Z7 most 65536) 64)).getD ((2 ^ rows.length - 1 : Nat) : Int).toNat 0 = _ from wayL_get (by omega)]; unfold wU; rw [Int.toNat_natCast, wS_end], rfl⟩
  · try simp only [decide_eq_true_eq, decide_eq_false_iff_not, Bool.not_eq_true', Bool.not_eq_false', bne_iff_ne, beq_iff_eq, Bool.and_eq_true, Bool.or_eq_true, Bool.not_eq_true, ge_iff_le, gt_iff_lt, Int.not_le, Int.not_lt, beq_eq_false_iff_ne, bne_eq_false_iff_eq, ne_eq, Decidable.not_not, ZX, Yc, Ya] at hc1
    refine Zj (Zc (Zd (Za ?_)))
    have hm : (Z7 most 65536).toNat ≤ 65536 := by rw [Yv]; omega
    have hp := pow12 (i := rows.length) (by omega)
    have hp0 : 0 < 2 ^ rows.length := Nat.two_pow_pos _
    refine Zr (env' := u77) rfl rfl (Zb (.inl rfl) rfl) rfl ?_
    refine Zr (env' := u77) rfl rfl (v_val rfl ((congrArg (VVal.int .u64) (minW (a := most) (b := 65536#64))).trans rfl)) rfl ?_
    refine Zr (env' := u77) rfl rfl (Zb (.inr rfl) rfl) rfl ?_
    refine Ze (Zc (Zd (Za ?_)))
    refine Zr (env' := u77) rfl rfl (Zb (.inl rfl) rfl) rfl ?_
    refine Zr (env' := u77) rfl rfl (rfl) rfl ?_
    refine Zr (env' := u77) rfl rfl (v_shlI1 rfl rfl rfl (by omega)) rfl ?_
    refine Zr (env' := u77) rfl rfl (YF rfl rfl rfl rfl rfl (by decide) ⟨by omega, Int.le_refl _, by show ((2 ^ rows.length : Nat) : Int) * (8 : Nat) ≤ _; omega, by omega⟩) rfl ?_
    refine L_heap (H' := H ++ [.cells ((List.replicate (2 ^ rows.length) 0#64).map iW) true]) (by show _ ++ [VBlk.cells (ZG [VVal.int .u64 0] _) true] = _; rw [rep_w]; rfl) ?_
    refine Zr (env' := u77) rfl rfl (Zb (.inr rfl) rfl) rfl ?_
    refine Ze (Zc (Zd (Za ?_)))
    refine Zr (env' := u77) rfl rfl (Zb (.inl rfl) rfl) rfl ?_
    refine Zr (env' := u77) rfl rfl (Zb (.inl rfl) rfl) rfl ?_
    refine Zr (env' := u77) rfl rfl (v_val rfl ((congrArg (VVal.int .u64) (minW (a := 1#64) (b := (Z7 most 65536)))).trans (by rw [show Z7 1#64 (Z7 most 65536).toNat = Z7 (Z7 most 65536) 1 from by apply BitVec.eq_of_toNat_eq; rw [Yv, Yv (most := (Z7 most 65536)) (n := 1)]; exact Nat.min_comm _ _]))) rfl ?_
    refine Zr (env' := u77) rfl rfl (by first | exact v_idxF rfl rfl rfl rfl rfl rfl rfl (by show (0 : Int) ≤ 0 ∧ (0 : Int) < ((2 ^ rows.length : Nat) : Int); omega) | exact v_idx rfl rfl rfl rfl rfl rfl rfl (by show (0 : Int) ≤ 0 ∧ (0 : Int) < ((2 ^ rows.length : Nat) : Int); omega)) rfl ?_
    refine Zr (env' := u77) rfl rfl (Z0 rfl rfl rfl rfl rfl rfl rfl XH8 (by rw [List.length_map, List.length_replicate]; show 0 + 0 * 1 + 1 ≤ _; omega) (by exact (ZO rfl).trans (congrArg (fun c => H ++ [VBlk.cells c true]) ((splice_w (l := List.replicate (2 ^ rows.length) 0#64) (k := 0) (w := Z7 (Z7 most 65536) 1) (by rw [List.length_replicate]; omega)).trans (by rw [way_start]))))) rfl ?_
    refine Ze (Zc (Zd (Zd (Za ?_))))
    refine Zr (env' := u77) rfl rfl (Zg (VVal.int .i64 0) (.inl rfl) rfl) rfl ?_
    refine Ze (Zc (Zi ?_))
    refine Zt (false :: false :: true :: true :: true :: false :: true :: true :: true :: true :: true :: true :: true :: true :: true :: true :: true :: true :: true :: true :: true :: true :: true :: false :: true :: true :: true :: true :: true :: true :: true :: true :: true :: true :: true :: true :: true :: true :: true :: true :: true :: true :: true :: true :: true :: true :: true :: true :: true :: true :: true :: true :: true :: true :: true :: true :: true :: true :: true :: true :: true :: true :: true :: true :: true :: true :: true :: true :: true :: true :: true :: true :: true :: true :: true :: true :: true :: []) (env' := u77) rfl ?_
    refine Zy (fun (u : Nat) => 64 - u) (fun (u : Nat) => [(23, iI (u : Nat))]) (fun (u : Nat) G => (u ≤ 64) ∧ G = H ++ [.cells ((wayL rows.length (wU rows (Z7 most 65536) u)).map iW) true]) 0 rfl ?_ ?_
    · refine ⟨?_, rfl⟩
      exact Nat.zero_le _
    rintro u _ ⟨hu, rfl⟩
    refine ZM (env' := u77) rfl ?_
    refine Zd (Za ?_)
    refine Zr (env' := u77) rfl rfl (rfl) rfl ?_
    refine Ze (Zc (Zd ?_))
    refine Zk _ rfl (fun hc2 => ?_) (fun hc2 => ?_)
    · try simp only [decide_eq_true_eq, decide_eq_false_iff_not, Bool.not_eq_true', Bool.not_eq_false', bne_iff_ne, beq_iff_eq, Bool.and_eq_true, Bool.or_eq_true, Bool.not_eq_true, ge_iff_le, gt_iff_lt, Int.not_le, Int.not_lt, beq_eq_false_iff_ne, bne_eq_false_iff_eq, ne_eq, Decidable.not_not, ZX, Yc, Ya] at hc2
      refine Zj (Zc (Zd (Zi (Zd (Za ?_)))))
      refine Zr (env' := u77) rfl rfl (Zb (.inl rfl) rfl) rfl ?_
      refine Zr (env' := u77) rfl rfl (Zb (.inr rfl) rfl) rfl ?_
      refine Ze (Zc (Zd (Za ?_)))
      refine Zr (env' := u77) rfl rfl (Zb (.inl rfl) rfl) rfl ?_
      refine Zr (env' := u77) rfl rfl (rfl) rfl ?_
      refine Zr (env' := u77) rfl rfl (v_val (v_subI rfl rfl rfl (by show -9223372036854775808 ≤ ((2 ^ rows.length : Nat) : Int) - 1 ∧ ((2 ^ rows.length : Nat) : Int) - 1 < 9223372036854775808; omega)) (congrArg iI (show ((2 ^ rows.length : Nat) : Int) - 1 = ((2 ^ rows.length - 1 : Nat) : Int) by omega))) rfl ?_
      refine Zr (env' := u77) rfl rfl (Zb (.inr rfl) rfl) rfl ?_
      refine Ze (Zc (Zi ?_))
      refine Zt (false :: false :: true :: true :: true :: false :: false :: false :: true :: true :: true :: true :: true :: true :: true :: true :: true :: true :: true :: true :: true :: true :: true :: false :: true :: true :: true :: true :: true :: true :: true :: true :: true :: true :: true :: true :: true :: true :: true :: true :: true :: true :: true :: true :: true :: true :: true :: true :: true :: true :: true :: true :: true :: true :: true :: true :: true :: true :: true :: true :: true :: true :: true :: true :: true :: true :: true :: true :: true :: true :: true :: true :: true :: true :: true :: true :: true :: []) (env' := u77) rfl ?_
      refine Zy (fun (s : Nat) => s) (fun (s : Nat) => [(7, iI (s : Nat))]) (fun (s : Nat) G => (s < 2 ^ rows.length) ∧ G = H ++ [.cells ((wayL rows.length (wF rows (Z7 most 65536) u s 0)).map iW) true]) (2 ^ rows.length - 1) rfl ?_ ?_
      · refine ⟨?_, (by rw [way_top])⟩
        omega
      rintro s _ ⟨hs, rfl⟩
      refine ZM (env' := u77) rfl ?_
      refine Zd (Zd (Za ?_))
      refine Zr (env' := u77) rfl rfl (Zb (.inl rfl) rfl) rfl ?_
      refine Zr (env' := u77) rfl rfl (rfl) rfl ?_
      refine Ze (Zc ?_)
      refine Zk _ rfl (fun hc3 => ?_) (fun hc3 => ?_)
      · try simp only [decide_eq_true_eq, decide_eq_false_iff_not, Bool.not_eq_true', Bool.not_eq_false', bne_iff_ne, beq_iff_eq, Bool.and_eq_true, Bool.or_eq_true, Bool.not_eq_true, ge_iff_le, gt_iff_lt, Int.not_le, Int.not_lt, beq_eq_false_iff_ne, bne_eq_false_iff_eq, ne_eq, Decidable.not_not, ZX, Yc, Ya] at hc3
        refine Zj (Zc (Zd (Zi (Zd (Za ?_)))))
        refine Zr (env' := u77) rfl rfl (Zb (.inl rfl) rfl) rfl ?_
        refine Zr (env' := u77) rfl rfl (rfl) rfl ?_
        refine Zr (env' := u77) rfl rfl (Zg (VVal.int .i64 0) (.inl rfl) rfl) rfl ?_
        refine Ze (Zc (Zi ?_))
        refine Zt (false :: false :: true :: true :: true :: false :: false :: false :: true :: true :: true :: true :: true :: true :: true :: true :: true :: true :: true :: true :: true :: true :: true :: false :: true :: true :: true :: true :: true :: true :: true :: true :: true :: false :: false :: false :: true :: true :: true :: true :: true :: true :: true :: true :: true :: true :: true :: true :: true :: true :: true :: true :: true :: true :: true :: true :: true :: true :: true :: true :: true :: true :: true :: true :: true :: true :: true :: true :: true :: true :: true :: true :: true :: true :: true :: true :: true :: []) (env' := u77) rfl ?_
        refine Zy (fun (k : Nat) => rows.length - k) (fun (k : Nat) => [(35, iI (k : Nat))]) (fun (k : Nat) G => (k ≤ rows.length) ∧ G = H ++ [.cells ((wayL rows.length (wF rows (Z7 most 65536) u s k)).map iW) true]) 0 rfl ?_ ?_
        · refine ⟨?_, rfl⟩
          exact Nat.zero_le _
        rintro k _ ⟨hk, rfl⟩
        refine ZM (env' := u77) rfl ?_
        refine Zd (Za ?_)
        refine Zr (env' := u77) rfl rfl (rfl) rfl ?_
        refine Ze (Zc (Zd ?_))
        refine Zk _ rfl (fun hc4 => ?_) (fun hc4 => ?_)
        · try simp only [decide_eq_true_eq, decide_eq_false_iff_not, Bool.not_eq_true', Bool.not_eq_false', bne_iff_ne, beq_iff_eq, Bool.and_eq_true, Bool.or_eq_true, Bool.not_eq_true, ge_iff_le, gt_iff_lt, Int.not_le, Int.not_lt, beq_eq_false_iff_ne, bne_eq_false_iff_eq, ne_eq, Decidable.not_not, ZX, Yc, Ya] at hc4
          refine Zj (Zc (Zd (Zi (Zd (Za ?_)))))
          refine Zr (env' := u77) rfl rfl (Zb (.inl rfl) rfl) rfl ?_
          refine Zr (env' := u77) rfl rfl XH41 rfl ?_
          refine Zr (env' := u77) rfl rfl (by first | exact v_loadF rfl rfl rfl rfl (by first | exact fget (α := BitVec 64) 0 (by omega) | exact fget0 (α := BitVec 64) 0 (by omega) | rfl) | exact v_load rfl rfl rfl rfl XH8 (by first | exact fget (α := BitVec 64) 0 (by omega) | exact fget0 (α := BitVec 64) 0 (by omega) | rfl)) rfl ?_
          refine Zr (env' := u77) rfl rfl (Zb (.inr rfl) rfl) rfl ?_
          refine Zr (env' := u77) rfl rfl (Zb (.inr rfl) rfl) rfl ?_
          refine Ze (Zc (Zd (Za ?_)))
          refine Zr (env' := u77) rfl rfl (Zb (.inl rfl) rfl) rfl ?_
          refine Zr (env' := u77) rfl rfl (Zb (.inl rfl) rfl) rfl ?_
          refine Zr (env' := u77) rfl rfl (v_shrI rfl rfl rfl (by omega)) rfl ?_
          refine Zr (env' := u77) rfl rfl (rfl) rfl ?_
          refine Zr (env' := u77) rfl rfl (v_is (s.testBit k) rfl (tb_is (by omega))) rfl ?_
          refine Zr (env' := u77) rfl rfl (Zb (.inl rfl) rfl) rfl ?_
          refine ZE 45 (env1 := u77) (env2 := u77) rfl rfl rfl (fun hg5 => ?_) (fun hg5 => ?_)
          · try simp only [decide_eq_true_eq, decide_eq_false_iff_not, Bool.not_eq_true', Bool.not_eq_false', bne_iff_ne, beq_iff_eq, Bool.and_eq_true, Bool.or_eq_true, Bool.not_eq_true, ge_iff_le, gt_iff_lt, Int.not_le, Int.not_lt, beq_eq_false_iff_ne, bne_eq_false_iff_eq, ne_eq, Decidable.not_not, ZX, Yc, Ya] at hg5
            refine Zr (env' := u77) rfl rfl (Zb (.inl rfl) rfl) rfl ?_
            refine Zr (env' := u77) rfl rfl (Zb (.inl rfl) rfl) rfl ?_
            refine Zr (env' := u77) rfl rfl (v_shrW rfl rfl rfl XH2) rfl ?_
            refine Zr (env' := u77) rfl rfl (v_andW (b := 1#64) rfl rfl rfl) rfl ?_
            refine Zr (env' := u77) rfl rfl (rfl) rfl ?_
            refine Zr (env' := u77) rfl rfl (ZN rfl rfl rfl) rfl ?_
            refine Ze (Zc ?_)
            refine Zk _ rfl (fun hc6 => ?_) (fun hc6 => ?_)
            · try simp only [decide_eq_true_eq, decide_eq_false_iff_not, Bool.not_eq_true', Bool.not_eq_false', bne_iff_ne, beq_iff_eq, Bool.and_eq_true, Bool.or_eq_true, Bool.not_eq_true, ge_iff_le, gt_iff_lt, Int.not_le, Int.not_lt, beq_eq_false_iff_ne, bne_eq_false_iff_eq, ne_eq, Decidable.not_not, ZX, Yc, Ya] at hc6
              refine ZS [0, 1, 2, 3, 4, 5, 6, 7, 8, 9, 10, 11, 12, 13, 14, 15, 16, 17] #[0, 0, 0, 0, 12, 28, 0, 0, 0, 256, 896, 1984, 4032, 8188, 0, 32764, 65535, 131071] XH7 XH7 XH7 ?_
              refine Z6 (env' := u77) (c := .calm) rfl rfl rfl (Zb (.inl rfl) rfl) rfl rfl rfl ?_
              refine Z6 (env' := u77) (c := .calm) rfl rfl rfl (Zb (.inl rfl) rfl) rfl rfl rfl ?_
              refine Z6 (env' := u77) (c := .calm) rfl rfl rfl (Zb (.inl rfl) rfl) rfl rfl rfl ?_
              refine Z6 (env' := u77) (c := .calm) rfl rfl rfl (Zb (.inl rfl) rfl) rfl rfl rfl ?_
              refine Z6 (env' := u77) (c := .calm) rfl rfl rfl XH41 rfl rfl rfl ?_
              refine Z6 (env' := u77) (c := .look) rfl rfl rfl (by first | exact v_loadF rfl rfl rfl rfl (by exact fget0 (α := BitVec 64) (l := wayL rows.length (wF rows (Z7 most 65536) u s k)) (n := (s : Nat)) 0 (by rw [wayL_len]; omega)) | exact v_load rfl rfl rfl rfl XH8 (by exact fget0 (α := BitVec 64) (l := wayL rows.length (wF rows (Z7 most 65536) u s k)) (n := (s : Nat)) 0 (by rw [wayL_len]; omega))) rfl rfl rfl ?_
              refine Z6 (env' := u77) (c := .calm) rfl rfl rfl (Zb (.inl rfl) rfl) rfl rfl rfl ?_
              refine Z6 (env' := u77) (c := .calm) rfl rfl rfl (Zb (.inl rfl) rfl) rfl rfl rfl ?_
              refine Z6 (env' := u77) (c := .calm) rfl rfl rfl (Zb (.inl rfl) rfl) rfl rfl rfl ?_
              refine Z6 (env' := u77) (c := .calm) rfl rfl rfl (v_shlI1 rfl rfl rfl (by omega)) rfl rfl rfl ?_
              refine Z6 (env' := u77) (c := .calm) rfl rfl rfl (v_val rfl (congrArg (VVal.int .i64) (andNot_less (by omega) (by omega) (by assumption)))) rfl rfl rfl ?_
              refine Z6 (env' := u77) (c := .calm) rfl rfl rfl (by first | exact v_idxF rfl rfl rfl rfl rfl rfl rfl XH32 | exact v_idx rfl rfl rfl rfl rfl rfl rfl XH32) rfl rfl rfl ?_
              refine Z6 (env' := u77) (c := .look) rfl rfl rfl (by first | exact v_loadF rfl rfl rfl rfl XH30 | exact v_load rfl rfl rfl rfl XH8 XH30) rfl rfl rfl ?_
              refine Z6 (env' := u77) (c := .calm) rfl rfl rfl (v_addW rfl rfl rfl) rfl rfl rfl ?_
              refine Z6 (env' := u77) (c := .calm) rfl rfl rfl (Zb (.inl rfl) rfl) rfl rfl rfl ?_
              refine Z6 (env' := u77) (c := .calm) rfl rfl rfl (v_val rfl ((congrArg (VVal.int .u64) (by rw [show (wayL rows.length (wF rows (Z7 most 65536) u s k)).getD (s : Int).toNat 0 = Z7 (Z7 most 65536) (wP rows u s k) from way_at hs, show (wayL rows.length (wF rows (Z7 most 65536) u s k)).getD ((less s k : Nat) : Int).toNat 0 = Z7 (Z7 most 65536) (wS rows u (less s k)) from way_less hs (by assumption)]; exact sat_add hm) : _ = VVal.int .u64 ((Z7 (Z7 most 65536) (wP rows u s k + wS rows u (less s k))).toNat : Int)))) rfl rfl rfl ?_
              refine Z6 (env' := u77) (c := .calm) rfl rfl rfl XH41 rfl rfl rfl ?_
              refine Z6 (env' := u77) (c := .turn) rfl rfl rfl (Z0 rfl rfl rfl rfl rfl rfl rfl XH8 (by rw [List.length_map, wayL_len]; show 0 + s * 1 + 1 ≤ _; omega) (by exact (ZO rfl).trans (congrArg (fun c => H ++ [VBlk.cells c true]) ((splice_w (l := wayL rows.length (wF rows (Z7 most 65536) u s k)) (k := s) (w := Z7 (Z7 most 65536) (wP rows u s k + wS rows u (less s k))) (by rw [wayL_len]; exact hs)).trans (by rw [way_set hm hs (by assumption) (sh1.1 (by assumption))]))))) rfl rfl rfl ?_
              refine ZU [] XH7 (trivial) ?_
              refine Zs (Zc (Za ?_))
              refine Zr (env' := u77) rfl rfl (YX rfl rfl rfl XH2) rfl ?_
              refine Zr (env' := u77) rfl rfl (Zb (.inl rfl) rfl) rfl ?_
              refine Ze ?_
              refine Zu (false :: false :: true :: true :: true :: false :: false :: false :: true :: true :: true :: true :: true :: true :: true :: true :: true :: true :: true :: true :: true :: true :: true :: false :: true :: true :: true :: true :: true :: true :: true :: true :: true :: false :: false :: false :: true :: true :: true :: true :: true :: true :: true :: true :: true :: true :: true :: true :: true :: true :: true :: true :: true :: true :: true :: true :: true :: true :: true :: true :: true :: true :: true :: true :: true :: true :: true :: true :: true :: true :: true :: true :: true :: true :: true :: true :: true :: []) (env' := u77) rfl ⟨k + 1, ?_, rfl, ?_⟩
              · first | omega | (simp only []; omega)
              · first | exact ⟨by omega, rfl⟩ | exact ⟨by omega, by rw [way_same (fun e => absurd e.1 (Ys (by assumption)))]⟩ | exact ⟨by omega, by rw [way_same (fun e => absurd (sh1.2 e.2) (by assumption))]⟩
            · try simp only [decide_eq_true_eq, decide_eq_false_iff_not, Bool.not_eq_true', Bool.not_eq_false', bne_iff_ne, beq_iff_eq, Bool.and_eq_true, Bool.or_eq_true, Bool.not_eq_true, ge_iff_le, gt_iff_lt, Int.not_le, Int.not_lt, beq_eq_false_iff_ne, bne_eq_false_iff_eq, ne_eq, Decidable.not_not, ZX, Yc, Ya] at hc6
              refine Zj (Zs (Zc (Za ?_)))
              refine Zr (env' := u77) rfl rfl (YX rfl rfl rfl XH2) rfl ?_
              refine Zr (env' := u77) rfl rfl (Zb (.inl rfl) rfl) rfl ?_
              refine Ze ?_
              refine Zu (false :: false :: true :: true :: true :: false :: false :: false :: true :: true :: true :: true :: true :: true :: true :: true :: true :: true :: true :: true :: true :: true :: true :: false :: true :: true :: true :: true :: true :: true :: true :: true :: true :: false :: false :: false :: true :: true :: true :: true :: true :: true :: true :: true :: true :: true :: true :: true :: true :: true :: true :: true :: true :: true :: true :: true :: true :: true :: true :: true :: true :: true :: true :: true :: true :: true :: true :: true :: true :: true :: true :: true :: true :: true :: true :: true :: true :: []) (env' := u77) rfl ⟨k + 1, ?_, rfl, ?_⟩
              · first | omega | (simp only []; omega)
              · first | exact ⟨by omega, rfl⟩ | exact ⟨by omega, by rw [way_same (fun e => absurd e.1 (Ys (by assumption)))]⟩ | exact ⟨by omega, by rw [way_same (fun e => absurd (sh1.2 e.2) (by assumption))]⟩
          · try simp only [decide_eq_true_eq, decide_eq_false_iff_not, Bool.not_eq_true', Bool.not_eq_false', bne_iff_ne, beq_iff_eq, Bool.and_eq_true, Bool.or_eq_true, Bool.not_eq_true, ge_iff_le, gt_iff_lt, Int.not_le, Int.not_lt, beq_eq_false_iff_ne, bne_eq_false_iff_eq, ne_eq, Decidable.not_not, ZX, Yc, Ya] at hg5
            refine L_off (env' := u77) rfl rfl ?_
            refine L_off (env' := u77) rfl rfl ?_
            refine L_off (env' := u77) rfl rfl ?_
            refine L_off (env' := u77) rfl rfl ?_
            refine L_off (env' := u77) rfl rfl ?_
            refine Zr (env' := u77) rfl rfl (ZI (VVal.bool false) rfl rfl rfl) rfl ?_
            refine Ze (Zc ?_)
            refine Yi rfl rfl ?_
            refine Zj (Zs (Zc (Za ?_)))
            refine Zr (env' := u77) rfl rfl (YX rfl rfl rfl XH2) rfl ?_
            refine Zr (env' := u77) rfl rfl (Zb (.inl rfl) rfl) rfl ?_
            refine Ze ?_
            refine Zu (false :: false :: true :: true :: true :: false :: false :: false :: true :: true :: true :: true :: true :: true :: true :: true :: true :: true :: true :: true :: true :: true :: true :: false :: true :: true :: true :: true :: true :: true :: true :: true :: true :: false :: false :: false :: true :: true :: true :: true :: true :: true :: true :: true :: true :: true :: true :: true :: true :: true :: true :: true :: true :: true :: true :: true :: true :: true :: true :: true :: true :: true :: true :: true :: true :: true :: true :: true :: true :: true :: true :: true :: true :: true :: true :: true :: true :: []) (env' := u77) rfl ⟨k + 1, ?_, rfl, ?_⟩
            · first | omega | (simp only []; omega)
            · first | exact ⟨by omega, rfl⟩ | exact ⟨by omega, by rw [way_same (fun e => absurd e.1 (Ys (by assumption)))]⟩ | exact ⟨by omega, by rw [way_same (fun e => absurd (sh1.2 e.2) (by assumption))]⟩
        · try simp only [decide_eq_true_eq, decide_eq_false_iff_not, Bool.not_eq_true', Bool.not_eq_false', bne_iff_ne, beq_iff_eq, Bool.and_eq_true, Bool.or_eq_true, Bool.not_eq_true, ge_iff_le, gt_iff_lt, Int.not_le, Int.not_lt, beq_eq_false_iff_ne, bne_eq_false_iff_eq, ne_eq, Decidable.not_not, ZX, Yc, Ya] at hc4
          refine ZB (ZD (Zv (ZA (Zs (Zc (Za ?_))))))
          refine Zr (env' := u77) rfl rfl (Zb (.inl rfl) rfl) rfl ?_
          refine Zr (env' := u77) rfl rfl (v_subI rfl rfl rfl XH2) rfl ?_
          refine Zr (env' := u77) rfl rfl (Zb (.inr rfl) rfl) rfl ?_
          refine Ze ?_
          obtain rfl : k = rows.length := by omega
          rw [show (s : Int) - 1 = ((s - 1 : Nat) : Int) by omega]
          refine Zu (false :: false :: true :: true :: true :: false :: false :: false :: true :: true :: true :: true :: true :: true :: true :: true :: true :: true :: true :: true :: true :: true :: true :: false :: true :: true :: true :: true :: true :: true :: true :: true :: true :: true :: true :: true :: true :: true :: true :: true :: true :: true :: true :: true :: true :: true :: true :: true :: true :: true :: true :: true :: true :: true :: true :: true :: true :: true :: true :: true :: true :: true :: true :: true :: true :: true :: true :: true :: true :: true :: true :: true :: true :: true :: true :: true :: true :: []) (env' := u77) rfl ⟨(s - 1), ?_, rfl, ?_⟩
          · first | omega | (simp only []; omega)
          · exact ⟨by omega, by rw [way_down (by omega) (by omega)]⟩
      · try simp only [decide_eq_true_eq, decide_eq_false_iff_not, Bool.not_eq_true', Bool.not_eq_false', bne_iff_ne, beq_iff_eq, Bool.and_eq_true, Bool.or_eq_true, Bool.not_eq_true, ge_iff_le, gt_iff_lt, Int.not_le, Int.not_lt, beq_eq_false_iff_ne, bne_eq_false_iff_eq, ne_eq, Decidable.not_not, ZX, Yc, Ya] at hc3
        refine ZB (ZD (Zv (ZA (Zs (Zc (Za ?_))))))
        refine Zr (env' := u77) rfl rfl (YX rfl rfl rfl XH2) rfl ?_
        refine Zr (env' := u77) rfl rfl (Zb (.inl rfl) rfl) rfl ?_
        refine Ze ?_
        refine Zu (false :: false :: true :: true :: true :: false :: true :: true :: true :: true :: true :: true :: true :: true :: true :: true :: true :: true :: true :: true :: true :: true :: true :: false :: true :: true :: true :: true :: true :: true :: true :: true :: true :: true :: true :: true :: true :: true :: true :: true :: true :: true :: true :: true :: true :: true :: true :: true :: true :: true :: true :: true :: true :: true :: true :: true :: true :: true :: true :: true :: true :: true :: true :: true :: true :: true :: true :: true :: true :: true :: true :: true :: true :: true :: true :: true :: true :: []) (env' := u77) rfl ⟨u + 1, ?_, rfl, ?_⟩
        · first | omega | (simp only []; omega)
        · exact ⟨by omega, by rw [← way_end, show s = 0 by omega]⟩
    · try simp only [decide_eq_true_eq, decide_eq_false_iff_not, Bool.not_eq_true', Bool.not_eq_false', bne_iff_ne, beq_iff_eq, Bool.and_eq_true, Bool.or_eq_true, Bool.not_eq_true, ge_iff_le, gt_iff_lt, Int.not_le, Int.not_lt, beq_eq_false_iff_ne, bne_eq_false_iff_eq, ne_eq, Decidable.not_not, ZX, Yc, Ya] at hc2
      refine ZB (ZD (Zv (ZA (Zc (Zd (Za ?_))))))
      refine Zr (env' := u77) rfl rfl (Zb (.inl rfl) rfl) rfl ?_
      refine Zr (env' := u77) rfl rfl (Zb (.inl rfl) rfl) rfl ?_
      refine Zr (env' := u77) rfl rfl (rfl) rfl ?_
      refine Zr (env' := u77) rfl rfl (v_val (v_subI rfl rfl rfl (by show -9223372036854775808 ≤ ((2 ^ rows.length : Nat) : Int) - 1 ∧ ((2 ^ rows.length : Nat) : Int) - 1 < 9223372036854775808; omega)) (congrArg iI (show ((2 ^ rows.length : Nat) : Int) - 1 = ((2 ^ rows.length - 1 : Nat) : Int) by omega))) rfl ?_
      refine Zr (env' := u77) rfl rfl XH41 rfl ?_
      refine Zr (env' := u77) rfl rfl (by first | exact v_loadF rfl rfl rfl rfl XH33 | exact v_load rfl rfl rfl rfl XH8 XH33) rfl ?_
      refine Zr (env' := u77) rfl rfl (Zb (.inr rfl) rfl) rfl ?_
      refine Ze (Zc (Zl ?_))
      refine YA (.inr rfl) (Zh rfl rfl) XH11 XH14 ?_
      first
        | exact ⟨by rw [coV, if_neg (by omega)]; rfl, rfl⟩
        | (obtain rfl : u = 64 := by omega); exact ⟨by rw [coV, if_pos (by omega), show (wayL rows.length (wU rows (Z7 most 65536) 64)).getD ((2 ^ rows.length - 1 : Nat) : Int).toNat 0 = _ from wayL_get (by omega)]; unfold wU; rw [Int.toNat_natCast, wS_end], rfl⟩
end MM
open Go Go.V Go.RowKit
abbrev u69 {a0 a1 a2 a3 a4 a5 a6 a7 a8 a9 a10 a11 a12 a13 a14 a15 a16 a17 a18 a19 a20 a21 a22 a23 a24 a25 a26 a27 a28 a29 a30 a31 a32 a33 a34 a35 a36 a37 a38 a39 a40 a41 a42 a43 a44 a45 a46 a47 a48 a49 a50 a51 a52 a53 a54 a55 a56 a57 a58 a59 a60 a61 a62 a63 a64 a65 a66 a67 a68 : VVal} : VEnv := a0 :: a1 :: a2 :: a3 :: a4 :: a5 :: a6 :: a7 :: a8 :: a9 :: a10 :: a11 :: a12 :: a13 :: a14 :: a15 :: a16 :: a17 :: a18 :: a19 :: a20 :: a21 :: a22 :: a23 :: a24 :: a25 :: a26 :: a27 :: a28 :: a29 :: a30 :: a31 :: a32 :: a33 :: a34 :: a35 :: a36 :: a37 :: a38 :: a39 :: a40 :: a41 :: a42 :: a43 :: a44 :: a45 :: a46 :: a47 :: a48 :: a49 :: a50 :: a51 :: a52 :: a53 :: a54 :: a55 :: a56 :: a57 :: a58 :: a59 :: a60 :: a61 :: a62 :: a63 :: a64 :: a65 :: a66 :: a67 :: a68 :: []
theorem W5z {T : TypeId → Option VTy} {H : Zf} {op : Op} {ρ : Operand → VVal} {t : TypeId} {a : Operand} {y : VTy} {p v : VVal} (ho : op = .load t a) (ha : ρ a = p) (hy : T t = some y) (hd : Zo y.desc = false) (h : LdOk H p v := by first | exact .inl ⟨_, _, rfl, by first | exact fget (α := BitVec 64) 0 (by omega) | exact fget0 (α := Int) 0 (by omega) | rfl⟩ | exact .inr ⟨_, _, _, _, rfl, by first | exact tr_q hqH | exact tr_p hpH hpq, by first | exact fget (α := BitVec 64) 0 (by omega) | exact fget0 (α := Int) 0 (by omega) | rfl⟩) : vop T ρ H op = some (v, H) := v_ld ho ha hy hd h
theorem W61 {T : TypeId → Option VTy} {H : Zf} {op : Op} {ρ : VEnv} {H' : Zf} {t : TypeId} {a : Operand} {i : Nat} {v : VVal} {y : VTy} {b off : Nat} {cs new : List VVal} (ho : op = .store t a (.tmp i)) (hv : ρ[i]? = some v) (ha : ρ.eval a = .ptr (some (b, off))) (hy : T t = some y) (hx : v.cells = some new) (hn : new.length = y.size) (h1 : new.all VVal.one = true) (hb : H[b]? = some (.cells cs true) := by first | exact tr_q hqH | exact tr_p hpH hpq) (hl : off + new.length ≤ cs.length := by exact XH46) (hH : H.set b (.cells (ZH cs off new) true) = H' := by exact tr_setq hqH) : vop T ρ.eval H op = some (.skip, H') := Z0 ho hv ha hy hx hn h1 hb hl hH
theorem W62 {T : TypeId → Option VTy} {H : Zf} {op : Op} {ρ : Operand → VVal} {t : TypeId} {a : Operand} {y : VTy} {p v : VVal} (ho : op = .load t a) (ha : ρ a = p) (hy : T t = some y) (hd : Zo y.desc = false) (h : LdOk H p v := by first | exact .inl ⟨_, _, rfl, by exact fget0 (α := Int) (l := s1.1) 0 (by omega)⟩ | exact .inr ⟨_, _, _, _, rfl, by first | exact tr_q hqH | exact tr_p hpH hpq, by exact fget0 (α := Int) (l := s1.1) 0 (by omega)⟩) : vop T ρ H op = some (v, H) := v_ld ho ha hy hd h
theorem W63 {T : TypeId → Option VTy} {H : Zf} {op : Op} {ρ : VEnv} {H' : Zf} {t : TypeId} {a : Operand} {i : Nat} {v : VVal} {y : VTy} {b off : Nat} {cs new : List VVal} (ho : op = .store t a (.tmp i)) (hv : ρ[i]? = some v) (ha : ρ.eval a = .ptr (some (b, off))) (hy : T t = some y) (hx : v.cells = some new) (hn : new.length = y.size) (h1 : new.all VVal.one = true) (hb : H[b]? = some (.cells cs true) := by first | exact tr_q hqH | exact tr_p hpH hpq) (hl : off + new.length ≤ cs.length := by first | exact has_len (s := (s1.1, 0#64)) (show i < s1.1.length by omega) | exact has_len (s := (trn rows n k (s1.1, s1.2 ||| 1#64 <<< u)).2) (by rw [trn_len]; show i < s1.1.length; omega)) (hH : H.set b (.cells (ZH cs off new) true) = H' := by first | exact tr_setp hpH hpq (show i < s1.1.length by omega) | exact tr_setp hpH hpq (by rw [trn_len]; show i < s1.1.length; omega)) : vop T ρ.eval H op = some (.skip, H') := Z0 ho hv ha hy hx hn h1 hb hl hH
theorem W64 {S : V.Sys} {H : Zf} {fn : Func} {ex : Exit} {env : VEnv} {B L : Zf} {v : VVal} {R : VVal → Zf → Prop} (hx : ex = .normal ∨ ex = .ret) (hv : ZV S.C.T env (B ++ L) fn.results = some v) (h : R v B) (hB : BaseOk H B := by exact tr_base) (hu : v.under H.length = true := by first | rfl | simp [VVal.under, VVal.underL, *]) : fnK S fn H R ex env (B ++ L) := YA hx hv hB hu h
theorem W65 {P : Prop} (h : P := by first | (obtain rfl : u = 64 := by omega); exact ⟨by rw [hg]; rfl, by rw [hg]; rfl⟩ | exact ⟨by rw [hg, hf, if_pos (by omega)], by rw [hg, hf, if_pos (by omega)]; rfl⟩ | exact ⟨by rw [hg, hf, if_neg (by omega), if_pos (by assumption)], by rw [hg, hf, if_neg (by omega), if_pos (by assumption)]; rfl⟩) : P := h
abbrev haB (has : List Int) : VBlk := .cells (has.map iI) true
def trH (H : Zf) (p q : Nat) (s : HSt) : Zf := (H.set p (haB s.1)).set q (seB s.2)
section
variable {H L : Zf} {p q : Nat} {s : HSt}
theorem trH_len {n : Nat} (h : H.length = n) : (trH H p q s).length = n := by unfold trH; rw [List.length_set, List.length_set]; exact h
theorem trH_id {has : List Int} {w : BitVec 64} (hp : H[p]? = some (haB has)) (hq : H[q]? = some (seB w)) : trH H p q (has, w) = H := by
  unfold trH; rw [← YK hp, ← YK hq]
theorem tr_q (hq : q < H.length) : (trH H p q s ++ L)[q]? = some (seB s.2) := by
  unfold trH; exact Zw (List.getElem?_set_self (by rw [List.length_set]; exact hq))
theorem tr_p (hp : p < H.length) (hpq : p ≠ q) : (trH H p q s ++ L)[p]? = some (haB s.1) := by
  unfold trH; exact Zw (by rw [List.getElem?_set_ne (Ne.symm hpq)]; exact List.getElem?_set_self hp)
theorem tr_setq {w : BitVec 64} (hq : q < H.length) : (trH H p q s ++ L).set q (seB w) = trH H p q (s.1, w) ++ L := by
  rw [Yx (by rw [trH_len rfl]; exact hq)]; unfold trH; rw [List.set_set]
theorem tr_setp0 {k : VBlk} (hp : p < H.length) (hpq : p ≠ q) : (trH H p q s ++ L).set p k = (H.set p k).set q (seB s.2) ++ L := by
  rw [Yx (by rw [trH_len rfl]; exact hp)]; unfold trH
  rw [List.set_comm _ _ (Ne.symm hpq), List.set_set]
theorem splice_i {l : List Int} {k : Nat} {r : Int} (h : k < l.length) : ZH (l.map iI) (0 + k * 1) [iI r] = (l.set k r).map iI := by
  rw [show 0 + k * 1 = k by omega]
  unfold ZH
  rw [List.map_set, List.set_eq_take_append_cons_drop, if_pos (by rw [List.length_map]; exact h)]; simp
theorem tr_setp {i : Nat} {r : Int} (hp : p < H.length) (hpq : p ≠ q) (hi : i < s.1.length) : (trH H p q s ++ L).set p (.cells (ZH (s.1.map iI) (0 + i * 1) [iI r]) true) = trH H p q (s.1.set i r, s.2) ++ L := by
  rw [splice_i hi, tr_setp0 hp hpq]; rfl
theorem tr_tr {t : HSt} (hp : p < H.length) (hq : q < H.length) (hpq : p ≠ q) : trH (trH H p q s ++ L) p q t = trH H p q t ++ L := by
  have : trH (trH H p q s ++ L) p q t = ((trH H p q s ++ L).set p (haB t.1)).set q (seB t.2) := rfl
  rw [this, tr_setp0 hp hpq, Yx (by simp; exact hq), List.set_set]; rfl
theorem tr_base : BaseOk H (trH H p q s) := BaseOk.set (BaseOk.set (BaseOk.refl _) _ (by show VVal.underL _ (s.1.map iI) = true; exact Y3 _ _)) _ rfl
theorem has_len {i : Nat} {v : VVal} (h : i < s.1.length) : 0 + i * 1 + [v].length ≤ (s.1.map iI).length := by
  show 0 + i * 1 + 1 ≤ (s.1.map iI).length
  rw [List.length_map]; omega
end
theorem trn_len {rows : List (BitVec 64)} : ∀ {n i : Nat} {s : HSt}, (trn rows n i s).2.1.length = s.1.length := by
  have hL : ∀ (g : Nat → HSt → Bool × HSt), (∀ k s, (g k s).2.1.length = s.1.length) → ∀ (i : Nat) (l : List Nat) (s : HSt), (trL g rows i l s).2.1.length = s.1.length := by
    intro g hg i l
    induction l with
    | nil => intro s; rfl
    | cons u l ih =>
      intro s
      rw [trL]
      split
      · exact ih s
      · split
        · simp
        · split
          · simp [hg]
          · rw [ih, hg]
  intro n
  induction n with
  | zero => intro i s; rfl
  | succ n ih => intro i s; rw [trn]; exact hL _ (fun k s => ih) i _ s
theorem trn_sub {rows : List (BitVec 64)} : ∀ {n i : Nat} {s : HSt}, subW s.2 (trn rows n i s).2.2 := by
  have hL : ∀ (g : Nat → HSt → Bool × HSt), (∀ k s, subW s.2 (g k s).2.2) → ∀ (i : Nat) (l : List Nat) (s : HSt), (∀ u, u ∈ l → u < 64) → subW s.2 (trL g rows i l s).2.2 := by
    intro g hg i l
    induction l with
    | nil => intro s _ _ h; exact h
    | cons u l ih =>
      intro s hl
      have hu := hl u (List.mem_cons_self ..)
      have hl' : ∀ v, v ∈ l → v < 64 := fun v hv => hl v (List.mem_cons_of_mem _ hv)
      have h1 : subW s.2 (s.2 ||| 1#64 <<< u) := fun a ha => (or1 hu).2 (.inl ha)
      have h2 := hg (fndK s.1 u) (s.1, s.2 ||| 1#64 <<< u)
      rw [trL]
      split
      · exact ih s hl'
      · split
        · exact h1
        · split
          · exact fun a ha => h2 a (h1 a ha)
          · exact fun a ha => ih _ hl' a (h2 a (h1 a ha))
  intro n
  induction n with
  | zero => intro i s _ h; exact h
  | succ n ih => intro i s; rw [trn]; exact hL _ (fun k s => ih) i _ s fun u hu => List.mem_range.1 hu
theorem sh_not0 {d : BitVec 64} {k : Nat} (h : ¬ d >>> k &&& 1#64 = 0#64) : d.getLsbD k = true := by rw [sh0] at h; simpa using h
theorem YW {g : Nat → HSt → Bool × HSt} {rows : List (BitVec 64)} {i u : Nat} {s : HSt} (hu : u < 64) : trL g rows i ((List.range 64).drop u) s = if (rows.getD i 0).getLsbD u = false ∨ s.2.getLsbD u = true then trL g rows i ((List.range 64).drop (u + 1)) s
    else if fndK s.1 u = s.1.length then (true, (s.1.set i (u : Int), s.2 ||| 1#64 <<< u))
    else if (g (fndK s.1 u) (s.1, s.2 ||| 1#64 <<< u)).1 = true then (true, ((g (fndK s.1 u) (s.1, s.2 ||| 1#64 <<< u)).2.1.set i (u : Int), (g (fndK s.1 u) (s.1, s.2 ||| 1#64 <<< u)).2.2))
    else trL g rows i ((List.range 64).drop (u + 1)) (g (fndK s.1 u) (s.1, s.2 ||| 1#64 <<< u)).2 := by
  rw [List.drop_eq_getElem_cons (by simpa using hu), trL]; simp only [List.getElem_range]
theorem turn_in {x : SW} {p q n : Nat} {ex : Bool} {rows : List (BitVec 64)} (hpq : p ≠ q) (ih : ∀ (H : Zf) (i : Nat) (has : List Int) (S : BitVec 64), H[p]? = some (haB has) → H[q]? = some (seB S) → i < rows.length → has.length = rows.length → 64 - Yz 64 S < n → F (psys x) 156 [fzW rows, .slice (some (p, 0)) rows.length rows.length ex 1, .ptr (some (q, 0)), iI (i : Nat)] H fun v G => v = .bool (trn rows n i (has, S)).1 ∧ G = trH H p q (trn rows n i (has, S)).2) (H L : Zf) (s : HSt) (hp : p < H.length) (hq : q < H.length) (i : Nat) (hi : i < rows.length) (hk : s.1.length = rows.length) (hm : 64 - Yz 64 s.2 < n) :
    F (psys x) 156 [fzW rows, .slice (some (p, 0)) rows.length rows.length ex 1, .ptr (some (q, 0)), iI (i : Nat)] (trH H p q s ++ L) fun v G => v = .bool (trn rows n i s).1 ∧ G = trH H p q (trn rows n i s).2 ++ L := by
  have := ih (trH H p q s ++ L) i s.1 s.2 (tr_p hp hpq) (tr_q hq) hi hk hm
  rw [tr_tr hp hq hpq] at this
  exact this
theorem turn_s {x : SW} (p q n : Nat) (ex : Bool) (rows : List (BitVec 64)) (hpq : p ≠ q) (h62 : rows.length ≤ 1000000) (ih : ∀ (H : Zf) (i : Nat) (has : List Int) (S : BitVec 64), H[p]? = some (haB has) → H[q]? = some (seB S) → i < rows.length → has.length = rows.length → 64 - Yz 64 S < n → F (psys x) 156 [fzW rows, .slice (some (p, 0)) rows.length rows.length ex 1, .ptr (some (q, 0)), iI (i : Nat)] H fun v G => v = .bool (trn rows n i (has, S)).1 ∧ G = trH H p q (trn rows n i (has, S)).2) (H : Zf) (i : Nat) (has : List Int) (S : BitVec 64) (hp : H[p]? = some (haB has)) (hq : H[q]? = some (seB S)) (hi : i < rows.length) (hhl : has.length = rows.length) (hm : 64 - Yz 64 S < n + 1) : F (psys x) 156 [fzW rows, .slice (some (p, 0)) rows.length rows.length ex 1, .ptr (some (q, 0)), iI (i : Nat)] H fun v G => v = .bool (trn rows (n + 1) i (has, S)).1 ∧ G = trH H p q (trn rows (n + 1) i (has, S)).2 := by
 have hpH := ZY hp
 have hqH := ZY hq
 refine Zq Tryd.func156 rfl u69 rfl ?_
 refine Zd (Za ?_)
 refine Lo u69 (Zg (VVal.bool false) (.inr rfl) rfl) ?_
 refine Ze (Zc (Zd (Zd (Za ?_))))
 refine Lo u69 (Zg (VVal.int .i64 0) (.inr rfl) rfl) ?_
 refine Ze (Zc (Zi ?_))
 refine Zt (mk 69 590295810358705651184) (env' := u69) rfl ?_
 refine Zy (fun (⟨u, s1⟩ : Nat × HSt) => 64 - u) (fun (⟨u, s1⟩ : Nat × HSt) => [(9, iI (u : Nat))]) (fun (⟨u, s1⟩ : Nat × HSt) G => (u ≤ 64 ∧ s1.1.length = rows.length ∧ 64 - Yz 64 s1.2 ≤ n ∧ trn rows (n + 1) i (has, S) = trL (trn rows n) rows i ((List.range 64).drop u) s1) ∧ G = trH H p q s1 ++ []) ⟨0, (has, S)⟩ rfl ?_ ?_
 ·refine ⟨?_, (by rw [trH_id hp hq])⟩
  exact ⟨Nat.zero_le _, hhl, by show 64 - Yz 64 S ≤ n; omega, rfl⟩
 rintro ⟨u, s1⟩ _ ⟨⟨hu, hl1, hcm, hg⟩, rfl⟩
 refine ZM (env' := u69) rfl ?_
 have hil : i < s1.1.length := by omega
 refine Zd (Zd (Za ?_))
 refine Lo u69 (Zb (.inl rfl) rfl) ?_
 refine Lo u69 (rfl) ?_
 refine Ze (Zc ?_)
 refine Zk _ rfl (fun hc1 => ?_) (fun hc1 => ?_)
 ·try simp only [qB] at hc1
  refine Zj (Zc (Zd (Zi (Zd (Zd (Za ?_))))))
  refine Lo u69 (Zb (.inl rfl) rfl) ?_
  refine Lo u69 (Zb (.inl rfl) rfl) ?_
  refine Lo u69 (W18 rfl rfl rfl rfl rfl rfl rfl) ?_
  refine Lo u69 (W5z rfl rfl rfl rfl) ?_
  refine Lo u69 (Zb (.inl rfl) rfl) ?_
  refine Lo u69 (v_shrW rfl rfl rfl XH2) ?_
  refine Lo u69 (v_andW (b := 1#64) rfl rfl rfl) ?_
  refine Lo u69 (rfl) ?_
  refine Lo u69 (Zb (.inl rfl) rfl) ?_
  refine ZE 23 (env1 := u69) (env2 := u69) rfl rfl rfl (fun hg2 => ?_) (fun hg2 => ?_)
  ·try simp only [qB] at hg2
   refine Lf u69 ?_
   refine Lf u69 ?_
   refine Lf u69 ?_
   refine Lf u69 ?_
   refine Lf u69 ?_
   refine Lf u69 ?_
   refine Lf u69 ?_
   refine Lo u69 (ZK (VVal.bool true) rfl rfl rfl) ?_
   refine Ze (Zc ?_)
   refine ZP rfl rfl ?_
   refine ZB (ZD (ZA (Zc (Za ?_))))
   refine Lo u69 (Zb (.inl rfl) rfl) ?_
   refine Lo u69 (W14 rfl rfl rfl) ?_
   refine Lo u69 (Zb (.inr rfl) rfl) ?_
   refine Ze ?_
   refine Zu (mk 69 590295810358705651184) (env' := u69) rfl ⟨⟨u + 1, s1⟩, ?_, rfl, ?_⟩
   ·first | omega | (simp only []; omega)
   ·first | exact ⟨⟨by omega, hl1, hcm, by rw [hg, YW (by omega), if_pos (.inl (sh0.1 (by assumption)))]⟩, rfl⟩ | exact ⟨⟨by omega, hl1, hcm, by rw [hg, YW (by omega), if_pos (.inr (sh1.1 (by assumption)))]⟩, rfl⟩ | exact ⟨⟨by omega, trn_len.trans hl1, XH15, by rw [hg, hf, if_neg (by omega), if_neg (Ys (by assumption))]⟩, rfl⟩
  ·try simp only [qB] at hg2
   refine Lo u69 (Zb (.inl rfl) rfl) ?_
   refine Lo u69 (rfl) ?_
   refine Lo u69 (W5z rfl rfl rfl rfl) ?_
   refine Lo u69 (Zb (.inl rfl) rfl) ?_
   refine Lo u69 (v_shrW rfl rfl rfl XH2) ?_
   refine Lo u69 (v_andW (b := 1#64) rfl rfl rfl) ?_
   refine Lo u69 (rfl) ?_
   refine Lo u69 (ZT rfl rfl rfl) ?_
   refine Ze (Zc ?_)
   refine Zk _ rfl (fun hc3 => ?_) (fun hc3 => ?_)
   ·try simp only [qB] at hc3
    refine ZB (ZD (ZA (Zc (Za ?_))))
    refine Lo u69 (Zb (.inl rfl) rfl) ?_
    refine Lo u69 (W14 rfl rfl rfl) ?_
    refine Lo u69 (Zb (.inr rfl) rfl) ?_
    refine Ze ?_
    refine Zu (mk 69 590295810358705651184) (env' := u69) rfl ⟨⟨u + 1, s1⟩, ?_, rfl, ?_⟩
    ·first | omega | (simp only []; omega)
    ·first | exact ⟨⟨by omega, hl1, hcm, by rw [hg, YW (by omega), if_pos (.inl (sh0.1 (by assumption)))]⟩, rfl⟩ | exact ⟨⟨by omega, hl1, hcm, by rw [hg, YW (by omega), if_pos (.inr (sh1.1 (by assumption)))]⟩, rfl⟩ | exact ⟨⟨by omega, trn_len.trans hl1, XH15, by rw [hg, hf, if_neg (by omega), if_neg (Ys (by assumption))]⟩, rfl⟩
   ·try simp only [qB] at hc3
    refine Zj (Zc (Zd ?_))
    have hu64 : u < 64 := by omega
    have hbit : (rows.getD i 0).getLsbD u = true := sh_not0 (by assumption)
    have hseen : s1.2.getLsbD u = false := sh1n.1 (by assumption)
    have hcond : ¬ ((rows.getD i 0).getLsbD u = false ∨ s1.2.getLsbD u = true) := fun e => e.elim (fun h => by rw [hbit] at h; cases h) (fun h => by rw [hseen] at h; cases h)
    have hcg := come_grow (s := s1.2) (t := s1.2 ||| 1#64 <<< u) (fun a ha => (or1 hu64).2 (.inl ha)) ⟨u, (or1 hu64).2 (.inr rfl), hseen⟩
    have hcl := come_le (s1.2 ||| 1#64 <<< u)
    rw [YW hu64, if_neg hcond] at hg
    refine ZS [0, 1, 2, 3, 4, 5, 6, 7, 8] #[0, 0, 2, 6, 0, 16, 62, 127, 255] XH7 XH7 XH7 ?_
    refine Oo u69 .calm rfl (Zb (.inl rfl) rfl) ?_
    refine Oo u69 .calm rfl (Zb (.inl rfl) rfl) ?_
    refine Oo u69 .calm rfl (rfl) ?_
    refine Oo u69 .look rfl (W5z rfl rfl rfl rfl) ?_
    refine Oo u69 .calm rfl (Zb (.inl rfl) rfl) ?_
    refine Oo u69 .calm rfl (v_shl1 rfl rfl rfl XH2) ?_
    refine Oo u69 .calm rfl (v_orW rfl rfl rfl) ?_
    refine Oo u69 .calm rfl (rfl) ?_
    refine Oo u69 .turn rfl (W61 rfl rfl rfl rfl rfl rfl rfl) ?_
    refine ZU [] XH7 (trivial) ?_
    refine Zc (Zd (Za ?_))
    refine Lo u69 (Zg (VVal.int .i64 0) (.inr rfl) rfl) ?_
    refine Ze (Zc (Zd (Zi ?_)))
    refine Zt (mk 69 590295810358705650160) (env' := u69) rfl ?_
    refine Zy (fun (k : Nat) => rows.length - k) (fun (k : Nat) => [(10, iI (k : Nat))]) (fun (k : Nat) G => (k ≤ rows.length ∧ ∀ j, j < k → s1.1.getD j 0 ≠ (u : Int)) ∧ G = trH H p q (s1.1, s1.2 ||| 1#64 <<< u) ++ []) 0 rfl ?_ ?_
    ·refine ⟨?_, rfl⟩
     exact ⟨Nat.zero_le _, fun j h => by omega⟩
    rintro k _ ⟨⟨hk, hno⟩, rfl⟩
    refine ZM (env' := u69) rfl ?_
    refine Zd (Zd (Za ?_))
    refine Lo u69 (Zb (.inl rfl) rfl) ?_
    refine Lo u69 (Zb (.inl rfl) rfl) ?_
    refine Lo u69 (rfl) ?_
    refine Lo u69 (rfl) ?_
    refine Lo u69 (Zb (.inl rfl) rfl) ?_
    refine ZE 44 (env1 := u69) (env2 := u69) rfl rfl rfl (fun hg4 => ?_) (fun hg4 => ?_)
    ·try simp only [qB] at hg4
     refine Lo u69 (Zb (.inl rfl) rfl) ?_
     refine Lo u69 (Zb (.inl rfl) rfl) ?_
     refine Lo u69 (W18 rfl rfl rfl rfl rfl rfl rfl) ?_
     refine Lo u69 (W62 rfl rfl rfl rfl) ?_
     refine Lo u69 (Zb (.inl rfl) rfl) ?_
     refine Lo u69 (rfl) ?_
     refine Lo u69 (ZN rfl rfl rfl) ?_
     refine Ze (Zc ?_)
     refine Zk _ rfl (fun hc5 => ?_) (fun hc5 => ?_)
     ·try simp only [qB] at hc5
      refine Zj (Zc (Zi (Za ?_)))
      refine Lo u69 (Zb (.inl rfl) rfl) ?_
      refine Lo u69 (W14 rfl rfl rfl) ?_
      refine Lo u69 (Zb (.inr rfl) rfl) ?_
      refine Ze (Zs ?_)
      refine Zu (mk 69 590295810358705650160) (env' := u69) rfl ⟨k + 1, ?_, rfl, ?_⟩
      ·first | omega | (simp only []; omega)
      ·exact ⟨⟨by omega, fun j hj => by by_cases e : j = k; (subst e; assumption); exact hno j (by omega)⟩, rfl⟩
     ·try simp only [qB] at hc5
      refine ZB (ZD (Zv (ZA (Zc (Zd ?_)))))
      have hf : fndK s1.1 u = k := fndK_is (by omega) hno (by first | exact .inr (by assumption) | exact .inl (by omega))
      refine Za ?_
      refine Lo u69 (Zb (.inl rfl) rfl) ?_
      refine Lo u69 (Zb (.inl rfl) rfl) ?_
      refine Lo u69 (rfl) ?_
      refine Lo u69 (rfl) ?_
      refine Lo u69 (Zb (.inl rfl) rfl) ?_
      refine ZE 58 (env1 := u69) (env2 := u69) rfl rfl rfl (fun hg6 => ?_) (fun hg6 => ?_)
      ·try simp only [qB] at hg6
       refine Lf u69 ?_
       refine Lf u69 ?_
       refine Lf u69 ?_
       refine Lf u69 ?_
       refine Lf u69 ?_
       refine Lo u69 (ZK (VVal.bool true) rfl rfl rfl) ?_
       refine Ze (Zc ?_)
       refine ZP rfl rfl ?_
       refine Zd (Za ?_)
       refine Lo u69 (Zb (.inl rfl) rfl) ?_
       refine Lo u69 (Zb (.inl rfl) rfl) ?_
       refine Lo u69 (Zb (.inl rfl) rfl) ?_
       refine Lo u69 (W18 rfl rfl rfl rfl rfl rfl rfl) ?_
       refine Lo u69 (W63 rfl rfl rfl rfl rfl rfl rfl) ?_
       refine Ze (Zc (Zd (Za ?_)))
       refine Lo u69 (Zg (VVal.bool true) (.inr rfl) rfl) ?_
       refine Ze (Zc (Zl (ZF (Zm (Yf (ZF (Zm ?_)))))))
       refine W64 (.inr rfl) (Zh rfl rfl) ?_
       exact W65
      ·try simp only [qB] at hg6
       refine Lo u69 (Zb (.inl rfl) rfl) ?_
       refine Lo u69 (Zb (.inl rfl) rfl) ?_
       refine Lo u69 (Zb (.inl rfl) rfl) ?_
       refine Lo u69 (Zb (.inl rfl) rfl) ?_
       refine Zp rfl rfl rfl XH38 ?_
       rintro _ _ ⟨rfl, rfl⟩
       refine Le u69 ?_
       refine Lo u69 (ZT rfl rfl rfl) ?_
       refine Ze (Zc ?_)
       refine Zk _ rfl (fun hc7 => ?_) (fun hc7 => ?_)
       ·try simp only [qB] at hc7
        refine Zd (Za ?_)
        refine Lo u69 (Zb (.inl rfl) rfl) ?_
        refine Lo u69 (Zb (.inl rfl) rfl) ?_
        refine Lo u69 (Zb (.inl rfl) rfl) ?_
        refine Lo u69 (W18 rfl rfl rfl rfl rfl rfl rfl) ?_
        refine Lo u69 (W63 rfl rfl rfl rfl rfl rfl rfl) ?_
        refine Ze (Zc (Zd (Za ?_)))
        refine Lo u69 (Zg (VVal.bool true) (.inr rfl) rfl) ?_
        refine Ze (Zc (Zl (ZF (Zm (Yf (ZF (Zm ?_)))))))
        refine W64 (.inr rfl) (Zh rfl rfl) ?_
        exact W65
       ·try simp only [qB] at hc7
        refine Zj (Zs (Zc (Za ?_)))
        refine Lo u69 (Zb (.inl rfl) rfl) ?_
        refine Lo u69 (W14 rfl rfl rfl) ?_
        refine Lo u69 (Zb (.inr rfl) rfl) ?_
        refine Ze ?_
        refine Zu (mk 69 590295810358705651184) (env' := u69) rfl ⟨⟨u + 1, (trn rows n k (s1.1, s1.2 ||| 1#64 <<< u)).2⟩, ?_, rfl, ?_⟩
        ·first | omega | (simp only []; omega)
        ·first | exact ⟨⟨by omega, hl1, hcm, by rw [hg, YW (by omega), if_pos (.inl (sh0.1 (by assumption)))]⟩, rfl⟩ | exact ⟨⟨by omega, hl1, hcm, by rw [hg, YW (by omega), if_pos (.inr (sh1.1 (by assumption)))]⟩, rfl⟩ | exact ⟨⟨by omega, trn_len.trans hl1, XH15, by rw [hg, hf, if_neg (by omega), if_neg (Ys (by assumption))]⟩, rfl⟩
    ·try simp only [qB] at hg4
     refine Lf u69 ?_
     refine Lf u69 ?_
     refine Lf u69 ?_
     refine Lf u69 ?_
     refine Lf u69 ?_
     refine Lf u69 ?_
     refine Lo u69 (ZI (VVal.bool false) rfl rfl rfl) ?_
     refine Ze (Zc ?_)
     refine Yi rfl rfl ?_
     refine ZB (ZD (Zv (ZA (Zc (Zd ?_)))))
     have hf : fndK s1.1 u = k := fndK_is (by omega) hno (by first | exact .inr (by assumption) | exact .inl (by omega))
     refine Za ?_
     refine Lo u69 (Zb (.inl rfl) rfl) ?_
     refine Lo u69 (Zb (.inl rfl) rfl) ?_
     refine Lo u69 (rfl) ?_
     refine Lo u69 (rfl) ?_
     refine Lo u69 (Zb (.inl rfl) rfl) ?_
     refine ZE 58 (env1 := u69) (env2 := u69) rfl rfl rfl (fun hg8 => ?_) (fun hg8 => ?_)
     ·try simp only [qB] at hg8
      refine Lf u69 ?_
      refine Lf u69 ?_
      refine Lf u69 ?_
      refine Lf u69 ?_
      refine Lf u69 ?_
      refine Lo u69 (ZK (VVal.bool true) rfl rfl rfl) ?_
      refine Ze (Zc ?_)
      refine ZP rfl rfl ?_
      refine Zd (Za ?_)
      refine Lo u69 (Zb (.inl rfl) rfl) ?_
      refine Lo u69 (Zb (.inl rfl) rfl) ?_
      refine Lo u69 (Zb (.inl rfl) rfl) ?_
      refine Lo u69 (W18 rfl rfl rfl rfl rfl rfl rfl) ?_
      refine Lo u69 (W63 rfl rfl rfl rfl rfl rfl rfl) ?_
      refine Ze (Zc (Zd (Za ?_)))
      refine Lo u69 (Zg (VVal.bool true) (.inr rfl) rfl) ?_
      refine Ze (Zc (Zl (ZF (Zm (Yf (ZF (Zm ?_)))))))
      refine W64 (.inr rfl) (Zh rfl rfl) ?_
      exact W65
     ·try simp only [qB] at hg8
      refine Lo u69 (Zb (.inl rfl) rfl) ?_
      refine Lo u69 (Zb (.inl rfl) rfl) ?_
      refine Lo u69 (Zb (.inl rfl) rfl) ?_
      refine Lo u69 (Zb (.inl rfl) rfl) ?_
      refine Zp rfl rfl rfl XH38 ?_
      rintro _ _ ⟨rfl, rfl⟩
      refine Le u69 ?_
      refine Lo u69 (ZT rfl rfl rfl) ?_
      refine Ze (Zc ?_)
      refine Zk _ rfl (fun hc9 => ?_) (fun hc9 => ?_)
      ·try simp only [qB] at hc9
       refine Zd (Za ?_)
       refine Lo u69 (Zb (.inl rfl) rfl) ?_
       refine Lo u69 (Zb (.inl rfl) rfl) ?_
       refine Lo u69 (Zb (.inl rfl) rfl) ?_
       refine Lo u69 (W18 rfl rfl rfl rfl rfl rfl rfl) ?_
       refine Lo u69 (W63 rfl rfl rfl rfl rfl rfl rfl) ?_
       refine Ze (Zc (Zd (Za ?_)))
       refine Lo u69 (Zg (VVal.bool true) (.inr rfl) rfl) ?_
       refine Ze (Zc (Zl (ZF (Zm (Yf (ZF (Zm ?_)))))))
       refine W64 (.inr rfl) (Zh rfl rfl) ?_
       exact W65
      ·try simp only [qB] at hc9
       refine Zj (Zs (Zc (Za ?_)))
       refine Lo u69 (Zb (.inl rfl) rfl) ?_
       refine Lo u69 (W14 rfl rfl rfl) ?_
       refine Lo u69 (Zb (.inr rfl) rfl) ?_
       refine Ze ?_
       refine Zu (mk 69 590295810358705651184) (env' := u69) rfl ⟨⟨u + 1, (trn rows n k (s1.1, s1.2 ||| 1#64 <<< u)).2⟩, ?_, rfl, ?_⟩
       ·first | omega | (simp only []; omega)
       ·first | exact ⟨⟨by omega, hl1, hcm, by rw [hg, YW (by omega), if_pos (.inl (sh0.1 (by assumption)))]⟩, rfl⟩ | exact ⟨⟨by omega, hl1, hcm, by rw [hg, YW (by omega), if_pos (.inr (sh1.1 (by assumption)))]⟩, rfl⟩ | exact ⟨⟨by omega, trn_len.trans hl1, XH15, by rw [hg, hf, if_neg (by omega), if_neg (Ys (by assumption))]⟩, rfl⟩
 ·try simp only [qB] at hc1
  refine ZB (ZD (Zv (ZA (Zc (Zd (Za ?_))))))
  refine Lo u69 (Zg (VVal.bool false) (.inr rfl) rfl) ?_
  refine Ze (Zc (Zl ?_))
  refine W64 (.inr rfl) (Zh rfl rfl) ?_
  exact W65
theorem W66 {S : V.Sys} {H : Zf} {fn : Func} {ex : Exit} {env : VEnv} {B L : Zf} {v : VVal} {R : VVal → Zf → Prop} (hx : ex = .normal ∨ ex = .ret) (hv : ZV S.C.T env (B ++ L) fn.results = some v) (h : R v B) (hB : BaseOk H B := by exact XH49) (hu : v.under H.length = true := by first | rfl | simp [VVal.under, VVal.underL, YM, *]) : fnK S fn H R ex env (B ++ L) := YA hx hv hB hu h
theorem W67 {P : Prop} (h : P := by first | exact ⟨by rw [szV, if_neg (by omega)], rfl⟩ | (obtain rfl : k = rows.length := by omega); exact ⟨by rw [szV, if_pos (by omega), rsz_all], rfl⟩) : P := h
theorem W6a {T : TypeId → Option VTy} {H : Zf} {op : Op} {ρ : Operand → VVal} {t ty : TypeId} {x y : Operand} {n m : Int} (ho : op = .binOp .add t x y ty) (hx : ρ x = .int .i64 n) (hy : ρ y = .int .i64 m) (h : -9223372036854775808 ≤ n + m ∧ n + m < 9223372036854775808 := by have := rsz_le (rows := rows) (k := k) (by omega); omega) : vop T ρ H op = some (.int .i64 (n + m), H) := YX ho hx hy h
theorem W6c {P : Prop} (h : P := by first | exact ⟨by rw [full_sz, decide_eq_true (by omega), Bool.true_and, ← beq_nat]; rw [szV, if_pos (by omega)], rfl⟩ | exact ⟨by rw [decide_eq_false (by omega), Bool.false_and], rfl⟩) : P := h
theorem turn_spec {x : SW} (p q : Nat) (ex : Bool) (rows : List (BitVec 64)) (hpq : p ≠ q) (h62 : rows.length ≤ 1000000) : ∀ (n : Nat) (H : Zf) (i : Nat) (has : List Int) (S : BitVec 64), H[p]? = some (haB has) → H[q]? = some (seB S) → i < rows.length → has.length = rows.length → 64 - Yz 64 S < n → F (psys x) 156 [fzW rows, .slice (some (p, 0)) rows.length rows.length ex 1, .ptr (some (q, 0)), iI (i : Nat)] H fun v G => v = .bool (trn rows n i (has, S)).1 ∧ G = trH H p q (trn rows n i (has, S)).2
  | 0, _, _, _, _, _, _, _, _, h => absurd h (by omega)
  | n + 1, H, i, has, S, hp, hq, hi, hl, hm => turn_s p q n ex rows hpq h62 (fun H i has S a b c d e => turn_spec p q ex rows hpq h62 n H i has S a b c d e) H i has S hp hq hi hl hm
theorem turn_at {x : SW} (H : Zf) (ex : Bool) (rows : List (BitVec 64)) (has : List Int) (i : Nat) (hi : i < rows.length) (hl : has.length = rows.length) (h62 : rows.length ≤ 1000000) : F (psys x) 156 [fzW rows, .slice (some (H.length + 0, 0)) rows.length rows.length ex 1, .ptr (some (H.length + 1, 0)), iI (i : Nat)] (H ++ [haB has, seB 0#64]) fun v G => v = .bool (trn rows 65 i (has, 0#64)).1 ∧ G = H ++ [haB (trn rows 65 i (has, 0#64)).2.1, seB (trn rows 65 i (has, 0#64)).2.2] := by
  have := turn_spec (x := x) (H.length + 0) (H.length + 1) ex rows (by omega) h62 65 (H ++ [haB has, seB 0#64]) i has 0#64 (ZL rfl rfl) (ZL rfl rfl) hi hl (by rw [come_0]; omega)
  unfold trH at this
  rw [ZO rfl, ZO rfl] at this
  exact this
theorem haB_under {n : Nat} {has : List Int} : (haB has).under n = true := Y3 _ _
theorem rep_cells : ∀ {n : Nat}, ZG [VVal.int .i64 0] n = (List.replicate n (0 : Int)).map iI
  | 0 => rfl
  | n + 1 => by rw [ZG, rep_cells, List.replicate_succ]; rfl
def iniT (n k : Nat) : List Int := List.replicate k (-1) ++ List.replicate (n - k) 0
theorem iniT_len {n k : Nat} (h : k ≤ n) : (iniT n k).length = n := by unfold iniT; simp; omega
theorem iniT_set {n k : Nat} (h : k < n) : (iniT n k).set k (-1) = iniT n (k + 1) := by
  unfold iniT
  rw [List.set_append_right _ _ (by simp), List.length_replicate, Nat.sub_self, show n - k = (n - (k + 1)) + 1 by omega, List.replicate_succ, List.set_cons_zero, List.replicate_succ', List.append_assoc]; rfl
theorem iniT_all {n : Nat} : iniT n n = List.replicate n (-1) := by unfold iniT; simp
theorem rsz_len {rows : List (BitVec 64)} {k : Nat} (h : k ≤ rows.length) : (rsz rows k).1.length = rows.length := (rsz_cor h).1.hl
theorem rsz_le {rows : List (BitVec 64)} {k : Nat} (h : k ≤ rows.length) : (rsz rows k).2 ≤ k := by rw [(rsz_cor h).2.1]; exact szO_le
theorem full_sz {rows : List (BitVec 64)} : Yp rows 0#64 = (szN rows == rows.length) := by unfold Yp; rw [msk_0]
theorem refSize_spec {x : SW} (H : Zf) (rows : List (BitVec 64)) (h62 : rows.length ≤ 1000000) : F (psys x) 147 [fzW rows] H fun v G => v = iI (szV rows) ∧ G = H := by
 refine Zq Tryd.func147 rfl u36 rfl ?_
 refine Zd (Za ?_)
 refine Lo u36 (Zg (VVal.int .i64 0) (.inr rfl) rfl) ?_
 refine Ze (Zc (Zd (Zd (Za ?_))))
 refine Lo u36 (Zb (.inl rfl) rfl) ?_
 refine Lo u36 (rfl) ?_
 refine Lo u36 (rfl) ?_
 refine Ze (Zc ?_)
 refine Zk _ rfl (fun hc1 => ?_) (fun hc1 => ?_)
 ·try simp only [qB] at hc1
  refine Zd (Za ?_)
  refine Lo u36 (Zg (VVal.int .i64 0) (.inr rfl) rfl) ?_
  refine Ze (Zc (Zl (Zm ?_)))
  refine W66 (.inr rfl) (Zh rfl rfl) ?_
  exact W67
 ·try simp only [qB] at hc1
  refine Zj (Zc (Zd (Za ?_)))
  refine Lo u36 (Zb (.inl rfl) rfl) ?_
  refine Lo u36 (rfl) ?_
  refine Lo u36 (YF rfl rfl rfl rfl rfl (by decide) ⟨by omega, Int.le_refl _, by show (rows.length : Int) * (8 : Nat) ≤ _; omega, by omega⟩) ?_
  refine Lo u36 (Zb (.inr rfl) rfl) ?_
  refine Ze (Zc (Zd (Zd (Za ?_))))
  refine Lo u36 (Zg (VVal.int .i64 0) (.inr rfl) rfl) ?_
  refine Ze (Zc (Zi ?_))
  refine Zt (mk 36 68719476710) (env' := u36) rfl ?_
  refine Zy (fun (k : Nat) => rows.length - k) (fun (k : Nat) => [(4, iI (k : Nat))]) (fun (k : Nat) G => (k ≤ rows.length) ∧ G = H ++ [haB (iniT rows.length k)]) 0 rfl ?_ ?_
  ·refine ⟨?_, (by show _ ++ [VBlk.cells (ZG [VVal.int .i64 0] _) true] = _; rw [rep_cells]; rfl)⟩
   exact Nat.zero_le _
  rintro k _ ⟨hk, rfl⟩
  refine ZM (env' := u36) rfl ?_
  refine Zd (Zd (Za ?_))
  refine Lo u36 (Zb (.inl rfl) rfl) ?_
  refine Lo u36 (Zb (.inl rfl) rfl) ?_
  refine Lo u36 (rfl) ?_
  refine Lo u36 (rfl) ?_
  refine Ze (Zc ?_)
  refine Zk _ rfl (fun hc2 => ?_) (fun hc2 => ?_)
  ·try simp only [qB] at hc2
   refine Zj (Zc (Zd (Zi (Za ?_))))
   refine Lo u36 (Zb (.inl rfl) rfl) ?_
   refine Lo u36 (Zb (.inl rfl) rfl) ?_
   refine Lo u36 (W18 rfl rfl rfl rfl rfl rfl rfl) ?_
   refine Lo u36 (Yg (VVal.int .i64 (-1)) rfl rfl rfl rfl rfl rfl rfl XH0 (by first | exact has_len (s := (iniT rows.length k, 0#64)) (by rw [iniT_len (by omega)]; omega)) (by exact (ZO rfl).trans (congrArg (fun c => H ++ [VBlk.cells c true]) (splice_i (l := iniT rows.length k) (k := k) (r := -1) (by rw [iniT_len hk]; omega))))) ?_
   refine Ze (Zs (Zc (Za ?_)))
   refine Lo u36 (Zb (.inl rfl) rfl) ?_
   refine Lo u36 (W14 rfl rfl rfl) ?_
   refine Lo u36 (Zb (.inr rfl) rfl) ?_
   refine Ze ?_
   have hE : (iniT rows.length k).set (k : Int).toNat (-1) = iniT rows.length (k + 1) := iniT_set (by omega)
   refine Zu (mk 36 68719476710) (env' := u36) rfl ⟨k + 1, ?_, rfl, ?_⟩
   ·first | omega | (simp only []; omega)
   ·exact ⟨by omega, by rw [← hE]; rfl⟩
  ·try simp only [qB] at hc2
   refine ZB (ZD (Zv (ZA (Zc (Zd (Za ?_))))))
   refine Lo u36 (Zg (VVal.int .i64 0) (.inr rfl) rfl) ?_
   refine Ze (Zc (Zd (Zd (Za ?_))))
   refine Lo u36 (Zg (VVal.int .i64 0) (.inr rfl) rfl) ?_
   refine Ze (Zc (Zi ?_))
   refine Zt (mk 36 68719476630) (env' := u36) rfl ?_
   refine Zy (fun (k : Nat) => rows.length - k) (fun (k : Nat) => [(5, iI ((rsz rows k).2 : Nat)), (6, iI (k : Nat))]) (fun (k : Nat) G => (k ≤ rows.length) ∧ G = H ++ [haB (rsz rows k).1]) 0 rfl ?_ ?_
   ·refine ⟨?_, (by rw [show k = rows.length by omega, iniT_all]; rfl)⟩
    exact Nat.zero_le _
   rintro k _ ⟨hk, rfl⟩
   refine ZM (env' := u36) rfl ?_
   refine Zd (Zd (Za ?_))
   refine Lo u36 (Zb (.inl rfl) rfl) ?_
   refine Lo u36 (Zb (.inl rfl) rfl) ?_
   refine Lo u36 (rfl) ?_
   refine Lo u36 (rfl) ?_
   refine Ze (Zc ?_)
   refine Zk _ rfl (fun hc3 => ?_) (fun hc3 => ?_)
   ·try simp only [qB] at hc3
    refine Zj (Zc (Zd (Zi (Zd (Za ?_)))))
    refine Lo u36 (ZR rfl rfl) ?_
    refine Lo u36 (Yg (VVal.int .u64 0) rfl rfl rfl rfl rfl rfl rfl XH0 XH6 XH1) ?_
    refine Ze (Zc (Zd (Za ?_)))
    refine Lo u36 (Zb (.inl rfl) rfl) ?_
    refine Lo u36 (Zb (.inl rfl) rfl) ?_
    refine Lo u36 (Zb (.inl rfl) rfl) ?_
    refine Zp rfl rfl rfl (by exact turn_at H _ rows (rsz rows k).1 k (by omega) (rsz_len (by omega)) h62) ?_
    rintro _ _ ⟨rfl, rfl⟩
    refine Le u36 ?_
    refine Ze (Zc ?_)
    refine Zk _ rfl (fun hc4 => ?_) (fun hc4 => ?_)
    ·try simp only [qB] at hc4
     refine Za ?_
     refine Lo u36 (Zb (.inl rfl) rfl) ?_
     refine Lo u36 (W6a rfl rfl rfl) ?_
     refine Lo u36 (Zb (.inr rfl) rfl) ?_
     refine Ze (Zs (Zc (Za ?_)))
     refine Lo u36 (Zb (.inl rfl) rfl) ?_
     refine Lo u36 (W14 rfl rfl rfl) ?_
     refine Lo u36 (Zb (.inr rfl) rfl) ?_
     refine Ze ?_
     first
       | (have hE : (((rsz rows k).2 : Nat) : Int) + 1 = ((rsz rows (k + 1)).2 : Nat) := by rw [rsz, if_pos (by assumption)]; rfl); rw [hE]
       | (have hE : (rsz rows k).2 = (rsz rows (k + 1)).2 := by rw [rsz]; simp only; rw [if_neg (Ys (by assumption))]); rw [hE]
     refine K_loopG (mk 36 68719476630) (env' := u36) rfl (Gh.dropTo (L := [haB (rsz rows (k + 1)).1]) (X := [seB _]) 1 rfl (BaseOk.refl _) XH21 (by simp [haB_under])) ⟨k + 1, ?_, rfl, ?_⟩
     ·first | omega | (simp only []; omega)
     ·exact ⟨by omega, rfl⟩
    ·try simp only [qB] at hc4
     refine Zj (Zs (Zc (Za ?_)))
     refine Lo u36 (Zb (.inl rfl) rfl) ?_
     refine Lo u36 (W14 rfl rfl rfl) ?_
     refine Lo u36 (Zb (.inr rfl) rfl) ?_
     refine Ze ?_
     first
       | (have hE : (((rsz rows k).2 : Nat) : Int) + 1 = ((rsz rows (k + 1)).2 : Nat) := by rw [rsz, if_pos (by assumption)]; rfl); rw [hE]
       | (have hE : (rsz rows k).2 = (rsz rows (k + 1)).2 := by rw [rsz]; simp only; rw [if_neg (Ys (by assumption))]); rw [hE]
     refine K_loopG (mk 36 68719476630) (env' := u36) rfl (Gh.dropTo (L := [haB (rsz rows (k + 1)).1]) (X := [seB _]) 1 rfl (BaseOk.refl _) XH21 (by simp [haB_under])) ⟨k + 1, ?_, rfl, ?_⟩
     ·first | omega | (simp only []; omega)
     ·exact ⟨by omega, rfl⟩
   ·try simp only [qB] at hc3
    refine ZB (ZD (Zv (ZA (Zc (Zd (Za ?_))))))
    refine Lo u36 (Zb (.inl rfl) rfl) ?_
    refine Lo u36 (Zb (.inr rfl) rfl) ?_
    refine Ze (Zc (Zl ?_))
    refine W66 (.inr rfl) (Zh rfl rfl) ?_
    exact W67
theorem refFull_spec {x : SW} (H : Zf) (rows : List (BitVec 64)) (h62 : rows.length ≤ 1000000) : F (psys x) 123 [fzW rows] H fun v G => v = .bool (decide (rows.length ≤ 12) && Yp rows 0#64) ∧ G = H := by
 refine Zq Tryd.func123 rfl u13 rfl ?_
 refine Zd (Za ?_)
 refine Lo u13 (Zg (VVal.bool false) (.inr rfl) rfl) ?_
 refine Ze (Zc (Zd (Za ?_)))
 refine Lo u13 (Zb (.inl rfl) rfl) ?_
 refine Lo u13 (rfl) ?_
 refine Lo u13 (rfl) ?_
 refine Lo u13 (Zb (.inl rfl) rfl) ?_
 refine ZE 6 (env1 := u13) (env2 := u13) rfl rfl rfl (fun hg1 => ?_) (fun hg1 => ?_)
 ·try simp only [qB] at hg1
  refine Lo u13 (Zb (.inl rfl) rfl) ?_
  refine Zp rfl rfl rfl (by exact refSize_spec _ _ h62) ?_
  rintro _ _ ⟨rfl, rfl⟩
  refine Le u13 ?_
  refine Lo u13 (Zb (.inl rfl) rfl) ?_
  refine Lo u13 (rfl) ?_
  refine Lo u13 (rfl) ?_
  refine Lo u13 (ZN rfl rfl rfl) ?_
  refine Lo u13 (Zb (.inr rfl) rfl) ?_
  refine Ze (Zc (Zl ?_))
  refine W10 (.inr rfl) (Zh rfl rfl) ?_
  exact W6c
 ·try simp only [qB] at hg1
  refine Lf u13 ?_
  refine Lf u13 ?_
  refine Lf u13 ?_
  refine Lf u13 ?_
  refine Lf u13 ?_
  refine Lo u13 (ZI (VVal.bool false) rfl rfl rfl) ?_
  refine Lo u13 (Zb (.inr rfl) rfl) ?_
  refine Ze (Zc (Zl ?_))
  refine W10 (.inr rfl) (Zh rfl rfl) ?_
  exact W6c
theorem W6g {S : V.Sys} {H : Zf} {fn : Func} {ex : Exit} {env : VEnv} {B L : Zf} {v : VVal} {R : VVal → Zf → Prop} (hx : ex = .normal ∨ ex = .ret) (hv : ZV S.C.T env (B ++ L) fn.results = some v) (h : R v B) (hB : BaseOk H B := by exact XH49) (hu : v.under H.length = true := by first | rfl | simp [VVal.under, VVal.underL, mapN_under, *]) : fnK S fn H R ex env (B ++ L) := YA hx hv hB hu h
theorem W6h {P : Prop} (h : P := by first | exact ⟨by rw [leV, if_neg (fun e => by rw [decide_eq_true e.1, e.2] at hc1; cases hc1)]; rfl, rfl⟩ | (obtain rfl : r = [] := List.eq_nil_of_length_eq_zero (by omega)); exact ⟨by rw [leV, if_pos hc1, hlst]; simp [lst], rfl⟩) : P := h
theorem W6i {T : TypeId → Option VTy} {H : Zf} {op : Op} {ρ : Operand → VVal} {t : TypeId} {a : Operand} {y : VTy} {p v : VVal} (ho : op = .load t a) (ha : ρ a = p) (hy : T t = some y) (hd : Zo y.desc = false) (h : LdOk H p v := by first | exact .inl ⟨_, _, rfl, by first | exact fget (α := BitVec 64) (n := 0) 0 (by omega) | rfl⟩ | exact .inr ⟨_, _, _, _, rfl, XH43, by first | exact fget (α := BitVec 64) (n := 0) 0 (by omega) | rfl⟩) : vop T ρ H op = some (v, H) := v_ld ho ha hy hd h
def gvT (rows : List (BitVec 64)) (t : BitVec 64) (i : Nat) : List (BitVec 64) := msk ((rows.take i).drop 1) t
theorem gvT_1 {rows : List (BitVec 64)} {t : BitVec 64} : gvT rows t 1 = [] := by
  unfold gvT
  cases rows <;> rfl
theorem gvT_succ {rows : List (BitVec 64)} {t : BitVec 64} {i : Nat} (h1 : 1 ≤ i) (h : i < rows.length) : gvT rows t (i + 1) = gvT rows t i ++ [rows.getD (i : Int).toNat 0 &&& ~~~t] := by
  unfold gvT msk
  rw [List.take_succ_eq_append_getElem h, List.drop_append_of_le_length XH31, List.map_append, Int.toNat_natCast, List.getD_eq_getElem?_getD, List.getElem?_eq_getElem h]; rfl
theorem gvT_all {rows : List (BitVec 64)} {t : BitVec 64} {i : Nat} (h : rows.length ≤ i) : gvT rows t i = msk (rows.drop 1) t := by
  unfold gvT; rw [List.take_of_length_le h]
theorem msk_fullB {l : List (BitVec 64)} {s t : BitVec 64} : Yp (msk l s) t = Yp l (s ||| t) := by unfold Yp; rw [msk_msk, Ye]
theorem msk_w {w s t : BitVec 64} : (w &&& ~~~s) &&& ~~~t = w &&& ~~~(s ||| t) := YJ fun i hi => by
  simp only [BitVec.getLsbD_and, BitVec.getLsbD_not, BitVec.getLsbD_or, hi, decide_true, Bool.true_and, Bool.not_or, Bool.and_assoc]
theorem lst_msk : ∀ {l : List (BitVec 64)} {s t : BitVec 64}, lst (msk l s) t = lst l (s ||| t)
  | [], s, t => rfl
  | w :: l, s, t => by
    show lst ((w &&& ~~~s) :: msk l s) t = _
    rw [lst, lst, msk_w]
    simp only [msk_fullB, BitVec.or_assoc, lst_msk]
theorem z_not (w : BitVec 64) : w &&& ~~~0#64 = w := YJ fun i hi => by rw [BitVec.getLsbD_and, BitVec.getLsbD_not, BitVec.getLsbD_zero, decide_eq_true hi]; simp
theorem lst_first {w : BitVec 64} {l : List (BitVec 64)} {u : Nat} (hu : u < 64) (h1 : w.getLsbD u = true) (h2 : Yp (msk l (1#64 <<< u)) 0#64 = true) (h3 : ∀ v, v < u → w.getLsbD v = true → Yp (msk l (1#64 <<< v)) 0#64 = false) : lst (w :: l) 0#64 = u :: lst (msk l (1#64 <<< u)) 0#64 := by
  have hor : ∀ v : Nat, 0#64 ||| 1#64 <<< v = 1#64 <<< v ||| 0#64 := fun v => by simp
  have hx : pl w 0 = (List.range u).filter w.getLsbD ++ u :: pl w (u + 1) := by
    have e1 : pl w 0 = (List.range u).filter w.getLsbD ++ pl w u := by
      unfold pl
      rw [show (64 : Nat) - 0 = u + (64 - u) by omega, List.range_eq_range', List.range'_append_1 |>.symm, List.filter_append, Nat.zero_add]
    rw [e1, pl_step w u, if_pos hu, if_pos h1]
  rw [lst, z_not, hx, find_yes (c := u) (fun v hv => ?_) (by rw [hor, ← msk_fullB]; exact h2)]
  · simp only
    rw [hor, lst_msk]
  · have hv := List.mem_filter.1 hv
    rw [hor, ← msk_fullB]; exact h3 v (List.mem_range.1 hv.1) hv.2
theorem first_ex {w : BitVec 64} {l : List (BitVec 64)} (h : Yp (w :: l) 0#64 = true) : ∃ u, u < 64 ∧ w.getLsbD u = true ∧ Yp (msk l (1#64 <<< u)) 0#64 = true := by
  obtain ⟨u, h1, h2⟩ := mat_cons.1 (full0.1 h)
  exact ⟨u, BitVec.lt_of_getLsbD h1, h1, full0.2 h2⟩
theorem LV.appW {h : Nat} {X : Zf} {v : VVal} {l : List (BitVec 64)} {w : BitVec 64} {n : Nat} (r : LV h 1 X v (l.map iW ++ [iW w]) n) : LV h 1 X v ((l ++ [w]).map iW) n := by rw [List.map_append]; exact r
theorem LV.appN {h : Nat} {X : Zf} {v : VVal} {l : List Nat} {u : Nat} {n : Nat} (r : LV h 1 X v (l.map jN ++ [jN u]) n) : LV h 1 X v ((l ++ [u]).map jN) n := by rw [List.map_append]; exact r
theorem given_spec {x : SW} (H : Zf) (rows : List (BitVec 64)) (u : Nat) (h62 : rows.length ≤ 1000000) : F (psys x) 124 [fzW rows, iI (u : Nat)] H fun v G => v = fzW (msk (rows.drop 1) (1#64 <<< u)) ∧ G = H := by
 refine Zq Tryd.func124 rfl u24 rfl ?_
 refine Zd (Za ?_)
 refine Lo u24 (Zg (VVal.slice none 0 0 true 0) (.inr rfl) rfl) ?_
 refine Ze (Zc (Zd (Za ?_)))
 refine Lo u24 (Zg (VVal.slice none 0 0 true 0) (.inr rfl) rfl) ?_
 refine Ze (Zc (Zd (Zd (Za ?_))))
 refine Lo u24 (Zg (VVal.int .i64 1) (.inr rfl) rfl) ?_
 refine Ze (Zc (Zi ?_))
 refine Zt (mk 24 16777116) (env' := u24) rfl ?_
 refine Zy (fun (⟨i, lv⟩ : Nat × VVal) => rows.length - i) (fun (⟨i, lv⟩ : Nat × VVal) => [(5, lv), (6, iI (i : Nat))]) (fun (⟨i, lv⟩ : Nat × VVal) G => (1 ≤ i ∧ (i ≤ rows.length ∨ i = 1)) ∧ ∃ X, G = H ++ X ∧ LV H.length 1 X lv ((gvT rows (1#64 <<< u) i).map iW) (i - 1)) ⟨1, _⟩ rfl ?_ ?_
 ·refine ⟨?_, ⟨_, rfl, by rw [gvT_1]; exact LV.nil _ _ _⟩⟩
  exact ⟨Nat.le_refl _, .inr rfl⟩
 rintro ⟨i, lv⟩ _ ⟨⟨hi1, hi2⟩, ⟨X, rfl, hl⟩⟩
 refine ZM (env' := u24) rfl ?_
 refine Zd (Zd (Za ?_))
 refine Lo u24 (Zb (.inl rfl) rfl) ?_
 refine Lo u24 (Zb (.inl rfl) rfl) ?_
 refine Lo u24 (rfl) ?_
 refine Lo u24 (rfl) ?_
 refine Ze (Zc ?_)
 refine Zk _ rfl (fun hc1 => ?_) (fun hc1 => ?_)
 ·try simp only [qB] at hc1
  refine Zj (Zc (Zd (Zi ?_)))
  refine ZS [0, 1, 2, 3, 4, 5, 6, 7, 8, 9, 10] #[0, 0, 0, 6, 14, 0, 32, 126, 254, 511, 1023] XH7 XH7 XH7 ?_
  refine Oo u24 .calm rfl (Zb (.inl rfl) rfl) ?_
  refine Oo u24 .calm rfl (Zb (.inl rfl) rfl) ?_
  refine Oo u24 .calm rfl (Zb (.inl rfl) rfl) ?_
  refine Oo u24 .calm rfl (W18 rfl rfl rfl rfl rfl rfl rfl) ?_
  refine Oo u24 .look rfl (W12 rfl rfl rfl rfl) ?_
  refine Oo u24 .calm rfl (Zb (.inl rfl) rfl) ?_
  refine Oo u24 .calm rfl (v_shl1 rfl rfl rfl XH2) ?_
  refine Oo u24 .calm rfl (v_andNotW rfl rfl rfl) ?_
  refine Oo u24 .grow rfl (Zz rfl rfl (by decide) rfl) ?_
  refine O_opX .turn rfl rfl rfl (v_appX rfl rfl rfl rfl rfl rfl rfl hl rfl rfl (by decide) (by show (i - 1 + 1) * 8 ≤ _ ∧ i - 1 + 1 ≤ _; omega) (by decide)) rfl rfl ?_
  rintro _ _ ⟨Y1, rfl, rfl, hY1, hY2, hY3⟩
  refine O_env (env' := u24) rfl ?_
  refine Oo u24 .calm rfl (Zb (.inr rfl) rfl) ?_
  refine ZU [] XH7 (trivial) ?_
  refine Zs (Zc (Za ?_))
  refine Lo u24 (Zb (.inl rfl) rfl) ?_
  refine Lo u24 (W14 rfl rfl rfl) ?_
  refine Lo u24 (Zb (.inr rfl) rfl) ?_
  refine Ze ?_
  refine Zu (mk 24 16777116) (env' := u24) rfl ⟨⟨i + 1, _⟩, ?_, rfl, ?_⟩
  ·first | omega | (simp only []; omega)
  ·exact ⟨⟨by omega, .inl (by omega)⟩, _, rfl, by rw [gvT_succ hi1 (by omega), show i + 1 - 1 = i - 1 + 1 by omega]; exact LV.appW hY3⟩
 ·try simp only [qB] at hc1
  refine ZB (ZD (Zv (ZA (Zc (Zd (Za ?_))))))
  refine Lo u24 (Zb (.inl rfl) rfl) ?_
  refine Lo u24 (Zb (.inr rfl) rfl) ?_
  refine Ze (Zc (Zl ?_))
  refine E_gh (.inr rfl) (Zh rfl rfl) (Gh.ansLV (BaseOk.refl _) hl (YC _ _)) ?_
  have hE := gvT_all (rows := rows) (t := 1#64 <<< u) (i := i) (by omega)
  have hlen : (gvT rows (1#64 <<< u) i).length = i - 1 := by unfold gvT; rw [Ye, List.length_drop, List.length_take]; omega
  refine ⟨?_, rfl⟩
  rw [← hE]
  show _ = VVal.fsl ((gvT rows (1#64 <<< u) i).map iW) (gvT rows (1#64 <<< u) i).length 1 false
  rw [hlen]
theorem refFull_12 {x : SW} (H : Zf) (rows : List (BitVec 64)) (h : rows.length ≤ 12) : F (psys x) 123 [fzW rows] H fun v G => v = .bool (Yp rows 0#64) ∧ G = H := by
  have := refFull_spec (x := x) H rows (by omega)
  rw [decide_eq_true h, Bool.true_and] at this; exact this
theorem getD_tail {l : List (BitVec 64)} (h : 0 < l.length) : ∃ w m, l = w :: m := by
  cases l with
  | nil => simp at h
  | cons w m => exact ⟨w, m, rfl⟩
theorem refLeast_spec {x : SW} (H : Zf) (rows : List (BitVec 64)) (h62 : rows.length ≤ 1000000) : F (psys x) 135 [fzW rows] H fun v G => v = leV rows ∧ G = H := by
 refine Zq Tryd.func135 rfl u36 rfl ?_
 refine Zd (Za ?_)
 refine Lo u36 (Zg (VVal.slice none 0 0 true 0) (.inr rfl) rfl) ?_
 refine Lo u36 (Zg (VVal.bool false) (.inr rfl) rfl) ?_
 refine Ze (Zc (Zd (Zd (Za ?_))))
 refine Lo u36 (Zb (.inl rfl) rfl) ?_
 refine Zp rfl rfl rfl (by exact refFull_spec _ rows h62) ?_
 rintro _ _ ⟨rfl, rfl⟩
 refine Le u36 ?_
 refine Lo u36 (rfl) ?_
 refine Ze (Zc ?_)
 refine Zk _ rfl (fun hc1 => ?_) (fun hc1 => ?_)
 ·try simp only [qB] at hc1
  refine Zd (Za ?_)
  refine Lo u36 (Zg (VVal.slice none 0 0 true 0) (.inr rfl) rfl) ?_
  refine Lo u36 (Zg (VVal.bool false) (.inr rfl) rfl) ?_
  refine Ze (Zc ?_)
  refine Yu (Gh.freezeNil 2 (es' := 1) rfl rfl) ?_
  refine Zl (Zm ?_)
  refine W6g (.inr rfl) (Z8 rfl rfl rfl) ?_
  exact W6h
 ·try simp only [qB] at hc1
  refine Zj (Zc (Zd (Za ?_)))
  refine Lo u36 (Zg (VVal.slice none 0 0 true 0) (.inr rfl) rfl) ?_
  refine Ze (Zc (Zd (Zi ?_)))
  refine Zt (mk 36 68719476718) (env' := u36) rfl ?_
  refine Zy (fun (⟨r, ds, lv⟩ : List (BitVec 64) × List Nat × VVal) => r.length) (fun (⟨r, ds, lv⟩ : List (BitVec 64) × List Nat × VVal) => [(0, fzW r), (4, lv)]) (fun (⟨r, ds, lv⟩ : List (BitVec 64) × List Nat × VVal) G => (Yp r 0#64 = true ∧ r.length ≤ 12 ∧ ds.length + r.length = rows.length ∧ lst rows 0#64 = ds ++ lst r 0#64) ∧ ∃ X, G = H ++ X ∧ LV H.length 1 X lv (ds.map jN) ds.length) ⟨rows, [], _⟩ rfl ?_ ?_
  ·refine ⟨?_, ⟨_, rfl, LV.nil _ _ _⟩⟩
   exact ⟨hc1.2, hc1.1, by simp, by simp⟩
  rintro ⟨r, ds, lv⟩ _ ⟨⟨hfr, hr12, hdl, hlst⟩, ⟨X, rfl, hl⟩⟩
  refine ZM (env' := u36) rfl ?_
  refine Zd (Zd (Za ?_))
  refine Lo u36 (Zb (.inl rfl) rfl) ?_
  refine Lo u36 (rfl) ?_
  refine Lo u36 (rfl) ?_
  refine Ze (Zc ?_)
  refine Zk _ rfl (fun hc2 => ?_) (fun hc2 => ?_)
  ·try simp only [qB] at hc2
   refine Zj (Zc (Zi (Zd ?_)))
   obtain ⟨w, m, rfl⟩ := getD_tail (l := r) (by omega)
   obtain ⟨u0, hu0, hw0, hf0⟩ := first_ex hfr
   refine Za ?_
   refine Lo u36 (Zg (VVal.int .i64 0) (.inr rfl) rfl) ?_
   refine Ze (Zc (Zd (Zi ?_)))
   refine Zt (mk 36 68719476686) (env' := u36) rfl ?_
   refine Zy (fun (u : Nat) => 64 - u) (fun (u : Nat) => [(5, iI (u : Nat))]) (fun (u : Nat) G => (u ≤ u0 ∧ ∀ v, v < u → w.getLsbD v = true → Yp (msk m (1#64 <<< v)) 0#64 = false) ∧ G = H ++ X) 0 rfl ?_ ?_
   ·refine ⟨?_, rfl⟩
    exact ⟨Nat.zero_le _, fun v h => by omega⟩
   rintro u _ ⟨⟨hu, hno⟩, rfl⟩
   refine ZM (env' := u36) rfl ?_
   refine Zd (Zd (Za ?_))
   refine Lo u36 (Zb (.inl rfl) rfl) ?_
   refine Lo u36 (W18 rfl rfl rfl rfl rfl rfl rfl) ?_
   refine Lo u36 (W6i rfl rfl rfl rfl) ?_
   refine Lo u36 (Zb (.inl rfl) rfl) ?_
   refine Lo u36 (v_shrW rfl rfl rfl XH2) ?_
   refine Lo u36 (v_andW (b := 1#64) rfl rfl rfl) ?_
   refine Lo u36 (rfl) ?_
   refine Lo u36 (Zb (.inl rfl) rfl) ?_
   refine ZE 19 (env1 := u36) (env2 := u36) rfl rfl rfl (fun hg3 => ?_) (fun hg3 => ?_)
   ·try simp only [qB] at hg3
    refine Lf u36 ?_
    refine Lf u36 ?_
    refine Lf u36 ?_
    refine Lf u36 ?_
    refine Lf u36 ?_
    refine Lo u36 (ZK (VVal.bool true) rfl rfl rfl) ?_
    refine Ze (Zc ?_)
    refine ZP rfl rfl ?_
    refine Zj (Zc (Zi (Za ?_)))
    refine Lo u36 (Zb (.inl rfl) rfl) ?_
    refine Lo u36 (W14 rfl rfl rfl) ?_
    refine Lo u36 (Zb (.inr rfl) rfl) ?_
    refine Ze (Zs ?_)
    refine Zu (mk 36 68719476686) (env' := u36) rfl ⟨u + 1, ?_, rfl, ?_⟩
    ·first | omega | (simp only []; omega)
    ·first | exact ⟨⟨Nat.lt_of_le_of_ne hu (fun e => by subst e; rw [sh0.1 (by assumption)] at hw0; cases hw0), fun v hv hb => by by_cases e : v = u; (subst e; rw [sh0.1 (by assumption)] at hb; cases hb); exact hno v (by omega) hb⟩, rfl⟩ | exact ⟨⟨Nat.lt_of_le_of_ne hu (fun e => by subst e; exact absurd hf0 (Ys (by assumption))), fun v hv hb => by by_cases e : v = u; (subst e; assumption); exact hno v (by omega) hb⟩, rfl⟩
   ·try simp only [qB] at hg3
    refine Lo u36 (Zb (.inl rfl) rfl) ?_
    refine Lo u36 (Zb (.inl rfl) rfl) ?_
    refine Zp rfl rfl rfl (by exact given_spec _ (w :: m) u (Nat.le_trans (show (w :: m).length ≤ 12 from hr12) (by decide))) ?_
    rintro _ _ ⟨rfl, rfl⟩
    refine Le u36 ?_
    refine Zp rfl rfl rfl (by exact refFull_12 _ (msk m (1#64 <<< u)) (by rw [Ye]; simp only [List.length_cons] at hr12; omega)) ?_
    rintro _ _ ⟨rfl, rfl⟩
    refine Le u36 ?_
    refine Lo u36 (rfl) ?_
    refine Lo u36 (ZT rfl rfl rfl) ?_
    refine Ze (Zc ?_)
    refine Zk _ rfl (fun hc4 => ?_) (fun hc4 => ?_)
    ·try simp only [qB] at hc4
     refine Zj (Zc (Zi (Za ?_)))
     refine Lo u36 (Zb (.inl rfl) rfl) ?_
     refine Lo u36 (W14 rfl rfl rfl) ?_
     refine Lo u36 (Zb (.inr rfl) rfl) ?_
     refine Ze (Zs ?_)
     refine Zu (mk 36 68719476686) (env' := u36) rfl ⟨u + 1, ?_, rfl, ?_⟩
     ·first | omega | (simp only []; omega)
     ·first | exact ⟨⟨Nat.lt_of_le_of_ne hu (fun e => by subst e; rw [sh0.1 (by assumption)] at hw0; cases hw0), fun v hv hb => by by_cases e : v = u; (subst e; rw [sh0.1 (by assumption)] at hb; cases hb); exact hno v (by omega) hb⟩, rfl⟩ | exact ⟨⟨Nat.lt_of_le_of_ne hu (fun e => by subst e; exact absurd hf0 (Ys (by assumption))), fun v hv hb => by by_cases e : v = u; (subst e; assumption); exact hno v (by omega) hb⟩, rfl⟩
    ·try simp only [qB] at hc4
     refine ZB (ZD (Zv (ZA (Zc (Zd ?_)))))
     have hbit : w.getLsbD u = true := sh_not0 (by assumption)
     have hfu : Yp (msk m (1#64 <<< u)) 0#64 = true := by assumption
     simp only [List.length_cons] at hr12 hdl
     refine Za ?_
     refine Lo u36 (Zb (.inl rfl) rfl) ?_
     refine Lo u36 (Zb (.inl rfl) rfl) ?_
     refine Lo u36 (Zz rfl rfl (by decide) rfl) ?_
     refine L_opX rfl rfl (v_appX rfl rfl rfl rfl rfl rfl rfl hl rfl rfl (by decide) (by show (ds.length + 1) * 8 ≤ _ ∧ ds.length + 1 ≤ _; omega) (by decide)) ?_
     rintro _ _ ⟨Y1, rfl, rfl, hY1, hY2, hY3⟩
     refine Le u36 ?_
     refine Lo u36 (Zb (.inr rfl) rfl) ?_
     refine Ze (Zc (Za ?_))
     refine Lo u36 (Zb (.inl rfl) rfl) ?_
     refine Lo u36 (Zb (.inl rfl) rfl) ?_
     refine Zp rfl rfl rfl (by exact given_spec _ (w :: m) u (Nat.le_trans (show (w :: m).length ≤ 12 from hr12) (by decide))) ?_
     rintro _ _ ⟨rfl, rfl⟩
     refine Le u36 ?_
     refine Lo u36 (Zb (.inr rfl) rfl) ?_
     refine Ze (Zs ?_)
     refine Zu (mk 36 68719476718) (env' := u36) rfl ⟨⟨msk m (1#64 <<< u), ds ++ [u], _⟩, ?_, rfl, ?_⟩
     ·show (msk m (1#64 <<< u)).length < (w :: m).length; rw [Ye]; simp
     ·exact ⟨⟨hfu, by rw [Ye]; omega, by rw [List.length_append, Ye]; show ds.length + 1 + m.length = _; omega, hlst.trans ((congrArg (ds ++ ·) (lst_first (by omega) hbit hfu hno)).trans (by simp))⟩, _, rfl, by rw [List.length_append]; exact LV.appN hY3⟩
  ·try simp only [qB] at hc2
   refine ZB (ZD (Zv (ZA (Zc (Zd (Za ?_))))))
   refine Lo u36 (Zb (.inl rfl) rfl) ?_
   refine Lo u36 (Zb (.inr rfl) rfl) ?_
   refine Lo u36 (Zg (VVal.bool true) (.inr rfl) rfl) ?_
   refine Ze (Zc ?_)
   refine B_ghLV (env' := u36) 2 hl rfl rfl fun X2 _ _ => ?_
   refine Zl ?_
   refine W6g (.inr rfl) (Z8 rfl rfl rfl) ?_
   exact W6h
namespace MM
end MM
open Go Go.V Go.RowKit
abbrev u11 {a0 a1 a2 a3 a4 a5 a6 a7 a8 a9 a10 : VVal} : VEnv := a0 :: a1 :: a2 :: a3 :: a4 :: a5 :: a6 :: a7 :: a8 :: a9 :: a10 :: []
theorem W6j {T : TypeId → Option VTy} {H : Zf} {op : Op} {ρ : Operand → VVal} {t : TypeId} {a : Operand} {y : VTy} {p : VVal} {n : Nat} {vs : List VVal} (ho : op = .load t a) (ha : ρ a = p) (hy : T t = some y) (hd : Zo y.desc = true) (hn : y.size = n) (h : LdOkA H p n vs := by exact XH55) : vop T ρ H op = some (.agg vs, H) := v_ldA ho ha hy hd hn h
theorem W6k {S : V.Sys} {H : Zf} {fn : Func} {ex : Exit} {env : VEnv} {B L : Zf} {v : VVal} {R : VVal → Zf → Prop} (hx : ex = .normal ∨ ex = .ret) (hv : ZV S.C.T env (B ++ L) fn.results = some v) (h : R v B) (hB : BaseOk H B := by exact XH49) (hu : v.under H.length = true := by first | rfl | exact (show ((fzN (plN a l)).under H.length && (true && true)) = true by rw [show (fzN (plN a l)).under H.length = true from mapN_under _ _]; rfl)) : fnK S fn H R ex env (B ++ L) := YA hx hv hB hu h
theorem W6l {P : Prop} (h : P := by first | exact ⟨by rw [srF_0 hey, h7]; show _ = VVal.tuple [fzN (plN a l), .bool true]; rw [fzN_pl]; rfl, rfl⟩ | exact ⟨by rw [srF_0 hey, h6 (by assumption)]; rfl, rfl⟩ | exact ⟨by rw [srF_e (by rw [wsP_len]; assumption)]; rfl, rfl⟩) : P := h
theorem W6o {T : TypeId → Option VTy} {H : Zf} {op : Op} {ρ : VEnv} {H' : Zf} {t : TypeId} {a : Operand} {i : Nat} {v : VVal} {y : VTy} {b off : Nat} {cs new : List VVal} (ho : op = .store t a (.tmp i)) (hv : ρ[i]? = some v) (ha : ρ.eval a = .ptr (some (b, off))) (hy : T t = some y) (hx : v.cells = some new) (hn : new.length = y.size) (h1 : new.all VVal.one = true) (hb : H[b]? = some (.cells cs true) := by exact XH43) (hl : off + new.length ≤ cs.length := by show 0 + k * 1 + 1 ≤ _; rw [List.length_map, plK_len (by omega)]; omega) (hH : H.set b (.cells (ZH cs off new) true) = H' := by exact (ZO rfl).trans (by show _ ++ [VBlk.dead, VBlk.cells (ZH (rcN (plK a l k)) (0 + k * 1) [iI ((l.getD (a.getD k 0) 0 : Nat) : Int)]) true] = _; rw [spl_N (by rw [plK_len (by omega)]; omega)])) : vop T ρ.eval H op = some (.skip, H') := Z0 ho hv ha hy hx hn h1 hb hl hH
theorem W6q {S : V.Sys} {H : Zf} {fn : Func} {ex : Exit} {env : VEnv} {B L : Zf} {v : VVal} {R : VVal → Zf → Prop} (hx : ex = .normal ∨ ex = .ret) (hv : ZV S.C.T env (B ++ L) fn.results = some v) (h : R v B) (hB : BaseOk H B := by exact XH49) (hu : v.under H.length = true := by first | rfl | exact (show ((fzN l).under H.length && (true && true)) = true by rw [show (fzN l).under H.length = true from mapN_under _ _]; rfl)) : fnK S fn H R ex env (B ++ L) := YA hx hv hB hu h
theorem W6r {P : Prop} (h : P := by first | exact ⟨by rw [srF_R hey, hsr, srR_yes (by omega) (h5 rfl)]; rfl, rfl⟩ | exact ⟨by rw [srF_R hey, hsr, srR_end (by omega)]; rfl, rfl⟩ | exact ⟨by rw [srF_e (by rw [wsP_len]; assumption)]; rfl, rfl⟩) : P := h
theorem W6s {T : TypeId → Option VTy} {H : Zf} {op : Op} {ρ : Operand → VVal} {t : TypeId} {a : Operand} {y : VTy} {p : VVal} {n : Nat} {vs : List VVal} (ho : op = .load t a) (ha : ρ a = p) (hy : T t = some y) (hd : Zo y.desc = true) (hn : y.size = n) (h : LdOkA H p n vs := by first | exact .inl ⟨_, _, rfl, by rfl⟩ | exact .inr ⟨_, _, _, _, rfl, XH43, by rfl⟩) : vop T ρ H op = some (.agg vs, H) := v_ldA ho ha hy hd hn h
theorem W6t {P : Prop} (h : P := by first | exact ⟨he.symm, rfl⟩ | exact ⟨by rw [show leA p = none from if_neg (by assumption)]; rfl, rfl⟩) : P := h
theorem search_in {x : SW} {H Z : Zf} {pv : VVal} {a : List Nat} {b i n c : Nat} {o : Option (List Nat)} (hZ : Z[i]? = some (.cells (rcN (a ++ [b])) true)) (h : F (psys x) 131 [pv, fzN (a ++ [b])] (H ++ Z.set i .dead) fun v G => v = leT o ∧ G = H ++ Z.set i .dead) (hn : n = a.length + 1) (hc : c = n) : F (psys x) 131 [pv, .slice (some (H.length + i, 0)) n c false 1] (H ++ Z) fun v G => v = leT o ∧ G = H ++ Z.set i .dead := by
  subst hc; subst hn
  exact F.pre (Gh.freezeL (H := H) (l := rcN (a ++ [b])) (vs' := [pv, fzN (a ++ [b])]) 1 i rfl hZ (Yq (by simp)) (Nat.le_refl _) (by simp)) h
theorem leV_o {ws : List (BitVec 64)} {a : List Nat} (h : (Yb ws a a.length).length ≤ 12) : ∃ l ok, leV (Yb ws a a.length) = .tuple [fzN l, .bool ok] ∧ (ok = true → plO ws a = some (plN a l) ∧ l.length = (Yb ws a a.length).length) ∧ (ok = false → plO ws a = none) := by
  unfold leV plO
  by_cases hf : Yp (Yb ws a a.length) 0#64 = true
  · rw [if_pos ⟨h, hf⟩, if_pos hf]
    refine ⟨_, true, rfl, fun _ => ⟨rfl, ?_⟩, fun e => (by cases e)⟩
    have := (lst_ok (fullB_iff.1 hf)).len
    rwa [Ye] at this
  · rw [if_neg (fun e => hf e.2), if_neg hf]
    exact ⟨[], false, rfl, fun e => (by cases e), fun _ => rfl⟩
theorem search_0 {x : SW} (p : Pb) (hp : PbL p) (g : Go.V.Good p) (H : Zf) (a : List Nat) (ha : Pat a) (hl : a.length = p.who.length) : F (psys x) 131 [.agg (pbB p), fzN a] H fun v G => v = leT (srF (wsP p) p.rules 0 a) ∧ G = H := by
 have h1 := hp.w
 have g1 := g.n12
 have hz := @Yy a a.length
 have hbl := @YB (wsP p) a a.length
 refine Zq Tryd.func131 rfl u73 rfl ?_
 refine Zd (Za ?_)
 refine Lo u73 (ZJ rfl rfl rfl) ?_
 refine Lo u73 (Zg (VVal.slice none 0 0 true 0) (.inr rfl) rfl) ?_
 refine Lo u73 (Zg (VVal.bool false) (.inr rfl) rfl) ?_
 refine Ze (Zc (Zd (Zd ?_)))
 refine Yu (Gh.freezePtrL (cs := pbB p) 2 0 rfl rfl rfl) ?_
 refine Za ?_
 refine Lo u73 (W6j rfl rfl rfl rfl rfl) ?_
 refine Lo u73 (Zb (.inl rfl) rfl) ?_
 refine Zp rfl rfl rfl (by exact early_spec _ p hp a) ?_
 rintro _ _ ⟨rfl, rfl⟩
 refine Le u73 ?_
 refine Lo u73 (rfl) ?_
 refine Ze (Zc ?_)
 refine Zk _ rfl (fun hc1 => ?_) (fun hc1 => ?_)
 ·try simp only [qB, qN] at hc1
  refine Zd (Za ?_)
  refine Lo u73 (Zg (VVal.slice none 0 0 true 0) (.inr rfl) rfl) ?_
  refine Lo u73 (Zg (VVal.bool false) (.inr rfl) rfl) ?_
  refine Ze (Zc ?_)
  refine Yu (Gh.freezeNil 4 (es' := 1) rfl rfl) ?_
  refine Zl (Zm ?_)
  refine W6k (.inr rfl) (Z8 rfl rfl rfl) ?_
  exact W6l
 ·try simp only [qB, qN] at hc1
  refine Zj (Zc (Zd (Zd ?_)))
  have hey : erlA (wsP p).length p.rules a = true := by rw [wsP_len]; assumption
  refine Za ?_
  refine Lo u73 (Zb (.inl rfl) rfl) ?_
  refine Lo u73 (rfl) ?_
  refine Lo u73 (rfl) ?_
  refine Lo u73 (W4l rfl rfl rfl rfl) ?_
  refine Lo u73 (rfl) ?_
  refine Lo u73 (v_is true rfl (by rw [hl]; simp)) ?_
  refine Ze (Zc ?_)
  refine ZP rfl rfl ?_
  refine Zd (Za ?_)
  refine Lo u73 (W6j rfl rfl rfl rfl rfl) ?_
  refine Lo u73 (Zb (.inl rfl) rfl) ?_
  refine Zp rfl rfl rfl (by exact Rows_spec _ p g a ha (by omega)) ?_
  rintro _ _ ⟨rfl, rfl⟩
  refine Le u73 ?_
  refine Zp rfl rfl rfl (by exact refLeast_spec _ (Yb (wsP p) a a.length) (by omega)) ?_
  rintro v _ ⟨hv, rfl⟩; obtain ⟨l, ok, he, h5, h6⟩ := leV_o (ws := wsP p) (a := a) (by omega); rw [he] at hv; subst hv
  refine Le u73 ?_
  refine Lo u73 (Zb (.inl rfl) rfl) ?_
  refine Lo u73 (rfl) ?_
  refine Lo u73 (rfl) ?_
  refine Lo u73 (Zb (.inr rfl) rfl) ?_
  refine Lo u73 (Zb (.inr rfl) rfl) ?_
  refine Ze (Zc (Zd (Zd (Za ?_))))
  refine Lo u73 (Zb (.inl rfl) rfl) ?_
  refine Lo u73 (rfl) ?_
  refine Ze (Zc ?_)
  refine Zk _ rfl (fun hc2 => ?_) (fun hc2 => ?_)
  ·try simp only [qB, qN] at hc2
   refine Zd (Za ?_)
   refine Lo u73 (Zg (VVal.slice none 0 0 true 0) (.inr rfl) rfl) ?_
   refine Lo u73 (Zg (VVal.bool false) (.inr rfl) rfl) ?_
   refine Ze (Zc ?_)
   refine Yu (Gh.freezeNil 4 (es' := 1) rfl rfl) ?_
   refine Zl (Zm (Zm ?_))
   refine W6k (.inr rfl) (Z8 rfl rfl rfl) ?_
   exact W6l
  ·try simp only [qB, qN] at hc2
   refine Zj (Zc (Zd ?_))
   have hok : ok = true := by assumption
   obtain ⟨h7, h8⟩ := h5 hok
   refine Za ?_
   refine Lo u73 (Zb (.inl rfl) rfl) ?_
   refine Lo u73 (rfl) ?_
   refine Lo u73 (YF rfl rfl rfl rfl rfl (by decide) ⟨by omega, Int.le_refl _, by show (a.length : Int) * (8 : Nat) ≤ _; omega, by omega⟩) ?_
   refine Lo u73 (Zb (.inr rfl) rfl) ?_
   refine Ze (Zc (Zd (Zd (Za ?_))))
   refine Lo u73 (Zg (VVal.int .i64 0) (.inr rfl) rfl) ?_
   refine Ze (Zc (Zi ?_))
   refine Zt (mk 73 9444732965739290426557) (env' := u73) rfl ?_
   refine Zy (fun (k : Nat) => a.length - k) (fun (k : Nat) => [(9, iI (k : Nat))]) (fun (k : Nat) G => (k ≤ a.length) ∧ G = H ++ [.dead, .cells (rcN (plK a l k)) true]) 0 rfl ?_ ?_
   ·refine ⟨?_, (by rw [show plK a l 0 = List.replicate a.length 0 from rfl, ← rep_rc]; rfl)⟩
    exact Nat.zero_le _
   rintro k _ ⟨hk9, rfl⟩
   refine ZM (env' := u73) rfl ?_
   refine Zd (Zd (Za ?_))
   refine Lo u73 (Zb (.inl rfl) rfl) ?_
   refine Lo u73 (Zb (.inl rfl) rfl) ?_
   refine Lo u73 (rfl) ?_
   refine Lo u73 (rfl) ?_
   refine Ze (Zc ?_)
   refine Zk _ rfl (fun hc3 => ?_) (fun hc3 => ?_)
   ·try simp only [qB, qN] at hc3
    refine Zj (Zc (Zd (Zi ?_)))
    have hlt := Pat.lt ha (Nat.le_refl a.length) (i := k) (by omega)
    refine Za ?_
    refine Lo u73 (Zb (.inl rfl) rfl) ?_
    refine Lo u73 (Zb (.inl rfl) rfl) ?_
    refine Lo u73 (Zb (.inl rfl) rfl) ?_
    refine Lo u73 (Zb (.inl rfl) rfl) ?_
    refine Lo u73 (Zb (.inl rfl) rfl) ?_
    refine Lo u73 (W18 rfl rfl rfl rfl rfl rfl rfl) ?_
    refine Lo u73 (W4l rfl rfl rfl rfl) ?_
    refine Lo u73 (W18 rfl rfl rfl rfl rfl rfl rfl) ?_
    refine Lo u73 (W4l rfl rfl rfl rfl) ?_
    refine Lo u73 (W18 rfl rfl rfl rfl rfl rfl rfl) ?_
    refine Lo u73 (W6o rfl rfl rfl rfl rfl rfl rfl) ?_
    refine Ze (Zs (Zc (Za ?_)))
    refine Lo u73 (Zb (.inl rfl) rfl) ?_
    refine Lo u73 (W14 rfl rfl rfl) ?_
    refine Lo u73 (Zb (.inr rfl) rfl) ?_
    refine Ze ?_
    refine Zu (mk 73 9444732965739290426557) (env' := u73) rfl ⟨k + 1, ?_, rfl, ?_⟩
    ·first | omega | (simp only []; omega)
    ·exact ⟨by omega, by rw [plK_step (by omega)]⟩
   ·try simp only [qB, qN] at hc3
    refine ZB (ZD (Zv (ZA (Zc (Zd (Za ?_))))))
    refine Lo u73 (Zb (.inl rfl) rfl) ?_
    refine Lo u73 (Zb (.inr rfl) rfl) ?_
    refine Lo u73 (Zg (VVal.bool true) (.inr rfl) rfl) ?_
    refine Ze (Zc ?_)
    obtain rfl : k = a.length := by omega
    rw [plK_all]
    refine Yu (Gh.freezeL (l := rcN (plN a l)) 4 1 rfl rfl (Yq (by rw [List.length_map, plN_len]; rfl)) (Nat.le_refl _) rfl) ?_
    refine Zl (Zm ?_)
    refine W6k (.inr rfl) (Z8 rfl rfl rfl) ?_
    exact W6l
theorem search_s {x : SW} (p : Pb) (hp : PbL p) (g : Go.V.Good p) (M : Nat) (ih : ∀ (H : Zf) (a : List Nat), Pat a → a.length + M = p.who.length → F (psys x) 131 [.agg (pbB p), fzN a] H (fun v G => v = leT (srF (wsP p) p.rules M a) ∧ G = H)) (H : Zf) (a : List Nat) (ha : Pat a) (hl : a.length + (M + 1) = p.who.length) : F (psys x) 131 [.agg (pbB p), fzN a] H fun v G => v = leT (srF (wsP p) p.rules (M + 1) a) ∧ G = H := by
 have h1 := hp.w
 have g1 := g.n12
 have hz := @Yy a a.length
 have hbl := @YB (wsP p) a a.length
 refine Zq Tryd.func131 rfl u73 rfl ?_
 refine Zd (Za ?_)
 refine Lo u73 (ZJ rfl rfl rfl) ?_
 refine Lo u73 (Zg (VVal.slice none 0 0 true 0) (.inr rfl) rfl) ?_
 refine Lo u73 (Zg (VVal.bool false) (.inr rfl) rfl) ?_
 refine Ze (Zc (Zd (Zd ?_)))
 refine Yu (Gh.freezePtrL (cs := pbB p) 2 0 rfl rfl rfl) ?_
 refine Za ?_
 refine Lo u73 (W6j rfl rfl rfl rfl rfl) ?_
 refine Lo u73 (Zb (.inl rfl) rfl) ?_
 refine Zp rfl rfl rfl (by exact early_spec _ p hp a) ?_
 rintro _ _ ⟨rfl, rfl⟩
 refine Le u73 ?_
 refine Lo u73 (rfl) ?_
 refine Ze (Zc ?_)
 refine Zk _ rfl (fun hc1 => ?_) (fun hc1 => ?_)
 ·try simp only [qB, qN] at hc1
  refine Zd (Za ?_)
  refine Lo u73 (Zg (VVal.slice none 0 0 true 0) (.inr rfl) rfl) ?_
  refine Lo u73 (Zg (VVal.bool false) (.inr rfl) rfl) ?_
  refine Ze (Zc ?_)
  refine Yu (Gh.freezeNil 4 (es' := 1) rfl rfl) ?_
  refine Zl (Zm ?_)
  refine W6q (.inr rfl) (Z8 rfl rfl rfl) ?_
  exact W6r
 ·try simp only [qB, qN] at hc1
  refine Zj (Zc (Zd (Zd ?_)))
  have hey : erlA (wsP p).length p.rules a = true := by rw [wsP_len]; assumption
  refine Za ?_
  refine Lo u73 (Zb (.inl rfl) rfl) ?_
  refine Lo u73 (rfl) ?_
  refine Lo u73 (rfl) ?_
  refine Lo u73 (W4l rfl rfl rfl rfl) ?_
  refine Lo u73 (rfl) ?_
  refine Lo u73 (v_is false rfl (by simp; omega)) ?_
  refine Ze (Zc ?_)
  refine Yi rfl rfl ?_
  refine Zj (Zc (Zd (Zd (Za ?_))))
  refine Lo u73 (Zg (VVal.int .i64 0) (.inr rfl) rfl) ?_
  refine Ze (Zc (Zi ?_))
  refine Zt (mk 73 9444732965739290426361) (env' := u73) rfl ?_
  refine Zy (fun (b : Nat) => szP a a.length + 1 - b) (fun (b : Nat) => [(10, iI (b : Nat))]) (fun (b : Nat) G => (b ≤ szP a a.length + 1 ∧ srR (wsP p) p.rules M a 0 = srR (wsP p) p.rules M a b) ∧ ∃ X, G = H ++ X) 0 rfl ?_ ?_
  ·refine ⟨?_, ⟨_, rfl⟩⟩
   exact ⟨Nat.zero_le _, rfl⟩
  rintro b _ ⟨⟨hb, hsr⟩, ⟨X, rfl⟩⟩
  refine ZM (env' := u73) rfl ?_
  refine Zd (Zd (Za ?_))
  refine Lo u73 (Zb (.inl rfl) rfl) ?_
  refine Lo u73 (Zb (.inl rfl) rfl) ?_
  refine Zp rfl rfl rfl (by exact Size_spec _ a ha (by omega)) ?_
  rintro _ _ ⟨rfl, rfl⟩
  refine Le u73 ?_
  refine Lo u73 (rfl) ?_
  refine Ze (Zc ?_)
  refine Zk _ rfl (fun hc2 => ?_) (fun hc2 => ?_)
  ·try simp only [qB, qN] at hc2
   refine Zj (Zc (Zd (Zi (Zd (Za ?_)))))
   refine Lo u73 (Zg (VVal.slice none 0 0 true 0) (.inr rfl) rfl) ?_
   refine Ze (Zc (Zd (Za ?_)))
   refine Lo u73 (Zb (.inl rfl) rfl) ?_
   refine Lo u73 (Zb (.inl rfl) rfl) ?_
   refine L_opX rfl rfl (v_cpN rfl rfl rfl rfl rfl rfl rfl rfl (by show a.length * 8 ≤ _ ∧ _; omega)) ?_
   rintro w _ ⟨Z, rfl, hcp⟩
   refine Le u73 ?_
   refine Lo u73 (Zb (.inr rfl) rfl) ?_
   refine Ze (Zc (Zd ?_))
   refine B_drawP #[0, 0, 0, 4, 14, 31, 63, 127, 127, 255, 1023] XH7 ?_
   refine P_seg [0, 1, 2, 3, 4] (bef := #[0, 0, 0, 4, 14, 31, 63, 127, 127, 255, 1023]) XH7 XH7 XH7 ?_
   refine Yn (env' := u73) (x := .look _ _) rfl rfl rfl (W6j rfl rfl rfl rfl rfl) rfl rfl rfl ?_
   refine Oo u73 .calm rfl (Zb (.inl rfl) rfl) ?_
   refine Oo u73 .calm rfl (Zb (.inl rfl) rfl) ?_
   refine Oo u73 .grow rfl (Zz rfl rfl (by decide) rfl) ?_
   refine O_opXI (fun _ G => .turn _ G) rfl rfl rfl (v_cpApp rfl rfl rfl rfl rfl rfl rfl rfl hcp (by show (a.length + 1) * 8 ≤ _ ∧ _; omega)) (fun _ _ => rfl) ?_
   rintro _ _ ⟨Z2, i, rfl, rfl, hZ2⟩
   refine O_env (env' := u73) rfl ?_
   refine ZU [_] (by rfl) (And.intro (And.intro (W6j rfl rfl rfl rfl rfl) (W6j rfl rfl rfl rfl rfl)) trivial) ?_
   refine P_call 5 (bef := #[0, 0, 0, 4, 14, 31, 63, 127, 127, 255, 1023]) XH7 XH7 rfl rfl rfl rfl (by exact search_in hZ2 (ih _ (a ++ [b]) (Pat_snoc ha (by omega)) (by simp; omega)) rfl rfl) ?_
   rintro v _ ⟨hv, rfl⟩; obtain ⟨l, ok, he, h5, h6⟩ := leT_eq (srF (wsP p) p.rules M (a ++ [b])); rw [he] at hv; subst hv
   refine P_env (env' := u73) rfl ?_
   refine P_seg [6, 7, 8, 9, 10] (bef := #[0, 0, 0, 4, 14, 31, 63, 127, 127, 255, 1023]) XH7 XH7 XH7 ?_
   refine Oo u73 .calm rfl (Zb (.inl rfl) rfl) ?_
   refine Oo u73 .calm rfl (rfl) ?_
   refine Oo u73 .calm rfl (rfl) ?_
   refine Oo u73 .calm rfl (Zb (.inr rfl) rfl) ?_
   refine Oo u73 .calm rfl (Zb (.inr rfl) rfl) ?_
   refine ZU [] XH7 (trivial) ?_
   refine P_end XH7 ?_
   refine Zc (Zd (Za ?_))
   refine Lo u73 (Zb (.inl rfl) rfl) ?_
   refine Ze (Zc ?_)
   refine Zk _ rfl (fun hc3 => ?_) (fun hc3 => ?_)
   ·try simp only [qB, qN] at hc3
    have hok : ok = true := by assumption
    subst hok
    refine Zd (Za ?_)
    refine Lo u73 (Zb (.inl rfl) rfl) ?_
    refine Lo u73 (Zb (.inr rfl) rfl) ?_
    refine Lo u73 (Zg (VVal.bool true) (.inr rfl) rfl) ?_
    refine Ze (Zc (Zl (ZF (Zm (Yf (ZF (Zm ?_)))))))
    refine W6q (.inr rfl) (Z8 rfl rfl rfl) ?_
    exact W6r
   ·try simp only [qB, qN] at hc3
    have hok : ok = false := by assumption
    subst hok
    refine Zj (Zs (Zc (Za ?_)))
    refine Lo u73 (Zb (.inl rfl) rfl) ?_
    refine Lo u73 (W14 rfl rfl rfl) ?_
    refine Lo u73 (Zb (.inr rfl) rfl) ?_
    refine Ze ?_
    refine Zu (mk 73 9444732965739290426361) (env' := u73) rfl ⟨b + 1, ?_, rfl, ?_⟩
    ·first | omega | (simp only []; omega)
    ·exact ⟨⟨by omega, hsr.trans (srR_no (by omega) (h6 rfl).2)⟩, _, rfl⟩
  ·try simp only [qB, qN] at hc2
   refine ZB (ZD (Zv (ZA (Zc (Zd (Za ?_))))))
   refine Lo u73 (Zg (VVal.slice none 0 0 true 0) (.inr rfl) rfl) ?_
   refine Lo u73 (Zg (VVal.bool false) (.inr rfl) rfl) ?_
   refine Ze (Zc ?_)
   refine Yu (Gh.freezeNil 4 (es' := 1) rfl rfl) ?_
   refine Zl ?_
   refine W6q (.inr rfl) (Z8 rfl rfl rfl) ?_
   exact W6r
theorem search_spec {x : SW} (p : Pb) (hp : PbL p) (g : Go.V.Good p) : ∀ (M : Nat) (H : Zf) (a : List Nat), Pat a → a.length + M = p.who.length → F (psys x) 131 [.agg (pbB p), fzN a] H (fun v G => v = leT (srF (wsP p) p.rules M a) ∧ G = H)
  | 0, H, a, ha, hl => search_0 p hp g H a ha hl
  | M + 1, H, a, ha, hl => search_s p hp g M (fun H a b c => search_spec p hp g M H a b c) H a ha hl
theorem search_top {x : SW} (p : Pb) (hp : PbL p) (g : Go.V.Good p) (H : Zf) : F (psys x) 131 [.agg (pbB p), niS] H (fun v G => ∃ l ok, v = .tuple [fzN l, .bool ok] ∧ leT (leA p) = .tuple [fzN l, .bool ok] ∧ G = H) := by
  refine F.pre (Gh.freezeNil (vs' := [.agg (pbB p), fzN []]) 1 rfl rfl) ?_
  refine (search_spec p hp g p.who.length H [] Pat_nil (Nat.zero_add _)).mono ?_
  rintro v G ⟨rfl, rfl⟩
  have h1 := srF_fd (u := p.users.toNat) (ws := wsP p) (rs := p.rules) fun r hr => by rw [wsP_len]; exact g.ru r hr
  have h2 : leA p = srF (wsP p) p.rules p.who.length [] := by
    unfold leA
    rw [if_pos (pck_good.2 g)]
    unfold YZ
    rw [← wsP_len, h1]
  rw [← h2]
  obtain ⟨l, ok, he, _, _⟩ := leT_eq (leA p)
  exact ⟨l, ok, he, he, rfl⟩
theorem fLeast_spec {x : SW} (H : Zf) (p : Pb) (hp : PbL p) : F (psys x) 104 [.agg (pbB p)] H fun v G => v = leT (leA p) ∧ G = H := by
 refine Zq Tryd.func104 rfl u11 rfl ?_
 refine Zd (Za ?_)
 refine Lo u11 (ZJ rfl rfl rfl) ?_
 refine Lo u11 (Zg (VVal.slice none 0 0 true 0) (.inr rfl) rfl) ?_
 refine Lo u11 (Zg (VVal.bool false) (.inr rfl) rfl) ?_
 refine Ze (Zc (Zd (Zd ?_)))
 refine Yu (Gh.freezePtrL (cs := pbB p) 1 0 rfl rfl rfl) ?_
 refine Za ?_
 refine Lo u11 (W6s rfl rfl rfl rfl rfl) ?_
 refine Zp rfl rfl rfl (by exact fpCheck_spec _ _ hp) ?_
 rintro _ _ ⟨rfl, rfl⟩
 refine Le u11 ?_
 refine Lo u11 (rfl) ?_
 refine Ze (Zc ?_)
 refine Zk _ rfl (fun hc1 => ?_) (fun hc1 => ?_)
 ·try simp only [qB] at hc1
  refine Zd (Za ?_)
  refine Lo u11 (Zg (VVal.slice none 0 0 true 0) (.inr rfl) rfl) ?_
  refine Lo u11 (Zg (VVal.bool false) (.inr rfl) rfl) ?_
  refine Ze (Zc ?_)
  refine Yu (Gh.freezeNil 2 (es' := 1) rfl rfl) ?_
  refine Zl (Zm ?_)
  refine W6q (.inr rfl) (Z8 rfl rfl rfl) ?_
  exact W6t
 ·try simp only [qB] at hc1
  refine Zj (Zc (Zd ?_))
  have g : Go.V.Good p := pck_good.1 (by assumption)
  refine Za ?_
  refine Lo u11 (W6s rfl rfl rfl rfl rfl) ?_
  refine Zp rfl rfl rfl (by exact search_top p hp g _) ?_
  rintro _ _ ⟨l, ok, rfl, he, rfl⟩
  refine Le u11 ?_
  refine Lo u11 (rfl) ?_
  refine Lo u11 (rfl) ?_
  refine Lo u11 (Zb (.inr rfl) rfl) ?_
  refine Lo u11 (Zb (.inr rfl) rfl) ?_
  refine Ze (Zc (Zl ?_))
  refine W6q (.inr rfl) (Z8 rfl rfl rfl) ?_
  exact W6t
theorem fCan_spec {x : SW} (H : Zf) (p : Pb) (hp : PbL p) : F (psys x) 64 [.agg (pbB p)] H fun v G => v = .bool (leA p).isSome ∧ G = H := by
 refine Zq Tryd.func64 rfl u11 rfl ?_
 refine Zd (Za ?_)
 refine Lo u11 (ZJ rfl rfl rfl) ?_
 refine Lo u11 (Zg (VVal.bool false) (.inr rfl) rfl) ?_
 refine Ze (Zc (Zd (Za ?_)))
 refine Lo u11 (W11 rfl rfl rfl rfl rfl) ?_
 refine Zp rfl rfl rfl (by exact fLeast_spec _ p hp) ?_
 rintro v _ ⟨hv, rfl⟩; obtain ⟨l, ok, he, h1, h2⟩ := leT_eq (leA p); have hok := leT_ok he; rw [he] at hv; subst hv; subst hok
 refine Le u11 ?_
 refine Lo u11 (Zb (.inl rfl) rfl) ?_
 refine Lo u11 (rfl) ?_
 refine Lo u11 (rfl) ?_
 refine Lo u11 (Zb (.inr rfl) rfl) ?_
 refine Lo u11 (Zb (.inr rfl) rfl) ?_
 refine Ze (Zc (Zd (Za ?_)))
 refine Lo u11 (Zb (.inl rfl) rfl) ?_
 refine Lo u11 (Zb (.inr rfl) rfl) ?_
 refine Ze (Zc (Zl ?_))
 refine W10 (.inr rfl) (Zh rfl rfl) ?_
 exact ⟨rfl, rfl⟩
theorem early13_spec {x : SW} (H : Zf) (p : Pb) (hp : PbL p) (a : List Nat) : F (psys x) 94 [.agg (pbB p), fzN a] H fun v G => v = .bool (erlA p.who.length p.rules a) ∧ G = H := by
 have h1 := hp.w; have h3 := hp.r; have h4 := hp.s
 refine Zq Tryd.func94 rfl u24 rfl ?_
 refine Zd (Za ?_)
 refine Lo u24 (ZJ rfl rfl rfl) ?_
 refine Lo u24 (Zg (VVal.bool false) (.inr rfl) rfl) ?_
 refine Ze (Zc (Zd (Zd ?_)))
 refine Yu (Gh.freezePtrL (cs := pbB p) 2 0 rfl rfl rfl) ?_
 refine Za ?_
 refine Lo u24 (Zg (VVal.int .i64 0) (.inr rfl) rfl) ?_
 refine Ze (Zc (Zi ?_))
 refine Zt (mk 24 16777177) (env' := u24) rfl ?_
 refine Zy (fun (k : Nat) => p.rules.length - k) (fun (k : Nat) => [(5, iI (k : Nat))]) (fun (k : Nat) G => (k ≤ p.rules.length ∧ (p.rules.take k).all (fun r => erl r p.who.length (zI a)) = true) ∧ G = H ++ [.dead]) 0 rfl ?_ ?_
 ·refine ⟨?_, rfl⟩
  exact ⟨Nat.zero_le _, rfl⟩
 rintro k _ ⟨⟨hk, hall⟩, rfl⟩
 refine ZM (env' := u24) rfl ?_
 refine Zd (Zd (Za ?_))
 refine Lo u24 (Zb (.inl rfl) rfl) ?_
 refine Lo u24 (rfl) ?_
 refine Lo u24 (W2r rfl rfl rfl rfl) ?_
 refine Lo u24 (rfl) ?_
 refine Lo u24 (rfl) ?_
 refine Ze (Zc ?_)
 refine Zk _ rfl (fun hc1 => ?_) (fun hc1 => ?_)
 ·try simp only [qB, qN] at hc1
  refine Zj (Zc (Zd (Zi (Zd ?_))))
  refine ZS [0, 1, 2, 3, 4, 5, 6, 7, 8, 9, 10] #[0, 1, 0, 7, 15, 0, 32, 96, 0, 511, 1023] XH7 XH7 XH7 ?_
  refine Oo u24 .calm rfl (rfl) ?_
  refine Oo u24 .look rfl (W2r rfl rfl rfl rfl) ?_
  refine Oo u24 .calm rfl (Zb (.inl rfl) rfl) ?_
  refine Oo u24 .calm rfl (W18 rfl rfl rfl rfl rfl rfl rfl) ?_
  refine Oo u24 .look rfl (W2p rfl rfl rfl rfl rfl) ?_
  refine Oo u24 .calm rfl (rfl) ?_
  refine Oo u24 .look rfl (W2r rfl rfl rfl rfl) ?_
  refine Oo u24 .look rfl (rfl) ?_
  refine Oo u24 .calm rfl (Zb (.inl rfl) rfl) ?_
  refine Yj (env' := u24) rfl rfl rfl rfl rfl (by exact fEarlyN _ _ _ _ (h4 _ (Y5 (by omega)))) XH9 rfl rfl ?_
  refine Oo u24 .calm rfl (rfl) ?_
  refine ZU [] XH7 (trivial) ?_
  refine Zc ?_
  refine Zk _ rfl (fun hc2 => ?_) (fun hc2 => ?_)
  ·try simp only [qB, qN] at hc2
   refine Zd (Za ?_)
   refine Lo u24 (Zg (VVal.bool false) (.inr rfl) rfl) ?_
   refine Ze (Zc (Zl (ZF (Zm (Yf (ZF (Zm ?_)))))))
   refine W10 (.inr rfl) (Zh rfl rfl) ?_
   exact W5x
  ·try simp only [qB, qN] at hc2
   refine Zj (Zs (Zc (Za ?_)))
   refine Lo u24 (Zb (.inl rfl) rfl) ?_
   refine Lo u24 (W14 rfl rfl rfl) ?_
   refine Lo u24 (Zb (.inr rfl) rfl) ?_
   refine Ze ?_
   refine Zu (mk 24 16777177) (env' := u24) rfl ⟨k + 1, ?_, rfl, ?_⟩
   ·first | omega | (simp only []; omega)
   ·exact ⟨⟨by omega, all_step (by omega) hall (by assumption)⟩, rfl⟩
 ·try simp only [qB, qN] at hc1
  refine ZB (ZD (Zv (ZA (Zc (Zd (Za ?_))))))
  refine Lo u24 (Zg (VVal.bool true) (.inr rfl) rfl) ?_
  refine Ze (Zc (Zl ?_))
  refine W10 (.inr rfl) (Zh rfl rfl) ?_
  exact W5x
def sumP (p : Pb) : Nat := ((ptP p).map (cnA (wsP p))).sum
abbrev u46 {a0 a1 a2 a3 a4 a5 a6 a7 a8 a9 a10 a11 a12 a13 a14 a15 a16 a17 a18 a19 a20 a21 a22 a23 a24 a25 a26 a27 a28 a29 a30 a31 a32 a33 a34 a35 a36 a37 a38 a39 a40 a41 a42 a43 a44 a45 : VVal} : VEnv := a0 :: a1 :: a2 :: a3 :: a4 :: a5 :: a6 :: a7 :: a8 :: a9 :: a10 :: a11 :: a12 :: a13 :: a14 :: a15 :: a16 :: a17 :: a18 :: a19 :: a20 :: a21 :: a22 :: a23 :: a24 :: a25 :: a26 :: a27 :: a28 :: a29 :: a30 :: a31 :: a32 :: a33 :: a34 :: a35 :: a36 :: a37 :: a38 :: a39 :: a40 :: a41 :: a42 :: a43 :: a44 :: a45 :: []
theorem W74 {P : Prop} (h : P := by first | exact ⟨[], false, rfl, by rw [srF_e (by rw [wsP_len]; assumption)]; rfl, rfl⟩ | exact ⟨l, ok, rfl, by rw [srF_0 hey]; cases ok with | true => rw [(h5 rfl).1]; rfl | false => rw [h6 rfl]; rfl, rfl⟩) : P := h
theorem W76 {P : Prop} (h : P := by first | exact ⟨l, true, rfl, by rw [srF_R hey, hsr, srR_yes (by omega) hz9]; rfl, rfl⟩ | exact ⟨[], false, rfl, by rw [srF_R hey, hsr, srR_end (by omega)]; rfl, rfl⟩ | exact ⟨[], false, rfl, by rw [srF_e (by rw [wsP_len]; assumption)]; rfl, rfl⟩) : P := h
theorem none_of {α : Type} {o : Option α} (h : false = o.isSome) : o = none := by cases o with | none => rfl | some v => cases h
theorem some_of {α : Type} {o : Option α} (h : true = o.isSome) : ∃ l, o = some l := by cases o with | none => cases h | some v => exact ⟨v, rfl⟩
theorem first_in {x : SW} {H Z : Zf} {pv : VVal} {a : List Nat} {b i n c : Nat} {o : Bool} (hZ : Z[i]? = some (.cells (rcN (a ++ [b])) true)) (h : F (psys x) 112 [pv, fzN (a ++ [b])] (H ++ Z.set i .dead) fun v G => ∃ l ok, v = .tuple [fzN l, .bool ok] ∧ ok = o ∧ G = H ++ Z.set i .dead) (hn : n = a.length + 1) (hc : c = n) : F (psys x) 112 [pv, .slice (some (H.length + i, 0)) n c false 1] (H ++ Z) fun v G => ∃ l ok, v = .tuple [fzN l, .bool ok] ∧ ok = o ∧ G = H ++ Z.set i .dead := by
  subst hc; subst hn
  exact F.pre (Gh.freezeL (H := H) (l := rcN (a ++ [b])) (vs' := [pv, fzN (a ++ [b])]) 1 i rfl hZ (Yq (by simp)) (Nat.le_refl _) (by simp)) h
theorem first_0 {x : SW} (p : Pb) (hp : PbL p) (g : Go.V.Good (noR p)) (H : Zf) (a : List Nat) (ha : Pat a) (hl : a.length = p.who.length) : F (psys x) 112 [.agg (pbB p), fzN a] H fun v G => ∃ l ok, v = .tuple [fzN l, .bool ok] ∧ ok = (srF (wsP p) p.rules 0 a).isSome ∧ G = H := by
 have h1 := hp.w
 have g1 := noR_n12 g
 have hz := @Yy a a.length
 have hbl := @YB (wsP p) a a.length
 refine Zq Tryd.func112 rfl u46 rfl ?_
 refine Zd (Za ?_)
 refine Lo u46 (ZJ rfl rfl rfl) ?_
 refine Lo u46 (Zg (VVal.slice none 0 0 true 0) (.inr rfl) rfl) ?_
 refine Lo u46 (Zg (VVal.bool false) (.inr rfl) rfl) ?_
 refine Ze (Zc (Zd (Zd ?_)))
 refine Yu (Gh.freezePtrL (cs := pbB p) 2 0 rfl rfl rfl) ?_
 refine Za ?_
 refine Lo u46 (W6j rfl rfl rfl rfl rfl) ?_
 refine Lo u46 (Zb (.inl rfl) rfl) ?_
 refine Zp rfl rfl rfl (by exact early13_spec _ p hp a) ?_
 rintro _ _ ⟨rfl, rfl⟩
 refine Le u46 ?_
 refine Lo u46 (rfl) ?_
 refine Ze (Zc ?_)
 refine Zk _ rfl (fun hc1 => ?_) (fun hc1 => ?_)
 ·try simp only [qB, qN] at hc1
  refine Zd (Za ?_)
  refine Lo u46 (Zg (VVal.slice none 0 0 true 0) (.inr rfl) rfl) ?_
  refine Lo u46 (Zg (VVal.bool false) (.inr rfl) rfl) ?_
  refine Ze (Zc ?_)
  refine Yu (Gh.freezeNil 4 (es' := 1) rfl rfl) ?_
  refine Zl (Zm ?_)
  refine W6q (.inr rfl) (Z8 rfl rfl rfl) ?_
  exact W74
 ·try simp only [qB, qN] at hc1
  refine Zj (Zc (Zd (Zd ?_)))
  have hey : erlA (wsP p).length p.rules a = true := by rw [wsP_len]; assumption
  refine Za ?_
  refine Lo u46 (Zb (.inl rfl) rfl) ?_
  refine Lo u46 (rfl) ?_
  refine Lo u46 (rfl) ?_
  refine Lo u46 (W4l rfl rfl rfl rfl) ?_
  refine Lo u46 (rfl) ?_
  refine Lo u46 (v_is true rfl (by rw [hl]; simp)) ?_
  refine Ze (Zc ?_)
  refine ZP rfl rfl ?_
  refine Zd (Za ?_)
  refine Lo u46 (W6j rfl rfl rfl rfl rfl) ?_
  refine Lo u46 (Zb (.inl rfl) rfl) ?_
  refine Zp rfl rfl rfl (by exact Rows_R _ p g a ha (by omega)) ?_
  rintro _ _ ⟨rfl, rfl⟩
  refine Le u46 ?_
  refine Zp rfl rfl rfl (by exact refLeast_spec _ (Yb (wsP p) a a.length) (by omega)) ?_
  rintro v _ ⟨hv, rfl⟩; obtain ⟨l, ok, he, h5, h6⟩ := leV_o (ws := wsP p) (a := a) (by omega); rw [he] at hv; subst hv
  refine Le u46 ?_
  refine Lo u46 (rfl) ?_
  refine Lo u46 (rfl) ?_
  refine Lo u46 (Zb (.inr rfl) rfl) ?_
  refine Lo u46 (Zb (.inr rfl) rfl) ?_
  refine Ze (Zc (Zl (Zm ?_)))
  refine W6q (.inr rfl) (Z8 rfl rfl rfl) ?_
  exact W74
theorem first_s {x : SW} (p : Pb) (hp : PbL p) (g : Go.V.Good (noR p)) (M : Nat) (ih : ∀ (H : Zf) (a : List Nat), Pat a → a.length + M = p.who.length → F (psys x) 112 [.agg (pbB p), fzN a] H (fun v G => ∃ l ok, v = .tuple [fzN l, .bool ok] ∧ ok = (srF (wsP p) p.rules M a).isSome ∧ G = H)) (H : Zf) (a : List Nat) (ha : Pat a) (hl : a.length + (M + 1) = p.who.length) : F (psys x) 112 [.agg (pbB p), fzN a] H fun v G => ∃ l ok, v = .tuple [fzN l, .bool ok] ∧ ok = (srF (wsP p) p.rules (M + 1) a).isSome ∧ G = H := by
 have h1 := hp.w
 have g1 := noR_n12 g
 have hz := @Yy a a.length
 have hbl := @YB (wsP p) a a.length
 refine Zq Tryd.func112 rfl u46 rfl ?_
 refine Zd (Za ?_)
 refine Lo u46 (ZJ rfl rfl rfl) ?_
 refine Lo u46 (Zg (VVal.slice none 0 0 true 0) (.inr rfl) rfl) ?_
 refine Lo u46 (Zg (VVal.bool false) (.inr rfl) rfl) ?_
 refine Ze (Zc (Zd (Zd ?_)))
 refine Yu (Gh.freezePtrL (cs := pbB p) 2 0 rfl rfl rfl) ?_
 refine Za ?_
 refine Lo u46 (W6j rfl rfl rfl rfl rfl) ?_
 refine Lo u46 (Zb (.inl rfl) rfl) ?_
 refine Zp rfl rfl rfl (by exact early13_spec _ p hp a) ?_
 rintro _ _ ⟨rfl, rfl⟩
 refine Le u46 ?_
 refine Lo u46 (rfl) ?_
 refine Ze (Zc ?_)
 refine Zk _ rfl (fun hc1 => ?_) (fun hc1 => ?_)
 ·try simp only [qB, qN] at hc1
  refine Zd (Za ?_)
  refine Lo u46 (Zg (VVal.slice none 0 0 true 0) (.inr rfl) rfl) ?_
  refine Lo u46 (Zg (VVal.bool false) (.inr rfl) rfl) ?_
  refine Ze (Zc ?_)
  refine Yu (Gh.freezeNil 4 (es' := 1) rfl rfl) ?_
  refine Zl (Zm ?_)
  refine W6q (.inr rfl) (Z8 rfl rfl rfl) ?_
  exact W76
 ·try simp only [qB, qN] at hc1
  refine Zj (Zc (Zd (Zd ?_)))
  have hey : erlA (wsP p).length p.rules a = true := by rw [wsP_len]; assumption
  refine Za ?_
  refine Lo u46 (Zb (.inl rfl) rfl) ?_
  refine Lo u46 (rfl) ?_
  refine Lo u46 (rfl) ?_
  refine Lo u46 (W4l rfl rfl rfl rfl) ?_
  refine Lo u46 (rfl) ?_
  refine Lo u46 (v_is false rfl (by simp; omega)) ?_
  refine Ze (Zc ?_)
  refine Yi rfl rfl ?_
  refine Zj (Zc (Zd (Zd (Za ?_))))
  refine Lo u46 (Zg (VVal.int .i64 0) (.inr rfl) rfl) ?_
  refine Ze (Zc (Zi ?_))
  refine Zt (mk 46 70368744177593) (env' := u46) rfl ?_
  refine Zy (fun (b : Nat) => szP a a.length + 1 - b) (fun (b : Nat) => [(6, iI (b : Nat))]) (fun (b : Nat) G => (b ≤ szP a a.length + 1 ∧ srR (wsP p) p.rules M a 0 = srR (wsP p) p.rules M a b) ∧ ∃ X, G = H ++ X) 0 rfl ?_ ?_
  ·refine ⟨?_, ⟨_, rfl⟩⟩
   exact ⟨Nat.zero_le _, rfl⟩
  rintro b _ ⟨⟨hb, hsr⟩, ⟨X, rfl⟩⟩
  refine ZM (env' := u46) rfl ?_
  refine Zd (Zd (Za ?_))
  refine Lo u46 (Zb (.inl rfl) rfl) ?_
  refine Lo u46 (Zb (.inl rfl) rfl) ?_
  refine Zp rfl rfl rfl (by exact Size_spec _ a ha (by omega)) ?_
  rintro _ _ ⟨rfl, rfl⟩
  refine Le u46 ?_
  refine Lo u46 (rfl) ?_
  refine Ze (Zc ?_)
  refine Zk _ rfl (fun hc2 => ?_) (fun hc2 => ?_)
  ·try simp only [qB, qN] at hc2
   refine Zj (Zc (Zd (Zi (Zd (Za ?_)))))
   refine Lo u46 (Zg (VVal.slice none 0 0 true 0) (.inr rfl) rfl) ?_
   refine Ze (Zc (Zd (Za ?_)))
   refine Lo u46 (Zb (.inl rfl) rfl) ?_
   refine Lo u46 (Zb (.inl rfl) rfl) ?_
   refine L_opX rfl rfl (v_cpN rfl rfl rfl rfl rfl rfl rfl rfl (by show a.length * 8 ≤ _ ∧ _; omega)) ?_
   rintro w _ ⟨Z, rfl, hcp⟩
   refine Le u46 ?_
   refine Lo u46 (Zb (.inr rfl) rfl) ?_
   refine Ze (Zc (Zd ?_))
   refine B_drawP #[0, 0, 0, 4, 14, 31, 63, 127, 127, 255, 1023] XH7 ?_
   refine P_seg [0, 1, 2, 3, 4] (bef := #[0, 0, 0, 4, 14, 31, 63, 127, 127, 255, 1023]) XH7 XH7 XH7 ?_
   refine Yn (env' := u46) (x := .look _ _) rfl rfl rfl (W6j rfl rfl rfl rfl rfl) rfl rfl rfl ?_
   refine Oo u46 .calm rfl (Zb (.inl rfl) rfl) ?_
   refine Oo u46 .calm rfl (Zb (.inl rfl) rfl) ?_
   refine Oo u46 .grow rfl (Zz rfl rfl (by decide) rfl) ?_
   refine O_opXI (fun _ G => .turn _ G) rfl rfl rfl (v_cpApp rfl rfl rfl rfl rfl rfl rfl rfl hcp (by show (a.length + 1) * 8 ≤ _ ∧ _; omega)) (fun _ _ => rfl) ?_
   rintro _ _ ⟨Z2, i, rfl, rfl, hZ2⟩
   refine O_env (env' := u46) rfl ?_
   refine ZU [_] (by rfl) (And.intro (And.intro (W6j rfl rfl rfl rfl rfl) (W6j rfl rfl rfl rfl rfl)) trivial) ?_
   refine P_call 5 (bef := #[0, 0, 0, 4, 14, 31, 63, 127, 127, 255, 1023]) XH7 XH7 rfl rfl rfl rfl (by exact first_in hZ2 (ih _ (a ++ [b]) (Pat_snoc ha (by omega)) (by simp; omega)) rfl rfl) ?_
   rintro v _ ⟨l, ok, rfl, hok, rfl⟩
   refine P_env (env' := u46) rfl ?_
   refine P_seg [6, 7, 8, 9, 10] (bef := #[0, 0, 0, 4, 14, 31, 63, 127, 127, 255, 1023]) XH7 XH7 XH7 ?_
   refine Oo u46 .calm rfl (Zb (.inl rfl) rfl) ?_
   refine Oo u46 .calm rfl (rfl) ?_
   refine Oo u46 .calm rfl (rfl) ?_
   refine Oo u46 .calm rfl (Zb (.inr rfl) rfl) ?_
   refine Oo u46 .calm rfl (Zb (.inr rfl) rfl) ?_
   refine ZU [] XH7 (trivial) ?_
   refine P_end XH7 ?_
   refine Zc (Zd (Za ?_))
   refine Lo u46 (Zb (.inl rfl) rfl) ?_
   refine Ze (Zc ?_)
   refine Zk _ rfl (fun hc3 => ?_) (fun hc3 => ?_)
   ·try simp only [qB, qN] at hc3
    have hok9 : ok = true := by assumption
    subst hok9
    obtain ⟨z9, hz9⟩ := some_of hok
    refine Zd (Za ?_)
    refine Lo u46 (Zb (.inl rfl) rfl) ?_
    refine Lo u46 (Zb (.inr rfl) rfl) ?_
    refine Lo u46 (Zg (VVal.bool true) (.inr rfl) rfl) ?_
    refine Ze (Zc (Zl (ZF (Zm (Yf (ZF (Zm ?_)))))))
    refine W6q (.inr rfl) (Z8 rfl rfl rfl) ?_
    exact W76
   ·try simp only [qB, qN] at hc3
    have hok9 : ok = false := by assumption
    subst hok9
    refine Zj (Zs (Zc (Za ?_)))
    refine Lo u46 (Zb (.inl rfl) rfl) ?_
    refine Lo u46 (W14 rfl rfl rfl) ?_
    refine Lo u46 (Zb (.inr rfl) rfl) ?_
    refine Ze ?_
    refine Zu (mk 46 70368744177593) (env' := u46) rfl ⟨b + 1, ?_, rfl, ?_⟩
    ·first | omega | (simp only []; omega)
    ·exact ⟨⟨by omega, hsr.trans (srR_no (by omega) (none_of hok))⟩, _, rfl⟩
  ·try simp only [qB, qN] at hc2
   refine ZB (ZD (Zv (ZA (Zc (Zd (Za ?_))))))
   refine Lo u46 (Zg (VVal.slice none 0 0 true 0) (.inr rfl) rfl) ?_
   refine Lo u46 (Zg (VVal.bool false) (.inr rfl) rfl) ?_
   refine Ze (Zc ?_)
   refine Yu (Gh.freezeNil 4 (es' := 1) rfl rfl) ?_
   refine Zl ?_
   refine W6q (.inr rfl) (Z8 rfl rfl rfl) ?_
   exact W76
theorem first_spec {x : SW} (p : Pb) (hp : PbL p) (g : Go.V.Good (noR p)) : ∀ (M : Nat) (H : Zf) (a : List Nat), Pat a → a.length + M = p.who.length → F (psys x) 112 [.agg (pbB p), fzN a] H (fun v G => ∃ l ok, v = .tuple [fzN l, .bool ok] ∧ ok = (srF (wsP p) p.rules M a).isSome ∧ G = H)
  | 0, H, a, ha, hl => first_0 p hp g H a ha hl
  | M + 1, H, a, ha, hl => first_s p hp g M (fun H a b c => first_spec p hp g M H a b c) H a ha hl
def canB (p : Pb) : Bool := (srF (wsP p) p.rules p.who.length []).isSome
theorem first_top {x : SW} (p : Pb) (hp : PbL p) (g : Go.V.Good (noR p)) (H : Zf) : F (psys x) 112 [.agg (pbB p), niS] H (fun v G => ∃ l ok, v = .tuple [fzN l, .bool ok] ∧ ok = canB p ∧ G = H) := by
  refine F.pre (Gh.freezeNil (vs' := [.agg (pbB p), fzN []]) 1 rfl rfl) ?_
  exact first_spec p hp g p.who.length H [] Pat_nil (Nat.zero_add _)
theorem can13_spec {x : SW} (H : Zf) (p : Pb) (hp : PbL p) (g : Go.V.Good (noR p)) : F (psys x) 71 [.agg (pbB p)] H fun v G => v = .bool (canB p) ∧ G = H := by
 refine Zq Tryd.func71 rfl u11 rfl ?_
 refine Zd (Za ?_)
 refine Lo u11 (ZJ rfl rfl rfl) ?_
 refine Lo u11 (Zg (VVal.bool false) (.inr rfl) rfl) ?_
 refine Ze (Zc (Zd ?_))
 refine Yu (Gh.freezePtrL (cs := pbB p) 1 0 rfl rfl rfl) ?_
 refine Za ?_
 refine Lo u11 (W11 rfl rfl rfl rfl rfl) ?_
 refine Zp rfl rfl rfl (by exact first_top p hp g _) ?_
 rintro _ _ ⟨l, ok, rfl, rfl, rfl⟩
 refine Le u11 ?_
 refine Lo u11 (Zb (.inl rfl) rfl) ?_
 refine Lo u11 (rfl) ?_
 refine Lo u11 (rfl) ?_
 refine Lo u11 (Zb (.inr rfl) rfl) ?_
 refine Lo u11 (Zb (.inr rfl) rfl) ?_
 refine Ze (Zc (Zd (Za ?_)))
 refine Lo u11 (Zb (.inl rfl) rfl) ?_
 refine Lo u11 (Zb (.inr rfl) rfl) ?_
 refine Ze (Zc (Zl ?_))
 refine W10 (.inr rfl) (Zh rfl rfl) ?_
 exact ⟨rfl, rfl⟩
theorem W7c {P : Prop} (h : P := by first | exact ⟨by rw [(szA_E (q := p) (leA_no (by first | assumption | simp_all))).1]; rfl, rfl⟩ | exact ⟨by rw [(@szA_is (ptP p)).1, (pt0 hE (by omega)).1, (pt0 hE (by omega)).2.1, decide_eq_true hE]; rfl, rfl⟩ | exact ⟨by rw [(@szA_is (ptP p)).1, decide_eq_true hE, show (szA (ptP p)).1 = k by omega, show (szA (ptP p)).2.1 = m by omega], rfl⟩) : P := h
theorem W7g {P : Prop} (h : P := by first | exact ⟨by rw [(szA_E (q := p) (leA_no (by first | assumption | simp_all))).2]; rfl, rfl⟩ | exact ⟨by rw [(@ldA_is (ptP p)).1, (pt0 hE (by omega)).2.2, decide_eq_true hE]; rfl, rfl⟩ | exact ⟨by rw [(@ldA_is (ptP p)).1, decide_eq_true hE, show (ldA (ptP p)).1 = k by omega], rfl⟩) : P := h
theorem rck_ne {n : Nat} {r : Rul} (h : rck n r = true) : 0 < r.steps.length := by
  unfold rck at h
  rw [Bool.and_eq_true, Bool.and_eq_true] at h
  have hk := h.2.2
  unfold knd at hk
  split at hk
  · rw [decide_eq_true_eq] at hk; omega
  · split at hk
    · rw [decide_eq_true_eq] at hk; omega
    · split at hk
      · rw [decide_eq_true_eq] at hk; omega
      · cases hk
theorem rwith_any {x : SW} (H : Zf) (p : Pb) (kd k : Int) (hp : PbL p) (g : Go.V.Good p) (hn : 0 < p.who.length) : F (psys x) 72 [.agg (pbB p), iI kd, iI k] H fun v G => v = .agg (pbB (wtR p (kd, k, YD p.who.length, ()))) ∧ G = H := by
  have h1 := g.n12; have h2 := g.r32; have h3 := g.fx
  have hst : ∀ r, r ∈ p.rules → 0 < r.steps.length := fun r hr => rck_ne (g.ru r hr)
  exact rwith_R H p kd k hp (by omega) hn hst (by omega) (by omega)
theorem wtR_Lr {q : Pb} {kd k : Int} (h : PbL q) (g : Go.V.Good q) : PbL (wtR q (kd, k, YD q.who.length, ())) := ⟨h.u, h.w, h.f, by have := g.r32; show (q.rules ++ [_]).length ≤ _; rw [List.length_append]; show q.rules.length + 1 ≤ _; omega, fun r hr => by
  rcases List.mem_append.1 hr with hr | hr
  · exact h.s r hr
  · rw [List.mem_singleton] at hr; subst hr; show (YD _).length ≤ _; rw [allS_len]; exact h.w⟩
theorem canB_wt {q : Pb} {r : Rul} (g : Go.V.Good q) (hr : rck q.who.length r = true) : canB (wtR q r) = true ↔ ∃ a, a ∈ ptP q ∧ erl r q.who.length (zI a) = true := by
  have hru : ∀ x, x ∈ (wtR q r).rules → rck (wsP q).length x = true := fun x hx => by
    rw [wsP_len]
    rcases List.mem_append.1 hx with hx | hx
    · exact g.ru x hx
    · rw [List.mem_singleton] at hx; subst hx; exact hr
  have h1 := srF_fd (u := q.users.toNat) (ws := wsP q) (rs := (wtR q r).rules) hru
  unfold canB
  rw [show wsP (wtR q r) = wsP q from rfl, show (wtR q r).who.length = (wsP q).length from wsP_len.symm, h1]
  unfold fdA
  rw [Option.isSome_map, frm_find, List.find?_isSome, wsP_len]
  have key : ∀ a, a ∈ pats q.who.length [] 0 → (keptN (kpB (wsP q) (addR q.who.length (wtR q r).rules (wtR q r).rules.length)) 0 a = true ↔ Mat (Yb (wsP q) a a.length) ∧ ∀ x, x ∈ (wtR q r).rules → erl x q.who.length (zI a) = true) := fun a ha => by
    obtain ⟨z, hz, hl⟩ := pats_len ha
    rw [List.nil_append] at hz; subst hz
    have hp := pats_pat Pat_nil ha
    have := kept_iff (ws := wsP q) (rs := (wtR q r).rules) hp (by rw [wsP_len]; exact hl) hru
    rw [wsP_len] at this
    exact this
  rw [ptP_is (pck_good.2 g)]
  constructor
  · rintro ⟨a, h1, h2⟩
    obtain ⟨k1, k2⟩ := (key a h1).1 h2
    exact ⟨a, List.mem_filter.2 ⟨h1, (pt_kept g h1).2 ⟨k1, fun x hx => k2 x (List.mem_append_left _ hx)⟩⟩, k2 r (List.mem_append_right _ (by simp))⟩
  · rintro ⟨a, h, h3⟩
    obtain ⟨h1, h2⟩ := List.mem_filter.1 h
    obtain ⟨k1, k2⟩ := (pt_kept g h1).1 h2
    refine ⟨a, h1, (key a h1).2 ⟨k1, fun x hx => ?_⟩⟩
    rcases List.mem_append.1 hx with hx | hx
    · exact k2 x hx
    · rw [List.mem_singleton] at hx; subst hx; exact h3
theorem sz_bnd {q : Pb} (hE : ptP q ≠ []) (hn : 0 < q.who.length) : 1 ≤ (szA (ptP q)).1 ∧ (szA (ptP q)).1 ≤ q.who.length ∧ 1 ≤ (szA (ptP q)).2.1 ∧ (szA (ptP q)).2.1 ≤ q.who.length ∧ 1 ≤ (ldA (ptP q)).1 ∧ (ldA (ptP q)).1 ≤ 12 := by
  obtain ⟨a0, ha0⟩ := List.exists_mem_of_ne_nil _ hE
  have g := pck_good.1 (Yd ha0).1
  have g12 := g.n12
  obtain ⟨⟨⟨a, ha, ea⟩, ma⟩, ⟨b, hb, eb⟩, mb⟩ := (@szA_is (ptP q)).2 hE
  obtain ⟨⟨c, hc, ec⟩, mc⟩ := (@ldA_is (ptP q)).2 hE
  have pa := Yd ha; have pb := Yd hb; have pc := Yd hc
  have hsa := @Yy a a.length; have hsb := @Yy b b.length
  have pos : ∀ x, x ∈ ptP q → 1 ≤ szP x x.length := fun x hx => by
    have := (Yd hx).2.1.lt (Nat.le_refl x.length) (i := 0) (by have := (Yd hx).2.2.1; omega)
    omega
  have po := pos a ha; have po2 := pos b hb
  have hk1 : 1 ≤ mxB c := by
    rw [mxB_is pc.2.1]
    have h0 : c.getD 0 0 ∈ c := by rw [List.getD_eq_getElem?_getD, List.getElem?_eq_getElem (by have := pc.2.2.1; omega)]; exact List.getElem_mem _
    have h1 := oft_le.1 (Nat.le_refl (oft (zI c))) _ (zI_mem.2 h0)
    rw [cnt_zI] at h1
    have := List.count_pos_iff.2 h0
    omega
  have hk2 : mxB c ≤ 12 := by
    rw [mxB_is pc.2.1]
    refine oft_le.2 fun y _ => ?_
    have : (zI c).count y ≤ (zI c).length := List.count_le_length
    rw [zI_len] at this
    have := pc.2.2.1; omega
  have hla := pa.2.2.1; have hlb := pb.2.2.1
  exact ⟨by omega, by omega, by omega, by omega, by omega, by omega⟩
section
variable {q : Pb} (g : Go.V.Good q) (hE : ptP q ≠ []) (hn : 0 < q.who.length)
include g hE hn
theorem canB_few {k : Nat} (hk : 1 ≤ k ∧ k ≤ 100) : canB (wtR q (4, (k : Nat), YD q.who.length, ())) = decide ((szA (ptP q)).1 ≤ k) := by
  have n12 : 1 ≤ q.who.length ∧ q.who.length ≤ 12 := ⟨hn, g.n12⟩
  obtain ⟨⟨⟨a, ha, ea⟩, ma⟩, _⟩ := (@szA_is (ptP q)).2 hE
  rw [Bool.eq_iff_iff, canB_wt g (rck_few n12 (by omega)).1, decide_eq_true_eq]
  constructor
  · rintro ⟨x, hx, ex⟩
    rw [erl_few n12 (by omega) (Yd hx).2.1 (Yd hx).2.2.1, decide_eq_true_eq] at ex
    have := ma x hx; omega
  · intro h
    exact ⟨a, ha, by rw [erl_few n12 (by omega) (Yd ha).2.1 (Yd ha).2.2.1, decide_eq_true_eq]; omega⟩
theorem canB_many {k : Nat} (hk : 1 ≤ k ∧ k ≤ q.who.length) : canB (wtR q (5, (k : Nat), YD q.who.length, ())) = decide (k ≤ (szA (ptP q)).2.1) := by
  have n12 : 1 ≤ q.who.length ∧ q.who.length ≤ 12 := ⟨hn, g.n12⟩
  obtain ⟨_, ⟨a, ha, ea⟩, ma⟩ := (@szA_is (ptP q)).2 hE
  rw [Bool.eq_iff_iff, canB_wt g (rck_many n12 (by omega)), decide_eq_true_eq]
  constructor
  · rintro ⟨x, hx, ex⟩
    rw [erl_many n12 (by omega) (Yd hx).2.1 (Yd hx).2.2.1, decide_eq_true_eq] at ex
    have := ma x hx; omega
  · intro h
    exact ⟨a, ha, by rw [erl_many n12 (by omega) (Yd ha).2.1 (Yd ha).2.2.1, decide_eq_true_eq]; omega⟩
theorem canB_most {k : Nat} (hk : 1 ≤ k ∧ k ≤ 100) : canB (wtR q (3, (k : Nat), YD q.who.length, ())) = decide ((ldA (ptP q)).1 ≤ k) := by
  have n12 : 1 ≤ q.who.length ∧ q.who.length ≤ 12 := ⟨hn, g.n12⟩
  obtain ⟨⟨a, ha, ea⟩, ma⟩ := (@ldA_is (ptP q)).2 hE
  rw [Bool.eq_iff_iff, canB_wt g (rck_few n12 (by omega)).2, decide_eq_true_eq]
  constructor
  · rintro ⟨x, hx, ex⟩
    rw [erl_most n12 (by omega) (Yd hx).2.2.1, ← mxB_is (Yd hx).2.1, decide_eq_true_eq] at ex
    have := ma x hx; omega
  · intro h
    exact ⟨a, ha, by rw [erl_most n12 (by omega) (Yd ha).2.2.1, ← mxB_is (Yd ha).2.1, decide_eq_true_eq]; omega⟩
end
theorem leA_E {q : Pb} : (leA q).isSome = true ↔ ptP q ≠ [] := by
  by_cases h0 : pck q = 0
  · rw [leA_pt h0]
    constructor
    · rintro ⟨a, ha⟩ e; rw [e] at ha; cases ha
    · intro h; exact List.exists_mem_of_ne_nil _ h
  · constructor
    · intro h; exfalso; rw [show leA q = none from if_neg h0] at h; cases h
    · intro h; exfalso
      obtain ⟨a, ha⟩ := List.exists_mem_of_ne_nil _ h
      exact h0 (Yd ha).1
theorem leA_no {q : Pb} (h : (leA q).isSome = false) : ptP q = [] := by
  by_cases hE : ptP q = []
  · exact hE
  · rw [leA_E.2 hE] at h; cases h
theorem pt0 {q : Pb} (hE : ptP q ≠ []) (hn : q.who.length = 0) : (szA (ptP q)).1 = 0 ∧ (szA (ptP q)).2.1 = 0 ∧ (ldA (ptP q)).1 = 0 := by
  obtain ⟨⟨⟨a, ha, ea⟩, _⟩, ⟨b, hb, eb⟩, _⟩ := (@szA_is (ptP q)).2 hE
  obtain ⟨⟨c, hc, ec⟩, _⟩ := (@ldA_is (ptP q)).2 hE
  have e : ∀ x, x ∈ ptP q → x = [] := fun x hx => List.eq_nil_of_length_eq_zero (by have := (Yd hx).2.2.1; omega)
  rw [e a ha] at ea; rw [e b hb] at eb; rw [e c hc] at ec
  exact ⟨ea.symm, eb.symm, ec.symm⟩
theorem szA_E {q : Pb} (h : ptP q = []) : szA (ptP q) = (0, 0, false) ∧ ldA (ptP q) = (0, false) := by rw [h]; exact ⟨rfl, rfl⟩
theorem fSizes_spec {x : SW} (H : Zf) (p : Pb) (hp : PbL p) : F (psys x) 40 [.agg (pbB p)] H fun v G => v = .tuple [iI ((szA (ptP p)).1 : Nat), iI ((szA (ptP p)).2.1 : Nat), .bool (szA (ptP p)).2.2] ∧ G = H := by
 refine Zq Tryd.func40 rfl u33 rfl ?_
 refine Zd (Za ?_)
 refine Lo u33 (ZJ rfl rfl rfl) ?_
 refine Lo u33 (Zg (VVal.int .i64 0) (.inr rfl) rfl) ?_
 refine Lo u33 (Zg (VVal.int .i64 0) (.inr rfl) rfl) ?_
 refine Lo u33 (Zg (VVal.bool false) (.inr rfl) rfl) ?_
 refine Ze (Zc (Zd (Zd ?_)))
 refine Yu (Gh.freezePtrL (cs := pbB p) 1 0 rfl rfl rfl) ?_
 refine Za ?_
 refine Lo u33 (W2p rfl rfl rfl rfl rfl) ?_
 refine Zp rfl rfl rfl (by exact fCan_spec _ p hp) ?_
 rintro _ _ ⟨rfl, rfl⟩
 refine Le u33 ?_
 refine Lo u33 (rfl) ?_
 refine Ze (Zc ?_)
 refine Zk _ rfl (fun hc1 => ?_) (fun hc1 => ?_)
 ·try simp only [qB, qN] at hc1
  refine Zd (Za ?_)
  refine Lo u33 (Zg (VVal.int .i64 0) (.inr rfl) rfl) ?_
  refine Lo u33 (Zg (VVal.int .i64 0) (.inr rfl) rfl) ?_
  refine Lo u33 (Zg (VVal.bool false) (.inr rfl) rfl) ?_
  refine Ze (Zc (Zl (Zm ?_)))
  refine W10 (.inr rfl) (vres_tmp3 rfl rfl rfl rfl) ?_
  exact W7c
 ·try simp only [qB, qN] at hc1
  refine Zj (Zc (Zd ?_))
  have hE : ptP p ≠ [] := leA_E.1 (by assumption)
  obtain ⟨a0, ha0⟩ := List.exists_mem_of_ne_nil _ hE
  have g := pck_good.1 (Yd ha0).1
  have g12 := g.n12
  refine Za ?_
  refine Lo u33 (rfl) ?_
  refine Lo u33 (W2r rfl rfl rfl rfl) ?_
  refine Lo u33 (rfl) ?_
  refine Lo u33 (Zb (.inr rfl) rfl) ?_
  refine Ze (Zc (Zd (Zd (Za ?_))))
  refine Lo u33 (Zb (.inl rfl) rfl) ?_
  refine Lo u33 (rfl) ?_
  refine Ze (Zc ?_)
  refine Zk _ rfl (fun hc2 => ?_) (fun hc2 => ?_)
  ·try simp only [qB, qN] at hc2
   refine Zd (Za ?_)
   refine Lo u33 (Zg (VVal.int .i64 0) (.inr rfl) rfl) ?_
   refine Lo u33 (Zg (VVal.int .i64 0) (.inr rfl) rfl) ?_
   refine Lo u33 (Zg (VVal.bool true) (.inr rfl) rfl) ?_
   refine Ze (Zc (Zl (Zm ?_)))
   refine W10 (.inr rfl) (vres_tmp3 rfl rfl rfl rfl) ?_
   exact W7c
  ·try simp only [qB, qN] at hc2
   refine Zj (Zc (Zd ?_))
   have hn : 0 < p.who.length := by omega
   obtain ⟨b1, b2, b3, b4, _, _⟩ := sz_bnd hE hn
   refine Za ?_
   refine Lo u33 (Zg (VVal.int .i64 1) (.inr rfl) rfl) ?_
   refine Ze (Zc (Zd (Zi ?_)))
   refine Zt (mk 33 8589934493) (env' := u33) rfl ?_
   refine Zy (fun (k : Nat) => (szA (ptP p)).1 + 1 - k) (fun (k : Nat) => [(6, iI (k : Nat))]) (fun (k : Nat) G => (1 ≤ k ∧ k ≤ (szA (ptP p)).1) ∧ G = H ++ [.dead]) 1 rfl ?_ ?_
   ·refine ⟨?_, rfl⟩
    exact ⟨Nat.le_refl _, b1⟩
   rintro k _ ⟨⟨hk1, hk2⟩, rfl⟩
   refine ZM (env' := u33) rfl ?_
   refine Zd (Zd (Za ?_))
   refine Lo u33 (W2p rfl rfl rfl rfl rfl) ?_
   refine Lo u33 (Zb (.inl rfl) rfl) ?_
   refine Zp rfl rfl rfl (by exact rwith_any _ p 4 (k : Nat) hp g hn) ?_
   rintro _ _ ⟨rfl, rfl⟩
   refine Le u33 ?_
   refine Zp rfl rfl rfl (by exact can13_spec _ (wtR p (4, (k : Nat), YD p.who.length, ())) (wtR_Lr hp g) (show Go.V.Good (noR p) from noR_good g)) ?_
   rintro v _ ⟨hv, rfl⟩; rw [canB_few g hE hn (by omega)] at hv; subst hv
   refine Le u33 ?_
   refine Lo u33 (rfl) ?_
   refine Ze (Zc ?_)
   refine Zk _ rfl (fun hc3 => ?_) (fun hc3 => ?_)
   ·try simp only [qB, qN] at hc3
    refine Zj (Zc (Zi (Za ?_)))
    refine Lo u33 (Zb (.inl rfl) rfl) ?_
    refine Lo u33 (W14 rfl rfl rfl) ?_
    refine Lo u33 (Zb (.inr rfl) rfl) ?_
    refine Ze (Zs ?_)
    refine Zu (mk 33 8589934493) (env' := u33) rfl ⟨k + 1, ?_, rfl, ?_⟩
    ·first | omega | (simp only []; omega)
    ·exact ⟨⟨by omega, by omega⟩, rfl⟩
   ·try simp only [qB, qN] at hc3
    refine ZB (ZD (Zv (ZA (Zc (Zd (Za ?_))))))
    refine Lo u33 (Zb (.inl rfl) rfl) ?_
    refine Lo u33 (Zb (.inr rfl) rfl) ?_
    refine Ze (Zc (Zd (Zi ?_)))
    refine Zt (mk 33 8589934397) (env' := u33) rfl ?_
    refine Zy (fun (m : Nat) => m) (fun (m : Nat) => [(7, iI (m : Nat))]) (fun (m : Nat) G => ((szA (ptP p)).2.1 ≤ m ∧ m ≤ p.who.length) ∧ G = H ++ [.dead]) p.who.length rfl ?_ ?_
    ·refine ⟨?_, rfl⟩
     exact ⟨b4, Nat.le_refl _⟩
    rintro m _ ⟨⟨hm1, hm2⟩, rfl⟩
    refine ZM (env' := u33) rfl ?_
    refine Zd (Zd (Za ?_))
    refine Lo u33 (W2p rfl rfl rfl rfl rfl) ?_
    refine Lo u33 (Zb (.inl rfl) rfl) ?_
    refine Zp rfl rfl rfl (by exact rwith_any _ p 5 (m : Nat) hp g hn) ?_
    rintro _ _ ⟨rfl, rfl⟩
    refine Le u33 ?_
    refine Zp rfl rfl rfl (by exact can13_spec _ (wtR p (5, (m : Nat), YD p.who.length, ())) (wtR_Lr hp g) (show Go.V.Good (noR p) from noR_good g)) ?_
    rintro v _ ⟨hv, rfl⟩; rw [canB_many g hE hn (by omega)] at hv; subst hv
    refine Le u33 ?_
    refine Lo u33 (rfl) ?_
    refine Ze (Zc ?_)
    refine Zk _ rfl (fun hc4 => ?_) (fun hc4 => ?_)
    ·try simp only [qB, qN] at hc4
     refine Zj (Zc (Zi (Za ?_)))
     refine Lo u33 (Zb (.inl rfl) rfl) ?_
     refine Lo u33 (W1y rfl rfl rfl) ?_
     refine Lo u33 (Zb (.inr rfl) rfl) ?_
     refine Ze (Zs ?_)
     refine Zu (mk 33 8589934397) (env' := u33) rfl ⟨m - 1, ?_, (by rw [show (((m - 1 : Nat) : Int)) = (m : Int) - 1 by omega]; rfl), ?_⟩
     ·first | omega | (simp only []; omega)
     ·exact ⟨⟨by omega, by omega⟩, rfl⟩
    ·try simp only [qB, qN] at hc4
     refine ZB (ZD (Zv (ZA (Zc (Zd (Za ?_))))))
     refine Lo u33 (Zb (.inl rfl) rfl) ?_
     refine Lo u33 (Zb (.inl rfl) rfl) ?_
     refine Lo u33 (Zb (.inr rfl) rfl) ?_
     refine Lo u33 (Zb (.inr rfl) rfl) ?_
     refine Lo u33 (Zg (VVal.bool true) (.inr rfl) rfl) ?_
     refine Ze (Zc (Zl ?_))
     refine W10 (.inr rfl) (vres_tmp3 rfl rfl rfl rfl) ?_
     exact W7c
theorem fLoad_spec {x : SW} (H : Zf) (p : Pb) (hp : PbL p) : F (psys x) 42 [.agg (pbB p)] H fun v G => v = .tuple [iI ((ldA (ptP p)).1 : Nat), .bool (ldA (ptP p)).2] ∧ G = H := by
 refine Zq Tryd.func42 rfl u20 rfl ?_
 refine Zd (Za ?_)
 refine Lo u20 (ZJ rfl rfl rfl) ?_
 refine Lo u20 (Zg (VVal.int .i64 0) (.inr rfl) rfl) ?_
 refine Lo u20 (Zg (VVal.bool false) (.inr rfl) rfl) ?_
 refine Ze (Zc (Zd (Zd ?_)))
 refine Yu (Gh.freezePtrL (cs := pbB p) 1 0 rfl rfl rfl) ?_
 refine Za ?_
 refine Lo u20 (W2p rfl rfl rfl rfl rfl) ?_
 refine Zp rfl rfl rfl (by exact fCan_spec _ p hp) ?_
 rintro _ _ ⟨rfl, rfl⟩
 refine Le u20 ?_
 refine Lo u20 (rfl) ?_
 refine Ze (Zc ?_)
 refine Zk _ rfl (fun hc1 => ?_) (fun hc1 => ?_)
 ·try simp only [qB, qN] at hc1
  refine Zd (Za ?_)
  refine Lo u20 (Zg (VVal.int .i64 0) (.inr rfl) rfl) ?_
  refine Lo u20 (Zg (VVal.bool false) (.inr rfl) rfl) ?_
  refine Ze (Zc (Zl (Zm ?_)))
  refine W10 (.inr rfl) (Z8 rfl rfl rfl) ?_
  exact W7g
 ·try simp only [qB, qN] at hc1
  refine Zj (Zc (Zd (Zd ?_)))
  have hE : ptP p ≠ [] := leA_E.1 (by assumption)
  obtain ⟨a0, ha0⟩ := List.exists_mem_of_ne_nil _ hE
  have g := pck_good.1 (Yd ha0).1
  have g12 := g.n12
  refine Za ?_
  refine Lo u20 (rfl) ?_
  refine Lo u20 (W2r rfl rfl rfl rfl) ?_
  refine Lo u20 (rfl) ?_
  refine Lo u20 (rfl) ?_
  refine Ze (Zc ?_)
  refine Zk _ rfl (fun hc2 => ?_) (fun hc2 => ?_)
  ·try simp only [qB, qN] at hc2
   refine Zd (Za ?_)
   refine Lo u20 (Zg (VVal.int .i64 0) (.inr rfl) rfl) ?_
   refine Lo u20 (Zg (VVal.bool true) (.inr rfl) rfl) ?_
   refine Ze (Zc (Zl (Zm ?_)))
   refine W10 (.inr rfl) (Z8 rfl rfl rfl) ?_
   exact W7g
  ·try simp only [qB, qN] at hc2
   refine Zj (Zc (Zd ?_))
   have hn : 0 < p.who.length := by omega
   obtain ⟨_, _, _, _, b1, b2⟩ := sz_bnd hE hn
   refine Za ?_
   refine Lo u20 (Zg (VVal.int .i64 1) (.inr rfl) rfl) ?_
   refine Ze (Zc (Zd (Zi ?_)))
   refine Zt (mk 20 1048557) (env' := u20) rfl ?_
   refine Zy (fun (k : Nat) => (ldA (ptP p)).1 + 1 - k) (fun (k : Nat) => [(4, iI (k : Nat))]) (fun (k : Nat) G => (1 ≤ k ∧ k ≤ (ldA (ptP p)).1) ∧ G = H ++ [.dead]) 1 rfl ?_ ?_
   ·refine ⟨?_, rfl⟩
    exact ⟨Nat.le_refl _, b1⟩
   rintro k _ ⟨⟨hk1, hk2⟩, rfl⟩
   refine ZM (env' := u20) rfl ?_
   refine Zd (Zd (Za ?_))
   refine Lo u20 (W2p rfl rfl rfl rfl rfl) ?_
   refine Lo u20 (Zb (.inl rfl) rfl) ?_
   refine Zp rfl rfl rfl (by exact rwith_any _ p 3 (k : Nat) hp g hn) ?_
   rintro _ _ ⟨rfl, rfl⟩
   refine Le u20 ?_
   refine Zp rfl rfl rfl (by exact can13_spec _ (wtR p (3, (k : Nat), YD p.who.length, ())) (wtR_Lr hp g) (show Go.V.Good (noR p) from noR_good g)) ?_
   rintro v _ ⟨hv, rfl⟩; rw [canB_most g hE hn (by omega)] at hv; subst hv
   refine Le u20 ?_
   refine Lo u20 (rfl) ?_
   refine Ze (Zc ?_)
   refine Zk _ rfl (fun hc3 => ?_) (fun hc3 => ?_)
   ·try simp only [qB, qN] at hc3
    refine Zj (Zc (Zi (Za ?_)))
    refine Lo u20 (Zb (.inl rfl) rfl) ?_
    refine Lo u20 (W14 rfl rfl rfl) ?_
    refine Lo u20 (Zb (.inr rfl) rfl) ?_
    refine Ze (Zs ?_)
    refine Zu (mk 20 1048557) (env' := u20) rfl ⟨k + 1, ?_, rfl, ?_⟩
    ·first | omega | (simp only []; omega)
    ·exact ⟨⟨by omega, by omega⟩, rfl⟩
   ·try simp only [qB, qN] at hc3
    refine ZB (ZD (Zv (ZA (Zc (Zd (Za ?_))))))
    refine Lo u20 (Zb (.inl rfl) rfl) ?_
    refine Lo u20 (Zb (.inr rfl) rfl) ?_
    refine Lo u20 (Zg (VVal.bool true) (.inr rfl) rfl) ?_
    refine Ze (Zc (Zl ?_))
    refine W10 (.inr rfl) (Z8 rfl rfl rfl) ?_
    exact W7g
theorem W7k {T : TypeId → Option VTy} {H : Zf} {op : Op} {ρ : Operand → VVal} {t : TypeId} {a : Operand} {y : VTy} {p v : VVal} (ho : op = .load t a) (ha : ρ a = p) (hy : T t = some y) (hd : Zo y.desc = false) (h : LdOk H p v := by first | exact .inl ⟨_, _, rfl, XH44⟩ | exact .inr ⟨_, _, _, _, rfl, by first | exact Zw (ZL rfl rfl) | exact ZL rfl rfl | exact getB rfl rfl, XH44⟩) : vop T ρ H op = some (v, H) := v_ld ho ha hy hd h
theorem W7m {P : Prop} (h : P := by first | exact ⟨congrArg iW (by rw [hI]; rfl), rfl⟩ | exact ⟨congrArg iW (by rw [hX1, satW_full hX1 hX2]), rfl⟩) : P := h
theorem pl_step {ws : List (BitVec 64)} {a : List Nat} {most : BitVec 64} {s : Nat} (h : (Yb ws a a.length).length ≤ 12) : Z7 (Z7 most 65536) s + MM.coV (Yb ws a a.length) (Z7 ((Z7 most 65536) - Z7 (Z7 most 65536) s) 65536) = Z7 (Z7 most 65536) (s + cnA ws a) := by
  unfold MM.coV
  rw [if_pos h]
  exact sat_more (by rw [Yv]; omega)
theorem sum_split {f : List Nat → Nat} {l pre post : List (List Nat)} {a : List Nat} (h : l = pre ++ a :: post) : ((pre ++ [a]).map f).sum = (pre.map f).sum + f a ∧ ((pre ++ [a]).map f).sum ≤ (l.map f).sum := by
  subst h
  simp only [List.map_append, List.sum_append, List.map_cons, List.sum_cons, List.map_nil, List.sum_nil]
  omega
theorem tPlans_spec {x : SW} (H : Zf) (p : Pb) (hp : PbL p) (most : BitVec 64) : F (psys x) 29 [.agg (pbB p), iW most] H fun v G => v = iW (Z7 (Z7 most 65536) (sumP p)) ∧ G = H := by
 refine Zq Tryd.func29 rfl u25 rfl ?_
 refine Zd (Za ?_)
 refine Lo u25 (ZJ rfl rfl rfl) ?_
 refine Lo u25 (ZJ rfl rfl rfl) ?_
 refine Lo u25 (Zg (VVal.int .u64 0) (.inr rfl) rfl) ?_
 refine Ze (Zc (Zd ?_))
 refine Yu (Gh.freezePtrL (cs := pbB p) 2 0 rfl rfl rfl) ?_
 refine Za ?_
 refine Lo u25 (W12 rfl rfl rfl rfl) ?_
 refine Lo u25 (v_val rfl ((congrArg (VVal.int .u64) (MM.minW (a := most) (b := 65536#64))).trans rfl)) ?_
 refine Lo u25 (W13 rfl rfl rfl rfl rfl rfl rfl) ?_
 refine Ze (Zc (Zd (Za ?_)))
 refine Lo u25 (ZR rfl rfl) ?_
 refine Lo u25 (Yg (VVal.int .u64 0) rfl rfl rfl rfl rfl rfl rfl XH0 XH6 XH1) ?_
 refine Ze (Zc (Zd (Zd (Za ?_))))
 refine Lo u25 (W11 rfl rfl rfl rfl rfl) ?_
 refine Zp rfl rfl rfl (by exact tpat_spec _ p) ?_
 rintro _ _ ⟨rfl, rfl⟩
 refine Le u25 ?_
 refine Ze (Zc (Zi ?_))
 refine Zt (mk 25 33552343) (env' := u25) rfl ?_
 refine B_rangeJ (fvP p) 2 (fun _ => rfl) (ptP p) (fun l0 h => by cases h) rfl (fun l9 G9 K9 hI9 => tpat1_spec l9 p hp G9 K9 hI9) (σ := Nat) (fun k s => H ++ [.dead, .cells [iW (Z7 most 65536)] true, .cells [iW (Z7 (Z7 most 65536) s)] true, k]) 0 (fun k => by rw [List.append_assoc]; show _ = H ++ [.dead, .cells [iW (Z7 most 65536)] true, .cells [iW (Z7 (Z7 most 65536) 0)] true, k]; rw [satW_0]; rfl) (fun k s => by simp) (fun k s => by rw [show (H ++ _ : Zf).length = H.length + 3 by simp]; exact ZL rfl rfl) (fun k k1 s => by rw [show (H ++ _ : Zf).length = H.length + 3 by simp]; exact ZO rfl) (fun pre s => s = (pre.map (cnA (wsP p))).sum) ?_ (fun j pre c s => (j = Code.exit 0 ∧ (Z7 (Z7 most 65536) s = (Z7 most 65536) ∧ s ≤ sumP p))) rfl ?_ ?_ ?_
 ·rfl
 ·intro pre c post s hx hI Lp kr kb hkr hkb
  try dsimp only at hI ⊢
  have hc9 : c ∈ ptP p := by rw [hx]; simp
  obtain ⟨h0, hpc, hcl, _, _⟩ := Yd hc9
  have g1 := (pck_good.1 h0).n12
  have hbl := @YB (wsP p) c c.length
  have hz := @Yy c c.length
  obtain ⟨hs1, hs2⟩ := sum_split (f := cnA (wsP p)) hx
  refine ZM (env' := u25) rfl ?_
  refine Za ?_
  refine Lo u25 (Zb (.inr rfl) rfl) ?_
  refine Ze ?_
  refine ⟨rfl, s, rfl, ?_⟩
  try dsimp only
  refine Zi (Zd ?_)
  refine ZS [0, 1, 2, 3, 4, 5, 6, 7] #[0, 0, 0, 0, 12, 30, 63, 127] XH7 XH7 XH7 ?_
  refine Yn (env' := u25) (x := .look _ _) rfl rfl rfl (W12 rfl rfl rfl rfl) rfl rfl rfl ?_
  refine Oo u25 .calm rfl (Zb (.inl rfl) rfl) ?_
  refine Oo u25 .look rfl (W12 rfl rfl rfl rfl) ?_
  refine Oo u25 .look rfl (W12 rfl rfl rfl rfl) ?_
  refine Oo u25 .calm rfl (v_subW rfl rfl rfl) ?_
  refine Yj (env' := u25) rfl rfl rfl rfl rfl (by exact MM.mCount_spec _ (Yb (wsP p) c c.length) ((Z7 most 65536) - Z7 (Z7 most 65536) s) (by omega)) XH9 rfl rfl ?_
  refine Oo u25 .calm rfl (v_val (v_addW rfl rfl rfl) (congrArg iW (pl_step (s := s) (a := c) (ws := wsP p) (most := most) (by omega)))) ?_
  refine Oo u25 .turn rfl (W13 rfl rfl rfl rfl rfl rfl rfl) ?_
  refine O_nilP [(0, 5)] XH7 (And.intro ⟨_, _, _, _, ⟨(gA (gA (gA (gA (gA (gA (gA (gL XH7)))))))), (gA (gA (gL XH7))), And.intro (W12 rfl rfl rfl rfl) (W12 rfl rfl rfl rfl)⟩⟩ (trivial)) ?_
  refine Zc (Zd (Za ?_))
  refine Lo u25 (W12 rfl rfl rfl rfl) ?_
  refine Lo u25 (W12 rfl rfl rfl rfl) ?_
  refine Lo u25 (rfl) ?_
  refine Ze (Zc ?_)
  refine Zk _ rfl (fun hc1 => ?_) (fun hc1 => ?_)
  ·try simp only [qB, qN] at hc1
   refine ZB ?_
   refine K_blkO rfl ?_
   refine ⟨s + cnA (wsP p) c, [], (by simp; rfl), .inr ⟨Code.exit 0, rfl, ⟨rfl, ?_⟩⟩⟩
   exact ⟨hc1, by rw [hI, ← hs1]; exact hs2⟩
  ·try simp only [qB, qN] at hc1
   refine Zj (Zs ?_)
   refine ⟨s + cnA (wsP p) c, [], (by simp; rfl), .inl ⟨rfl, ?_⟩⟩
   rw [hs1, hI]
 ·intro s k hk hI J9
  try dsimp only at hI ⊢
  refine Zs (Zc (Zd ?_))
  try refine B_heap (List.append_assoc _ _ _) ?_
  refine Za ?_
  refine Lo u25 (W7k rfl rfl rfl rfl) ?_
  refine Lo u25 (Zb (.inr rfl) rfl) ?_
  refine Ze (Zc (Zl ?_))
  refine W10 (.inr rfl) (Zh rfl rfl) ?_
  exact W7m
 ·rintro j pre c post s k hk hx (⟨rfl, ⟨hX1, hX2⟩⟩) J9
  try dsimp only
  skip
  refine J_exit ?_
  refine ZA (Zc (Zd ?_))
  try refine B_heap (List.append_assoc _ _ _) ?_
  refine Za ?_
  refine Lo u25 (W7k rfl rfl rfl rfl) ?_
  refine Lo u25 (Zb (.inr rfl) rfl) ?_
  refine Ze (Zc (Zl ?_))
  refine W10 (.inr rfl) (Zh rfl rfl) ?_
  exact W7m
abbrev u26 {a0 a1 a2 a3 a4 a5 a6 a7 a8 a9 a10 a11 a12 a13 a14 a15 a16 a17 a18 a19 a20 a21 a22 a23 a24 a25 : VVal} : VEnv := a0 :: a1 :: a2 :: a3 :: a4 :: a5 :: a6 :: a7 :: a8 :: a9 :: a10 :: a11 :: a12 :: a13 :: a14 :: a15 :: a16 :: a17 :: a18 :: a19 :: a20 :: a21 :: a22 :: a23 :: a24 :: a25 :: []
theorem W7p {T : TypeId → Option VTy} {H : Zf} {op : Op} {ρ : Operand → VVal} {t : TypeId} {a : Operand} {y : VTy} {p v : VVal} (ho : op = .load t a) (ha : ρ a = p) (hy : T t = some y) (hd : Zo y.desc = false) (h : LdOk H p v := by first | exact .inl ⟨_, _, rfl, by first | exact fget (α := BitVec 64) 0 (by omega) | exact fget0 (α := BitVec 64) 0 (by omega) | exact YY (α := BitVec 64) 0 (by omega)⟩ | exact .inr ⟨_, _, _, _, rfl, by exact Zw hb, by first | exact fget (α := BitVec 64) 0 (by omega) | exact fget0 (α := BitVec 64) 0 (by omega) | exact YY (α := BitVec 64) 0 (by omega)⟩) : vop T ρ H op = some (v, H) := v_ld ho ha hy hd h
theorem W7r {T : TypeId → Option VTy} {H : Zf} {op : Op} {ρ : Operand → VVal} {t : TypeId} {a : Operand} {y : VTy} {p : VVal} {n : Nat} {vs : List VVal} (ho : op = .load t a) (ha : ρ a = p) (hy : T t = some y) (hd : Zo y.desc = true) (hn : y.size = n) (h : LdOkA H p n vs := by first | exact .inl ⟨_, _, rfl, XH47⟩ | exact .inr ⟨_, _, _, _, rfl, XH43, XH47⟩) : vop T ρ H op = some (.agg vs, H) := v_ldA ho ha hy hd hn h
theorem W7s {S : V.Sys} {H : Zf} {fn : Func} {ex : Exit} {env : VEnv} {B L : Zf} {v : VVal} {R : VVal → Zf → Prop} (hx : ex = .normal ∨ ex = .ret) (hv : ZV S.C.T env (B ++ L) fn.results = some v) (h : R v B) (hB : BaseOk H B := by exact XH49) (hu : v.under H.length = true := by first | rfl | exact YC _ _) : fnK S fn H R ex env (B ++ L) := YA hx hv hB hu h
theorem W7t {P : Prop} (h : P := by first | exact ⟨by rw [liA_no (by assumption)]; rfl, rfl⟩ | exact ⟨by rw [liA_0 (by omega)]; rfl, rfl⟩ | exact ⟨by rw [liA_in h0, hE]; show _ = VVal.fsl _ s9.length 1 false; rw [hsl], rfl⟩) : P := h
theorem W7u {T : TypeId → Option VTy} {H : Zf} {op : Op} {ρ : Operand → VVal} {t : TypeId} {a : Operand} {y : VTy} {p v : VVal} (ho : op = .load t a) (ha : ρ a = p) (hy : T t = some y) (hd : Zo y.desc = false) (h : LdOk H p v := by first | exact .inl ⟨_, _, rfl, XH47⟩ | exact .inr ⟨_, _, _, _, rfl, XH43, XH47⟩) : vop T ρ H op = some (v, H) := v_ld ho ha hy hd h
theorem W7w {T : TypeId → Option VTy} {H : Zf} {op : Op} {ρ : Operand → VVal} {t e : TypeId} {x i : Operand} {y z : VTy} {k : IntKind} {n : Int} {p v : VVal} {es : Nat} (ho : op = .indexAddr t x i) (hx : ρ x = p) (hi : ρ i = .int k n) (hy : T t = some y) (hd : y.desc = .slice e) (hz : T e = some z) (hs : z.size = es) (h : IxOk p es n v := by first | exact .inl ⟨_, _, _, rfl, by constructor <;> omega, rfl⟩ | exact .inr ⟨_, _, _, _, _, rfl, by constructor <;> omega, rfl⟩) : vop T ρ H op = some (v, H) := v_ix ho hx hi hy hd hz hs h
theorem W7x {T : TypeId → Option VTy} {H : Zf} {op : Op} {ρ : VEnv} {H' : Zf} {t : TypeId} {a : Operand} {i : Nat} {v : VVal} {y : VTy} {b off : Nat} {cs new : List VVal} (ho : op = .store t a (.tmp i)) (hv : ρ[i]? = some v) (ha : ρ.eval a = .ptr (some (b, off))) (hy : T t = some y) (hx : v.cells = some new) (hn : new.length = y.size) (h1 : new.all VVal.one = true) (hb : H[b]? = some (.cells cs true) := by exact XH43) (hl : off + new.length ≤ cs.length := by show 0 + ((k : Nat) : Int).toNat * 1 + 1 ≤ _; rw [List.length_map, wsK_len]; omega) (hH : H.set b (.cells (ZH cs off new) true) = H' := by exact (ZO rfl).trans (congrArg (fun z => H ++ [VBlk.dead, _, VBlk.cells z true, _, _]) (wsK_set (by omega)))) : vop T ρ.eval H op = some (.skip, H') := Z0 ho hv ha hy hx hn h1 hb hl hH
theorem W7y {T : TypeId → Option VTy} {H : Zf} {op : Op} {ρ : Operand → VVal} {t : TypeId} {a : Operand} {y : VTy} {p v : VVal} (ho : op = .load t a) (ha : ρ a = p) (hy : T t = some y) (hd : Zo y.desc = false) (h : LdOk H p v := by first | exact .inl ⟨_, _, rfl, XH47⟩ | exact .inr ⟨_, _, _, _, rfl, by exact getB rfl rfl, XH47⟩) : vop T ρ H op = some (v, H) := v_ld ho ha hy hd h
theorem W7z {T : TypeId → Option VTy} {H : Zf} {op : Op} {ρ : VEnv} {H' : Zf} {t : TypeId} {a : Operand} {i : Nat} {v : VVal} {y : VTy} {b off : Nat} {cs new : List VVal} (ho : op = .store t a (.tmp i)) (hv : ρ[i]? = some v) (ha : ρ.eval a = .ptr (some (b, off))) (hy : T t = some y) (hx : v.cells = some new) (hn : new.length = y.size) (h1 : new.all VVal.one = true) (hb : H[b]? = some (.cells cs true) := by exact getB rfl rfl) (hl : off + new.length ≤ cs.length := by show 0 + ((k : Nat) : Int).toNat * 1 + 1 ≤ _; rw [List.length_map, YI]; omega) (hH : H.set b (.cells (ZH cs off new) true) = H' := by exact (setB rfl (show 1 < 6 by decide)).trans (congrArg (fun z => (H ++ [VBlk.dead, VBlk.cells z true, _, _, _, _]) ++ _) (liK_st (by omega) (by omega)))) : vop T ρ.eval H op = some (.skip, H') := Z0 ho hv ha hy hx hn h1 hb hl hH
theorem W80 {T : TypeId → Option VTy} {H : Zf} {op : Op} {ρ : Operand → VVal} {t : TypeId} {a : Operand} {y : VTy} {p v : VVal} (ho : op = .load t a) (ha : ρ a = p) (hy : T t = some y) (hd : Zo y.desc = false) (h : LdOk H p v := by first | exact .inl ⟨_, _, rfl, XH47⟩ | exact .inr ⟨_, _, _, _, rfl, by exact ZL rfl rfl, XH47⟩) : vop T ρ H op = some (v, H) := v_ld ho ha hy hd h
def liA (p : Pb) : List (BitVec 64) := if pck p = 0 then liF (wsP p) (ptP p) (List.replicate p.who.length 0#64) else []
theorem liA_no {p : Pb} (h : ¬ pck p = 0) : liA p = [] := if_neg h
theorem liA_in {p : Pb} (h : pck p = 0) : liA p = liF (wsP p) (ptP p) (List.replicate p.who.length 0#64) := if_pos h
theorem liA_len {p : Pb} (h : pck p = 0) : (liA p).length = p.who.length := by rw [liA_in h, liF_len (by rw [List.length_replicate, wsP_len]), wsP_len]
theorem liA_0 {p : Pb} (h : p.who.length = 0) : liA p = [] := by
  by_cases e : pck p = 0
  · exact List.eq_nil_of_length_eq_zero ((liA_len e).trans h)
  · exact liA_no e
def wsK (p : Pb) (k : Nat) : List (BitVec 64) := (List.range p.who.length).map fun i => if i < k then wrd p i else 0#64
theorem wsK_len {p : Pb} {k : Nat} : (wsK p k).length = p.who.length := by unfold wsK; simp
theorem wsK_0 {p : Pb} : wsK p 0 = List.replicate p.who.length 0#64 := by
  apply List.ext_getElem (by rw [wsK_len, List.length_replicate])
  intro i h1 h2
  unfold wsK; simp
theorem wsK_all {p : Pb} : wsK p p.who.length = wsP p := by
  apply List.ext_getElem (by rw [wsK_len, wsP_len])
  intro i h1 h2
  simp only [wsK_len] at h1
  simp [wsK, wsP, h1]
theorem wsK_set {p : Pb} {k : Nat} (h : k < p.who.length) : ZH ((wsK p k).map iW) (0 + ((k : Nat) : Int).toNat * 1) [iW (wrd p k)] = (wsK p (k + 1)).map iW := by
  rw [Int.toNat_natCast, spl_W (by rw [wsK_len]; exact h)]
  congr 1
  apply List.ext_getElem (by rw [List.length_set, wsK_len, wsK_len])
  intro i h1 h2
  have h3 : i < p.who.length := by rw [wsK_len] at h2; exact h2
  rw [List.getElem_set]
  by_cases e : k = i
  · subst e; simp [wsK]
  · have e3 : i < k ↔ i < k + 1 := by omega
    simp [wsK, e, e3]
theorem liK_st {ws : List (BitVec 64)} {a : List Nat} {l : List (BitVec 64)} {b k : Nat} (hk : k < l.length) (h : a.getD k 0 = b) : ZH ((liK ws a l b k).map iW) (0 + ((k : Nat) : Int).toNat * 1) [iW ((liK ws a l b k).getD ((k : Nat) : Int).toNat 0 ||| frW (Yb ws a a.length) b)] = (liK ws a l b (k + 1)).map iW := by
  rw [Int.toNat_natCast, spl_W (by rw [YI]; exact hk), liK_set hk h]
theorem fv_is {l : List (BitVec 64)} {b : Nat} (h1 : l.length ≤ 12) (h2 : b < l.length) : MM.freeV l ((b : Nat) : Int) = frW l b := by
  unfold MM.freeV; rw [if_pos ⟨h1, by omega, by omega⟩, Int.toNat_natCast]
theorem EqualW_spec {x : SW} (H : Zf) (b : Nat) (e : Bool) (l m : List (BitVec 64)) (hb : H[b]? = some (.cells (l.map iW) true)) (h1 : l.length ≤ 1000000) : F (psys x) 62 [.slice (some (b, 0)) l.length l.length e 1, fzW m] H fun v G => v = .bool (decide (l = m)) ∧ G = H := by
 refine Zq Tryd.func62 rfl u26 rfl ?_
 refine Zd (Za ?_)
 refine Lo u26 (Zg (VVal.bool false) (.inr rfl) rfl) ?_
 refine Ze (Zc (Zd (Zd (Za ?_))))
 refine Lo u26 (Zb (.inl rfl) rfl) ?_
 refine Lo u26 (rfl) ?_
 refine Lo u26 (Zb (.inl rfl) rfl) ?_
 refine Lo u26 (rfl) ?_
 refine Lo u26 (rfl) ?_
 refine Ze (Zc ?_)
 refine Zk _ rfl (fun hc1 => ?_) (fun hc1 => ?_)
 ·try simp only [qB, qN] at hc1
  refine Zd (Za ?_)
  refine Lo u26 (Zg (VVal.bool false) (.inr rfl) rfl) ?_
  refine Ze (Zc (Zl (Zm ?_)))
  refine W10 (.inr rfl) (Zh rfl rfl) ?_
  exact ⟨by rw [decide_eq_false (fun e => by rw [e] at hc1; omega)], rfl⟩
 ·try simp only [qB, qN] at hc1
  refine Zj (Zc (Zd (Zd (Za ?_))))
  refine Lo u26 (Zb (.inl rfl) rfl) ?_
  refine Lo u26 (rfl) ?_
  refine Lo u26 (Zg (VVal.int .i64 0) (.inl rfl) rfl) ?_
  refine Ze (Zc (Zi ?_))
  refine Zt (mk 26 67096572) (env' := u26) rfl ?_
  refine Zy (fun (k : Nat) => l.length - k) (fun (k : Nat) => [(13, iI (k : Nat))]) (fun (k : Nat) G => (k ≤ l.length ∧ ∀ j, j < k → l.getD j 0 = m.getD j 0) ∧ G = H ++ []) 0 rfl ?_ ?_
  ·refine ⟨?_, rfl⟩
   exact ⟨Nat.zero_le _, fun j h => by omega⟩
  rintro k _ ⟨⟨hk, hall⟩, rfl⟩
  refine ZM (env' := u26) rfl ?_
  refine Zd (Za ?_)
  refine Lo u26 (rfl) ?_
  refine Ze (Zc (Zd ?_))
  refine Zk _ rfl (fun hc2 => ?_) (fun hc2 => ?_)
  ·try simp only [qB, qN] at hc2
   refine Zj (Zc (Zd (Zi (Zd (Za ?_)))))
   refine Lo u26 (Zb (.inl rfl) rfl) ?_
   refine Lo u26 (Zb (.inr rfl) rfl) ?_
   refine Ze (Zc (Zd ?_))
   refine ZS [0, 1, 2, 3, 4, 5, 6, 7, 8] #[0, 0, 3, 7, 0, 0, 48, 112, 255] XH7 XH7 XH7 ?_
   refine Oo u26 .calm rfl (Zb (.inl rfl) rfl) ?_
   refine Oo u26 .calm rfl (Zb (.inl rfl) rfl) ?_
   refine Oo u26 .calm rfl (W18 rfl rfl rfl rfl rfl rfl rfl) ?_
   refine Oo u26 .look rfl (W7p rfl rfl rfl rfl) ?_
   refine Oo u26 .calm rfl (Zb (.inl rfl) rfl) ?_
   refine Oo u26 .calm rfl (Zb (.inl rfl) rfl) ?_
   refine Oo u26 .calm rfl (W18 rfl rfl rfl rfl rfl rfl rfl) ?_
   refine Oo u26 .look rfl (W7p rfl rfl rfl rfl) ?_
   refine Oo u26 .calm rfl (rfl) ?_
   refine ZU [] XH7 (trivial) ?_
   refine Zc ?_
   refine Zk _ rfl (fun hc3 => ?_) (fun hc3 => ?_)
   ·try simp only [qB, qN] at hc3
    refine Zd (Za ?_)
    refine Lo u26 (Zg (VVal.bool false) (.inr rfl) rfl) ?_
    refine Ze (Zc (Zl (ZF (Zm (Yf (ZF (Zm ?_)))))))
    refine W10 (.inr rfl) (Zh rfl rfl) ?_
    exact ⟨by rw [decide_eq_false (fun e => by subst e; exact hc3 rfl)], rfl⟩
   ·try simp only [qB, qN] at hc3
    refine Zj (Zs (Zc (Za ?_)))
    refine Lo u26 (W14 rfl rfl rfl) ?_
    refine Lo u26 (Zb (.inl rfl) rfl) ?_
    refine Ze ?_
    refine Zu (mk 26 67096572) (env' := u26) rfl ⟨k + 1, ?_, rfl, ?_⟩
    ·first | omega | (simp only []; omega)
    ·exact ⟨⟨by omega, fun j hj => by by_cases e : j = k; (subst e; assumption); exact hall j (by omega)⟩, rfl⟩
  ·try simp only [qB, qN] at hc2
   refine ZB (ZD (Zv (ZA (Zc (Zd (Za ?_))))))
   refine Lo u26 (Zg (VVal.bool true) (.inr rfl) rfl) ?_
   refine Ze (Zc (Zl ?_))
   refine W10 (.inr rfl) (Zh rfl rfl) ?_
   have e := eq_getD (d := 0) (by omega) (fun j hj => hall j (by omega))
   exact ⟨by rw [decide_eq_true e], rfl⟩
theorem EqualW_n {x : SW} (H : Zf) (b n n2 : Nat) (e : Bool) (l m : List (BitVec 64)) (hb : H[b]? = some (.cells (l.map iW) true)) (h1 : n ≤ 1000000) (hn : l.length = n) (hm : m.length = n2) : F (psys x) 62 [.slice (some (b, 0)) n n e 1, .fsl (m.map iW) n2 1 false] H fun v G => v = .bool (decide (l = m)) ∧ G = H := by
  subst hn; subst hm
  exact EqualW_spec H b e l m hb h1
theorem tLive_spec {x : SW} (H : Zf) (p : Pb) (hp : PbL p) : F (psys x) 33 [.agg (pbB p)] H fun v G => v = fzW (liA p) ∧ G = H := by
 refine Zq Tryd.func33 rfl u76 rfl ?_
 refine Zd (Za ?_)
 refine Lo u76 (ZJ rfl rfl rfl) ?_
 refine Lo u76 (Zg (VVal.slice none 0 0 true 0) (.inr rfl) rfl) ?_
 refine Ze (Zc (Zd (Zd ?_)))
 refine Yu (Gh.freezePtrL (cs := pbB p) 1 0 rfl rfl rfl) ?_
 refine Za ?_
 refine Lo u76 (W7r rfl rfl rfl rfl rfl) ?_
 refine Zp rfl rfl rfl (by exact sCheck_spec _ p hp) ?_
 rintro _ _ ⟨rfl, rfl⟩
 refine Le u76 ?_
 refine Lo u76 (rfl) ?_
 refine Lo u76 (Zb (.inl rfl) rfl) ?_
 refine ZE 15 (env1 := u76) (env2 := u76) rfl rfl rfl (fun hg1 => ?_) (fun hg1 => ?_)
 ·try simp only [qB, qN] at hg1
  refine Lf u76 ?_
  refine Lf u76 ?_
  refine Lf u76 ?_
  refine Lf u76 ?_
  refine Lo u76 (ZK (VVal.bool true) rfl rfl rfl) ?_
  refine Ze (Zc ?_)
  refine ZP rfl rfl ?_
  refine Zd (Za ?_)
  refine Lo u76 (Zg (VVal.slice none 0 0 true 0) (.inr rfl) rfl) ?_
  refine Ze (Zc ?_)
  refine Yu (Gh.freezeNil 2 (es' := 1) rfl rfl) ?_
  refine Zl (Zm ?_)
  refine W7s (.inr rfl) (Zh rfl rfl) ?_
  exact W7t
 ·try simp only [qB, qN] at hg1
  refine Lo u76 (rfl) ?_
  refine Lo u76 (W7u rfl rfl rfl rfl) ?_
  refine Lo u76 (rfl) ?_
  refine Lo u76 (rfl) ?_
  refine Lo u76 (ZT rfl rfl rfl) ?_
  refine Ze (Zc ?_)
  refine Zk _ rfl (fun hc2 => ?_) (fun hc2 => ?_)
  ·try simp only [qB, qN] at hc2
   refine Zd (Za ?_)
   refine Lo u76 (Zg (VVal.slice none 0 0 true 0) (.inr rfl) rfl) ?_
   refine Ze (Zc ?_)
   refine Yu (Gh.freezeNil 2 (es' := 1) rfl rfl) ?_
   refine Zl (Zm ?_)
   refine W7s (.inr rfl) (Zh rfl rfl) ?_
   exact W7t
  ·try simp only [qB, qN] at hc2
   refine Zj (Zc (Zd ?_))
   have h0 : pck p = 0 := by first | assumption | simp_all
   have g := pck_good.1 h0
   have g1 := g.n12; have g5 := g.fx
   have hne : ¬ p.who.length = 0 := by first | (have h9 := hc2; simp at h9; omega) | omega | simp_all
   have hwl := wsP_len (p := p)
   refine ZS [0, 1, 2, 3, 4, 5, 6, 7, 8, 9, 10, 11] #[0, 1, 3, 7, 0, 16, 48, 112, 0, 0, 783, 2047] XH7 XH7 XH7 ?_
   refine Oo u76 .calm rfl (rfl) ?_
   refine Oo u76 .look rfl (W7u rfl rfl rfl rfl) ?_
   refine Oo u76 .look rfl (rfl) ?_
   refine Oo u76 .grow rfl (YF rfl rfl rfl rfl rfl (by decide) ⟨by omega, Int.le_refl _, by show (p.who.length : Int) * (8 : Nat) ≤ _; omega, by omega⟩) ?_
   refine Oo u76 .calm rfl (rfl) ?_
   refine Yn (env' := u76) (x := .look _ _) rfl rfl rfl (W7u rfl rfl rfl rfl) rfl rfl rfl ?_
   refine Yn (env' := u76) (x := .look _ _) rfl rfl rfl (rfl) rfl rfl rfl ?_
   refine Yn (env' := u76) (x := .grow _) rfl rfl rfl (YF rfl rfl rfl rfl rfl (by decide) ⟨by omega, Int.le_refl _, by show (p.who.length : Int) * (8 : Nat) ≤ _; omega, by omega⟩) rfl rfl rfl ?_
   refine Oo u76 .grow rfl (ZR rfl rfl) ?_
   refine Oo u76 .grow rfl (ZR rfl rfl) ?_
   refine Yn (env' := u76) (x := .turn _ _) rfl rfl rfl (W13 rfl rfl rfl rfl rfl rfl rfl) rfl rfl rfl ?_
   refine Oo u76 .turn rfl (W13 rfl rfl rfl rfl rfl rfl rfl) ?_
   refine O_nilP [(5, 10), (6, 10), (7, 10)] XH7 (And.intro ⟨_, _, _, _, ⟨(gA (gA (gA (gA (gA (gA (gL XH7))))))), (gA (gL XH7)), And.intro (W7u rfl rfl rfl rfl) (W7u rfl rfl rfl rfl)⟩⟩ (And.intro ⟨_, _, _, _, ⟨(gA (gA (gA (gA (gA (gL XH7)))))), (gA (gL XH7)), And.intro (rfl) (rfl)⟩⟩ (And.intro ⟨_, _, _, _, ⟨(gA (gA (gA (gA (gL XH7))))), (gA (gL XH7)), (by simp [V.fine])⟩⟩ (trivial)))) ?_
   refine Zc (Zd (Zd ?_))
   refine B_heap (H' := H ++ [.dead, .cells ((List.replicate p.who.length 0#64).map iW) true, .cells ((wsK p 0).map iW) true, .cells [.slice (some (H.length + 1, 0)) p.who.length p.who.length true 1] true, .cells [.slice (some (H.length + 2, 0)) p.who.length p.who.length true 1] true]) (by rw [wsK_0, ← MM.rep_w]; rfl) ?_
   refine Za ?_
   refine Lo u76 (W7u rfl rfl rfl rfl) ?_
   refine Lo u76 (rfl) ?_
   refine Lo u76 (Zg (VVal.int .i64 0) (.inl rfl) rfl) ?_
   refine Ze (Zc (Zi ?_))
   refine Zt (mk 76 75557863725911102193637) (env' := u76) rfl ?_
   refine Zy (fun (k : Nat) => p.who.length - k) (fun (k : Nat) => [(31, iI (k : Nat))]) (fun (k : Nat) G => (k ≤ p.who.length) ∧ G = H ++ [.dead, .cells ((List.replicate p.who.length 0#64).map iW) true, .cells ((wsK p k).map iW) true, .cells [.slice (some (H.length + 1, 0)) p.who.length p.who.length true 1] true, .cells [.slice (some (H.length + 2, 0)) p.who.length p.who.length true 1] true]) 0 rfl ?_ ?_
   ·refine ⟨?_, rfl⟩
    exact Nat.zero_le _
   rintro k _ ⟨hk, rfl⟩
   refine ZM (env' := u76) rfl ?_
   refine Zd (Za ?_)
   refine Lo u76 (rfl) ?_
   refine Ze (Zc (Zd ?_))
   refine Zk _ rfl (fun hc3 => ?_) (fun hc3 => ?_)
   ·try simp only [qB, qN] at hc3
    refine Zj (Zc (Zd (Zi (Zd (Za ?_)))))
    refine Lo u76 (Zb (.inl rfl) rfl) ?_
    refine Lo u76 (Zb (.inr rfl) rfl) ?_
    refine Ze (Zc ?_)
    refine ZS [0, 1, 2, 3, 4, 5, 6] #[0, 0, 0, 0, 12, 31, 63] XH7 XH7 XH7 ?_
    refine Yn (env' := u76) (x := .look _ _) rfl rfl rfl (W7u rfl rfl rfl rfl) rfl rfl rfl ?_
    refine Oo u76 .calm rfl (Zb (.inl rfl) rfl) ?_
    refine Oo u76 .look rfl (W7r rfl rfl rfl rfl rfl) ?_
    refine Oo u76 .calm rfl (Zb (.inl rfl) rfl) ?_
    refine Yj (env' := u76) rfl rfl rfl rfl rfl (by exact Word_spec _ p k (by omega) (by omega)) XH9 rfl rfl ?_
    refine Oo u76 .calm rfl (W7w rfl rfl rfl rfl rfl rfl rfl) ?_
    refine Oo u76 .turn rfl (W7x rfl rfl rfl rfl rfl rfl rfl) ?_
    refine O_nilP [(0, 4)] XH7 (And.intro ⟨_, _, _, _, ⟨(gA (gA (gA (gA (gA (gA (gL XH7))))))), (gA (gA (gL XH7))), And.intro (W7u rfl rfl rfl rfl) (W7u rfl rfl rfl rfl)⟩⟩ (trivial)) ?_
    refine Zs (Zc (Za ?_))
    refine Lo u76 (W14 rfl rfl rfl) ?_
    refine Lo u76 (Zb (.inl rfl) rfl) ?_
    refine Ze ?_
    refine Zu (mk 76 75557863725911102193637) (env' := u76) rfl ⟨k + 1, ?_, rfl, ?_⟩
    ·first | omega | (simp only []; omega)
    ·exact ⟨by omega, rfl⟩
   ·try simp only [qB, qN] at hc3
    refine ZB (ZD (Zv (ZA (Zc (Zd (Zd ?_))))))
    obtain rfl : k = p.who.length := by omega
    rw [wsK_all]
    refine Yu (Gh.cellL (l := (wsP p).map iW) 4 0 2 rfl rfl (by decide) rfl (Yq (by simp [hwl])) (Nat.le_refl _)) ?_
    refine Za ?_
    refine Lo u76 (W7r rfl rfl rfl rfl rfl) ?_
    refine Zp rfl rfl rfl (by exact tpat_spec _ p) ?_
    rintro _ _ ⟨rfl, rfl⟩
    refine Le u76 ?_
    refine Ze (Zc (Zi ?_))
    refine Zt (mk 76 75557863721516276908007) (env' := u76) rfl ?_
    refine B_rangeJ (fvP p) 2 (fun _ => rfl) (ptP p) (fun l0 h => by cases h) rfl (fun l9 G9 K9 hI9 => tpat1_spec l9 p hp G9 K9 hI9) (σ := {q : List (BitVec 64) // q.length = p.who.length}) (fun k s => H ++ [.dead, .cells ((s.1).map iW) true, .dead, .cells [.slice (some (H.length + 1, 0)) p.who.length p.who.length true 1] true, .cells [.fsl ((wsP p).map iW) p.who.length 1 false] true, k]) ⟨(List.replicate p.who.length 0#64), List.length_replicate ..⟩ (fun k => by rw [List.append_assoc]; rfl) (fun k s => by simp) (fun k s => by rw [show (H ++ _ : Zf).length = H.length + 5 by simp]; exact ZL rfl rfl) (fun k k1 s => by rw [show (H ++ _ : Zf).length = H.length + 5 by simp]; exact ZO rfl) (fun pre s => ∀ z, ptP p = pre ++ z → liF (wsP p) (ptP p) (List.replicate p.who.length 0#64) = liF (wsP p) z s.1) ?_ (fun j pre c s => (j = Code.exit 2 ∧ (liF (wsP p) (ptP p) (List.replicate p.who.length 0#64) = s.1))) rfl ?_ ?_ ?_
    ·exact fun z hz => by rw [hz]; rfl
    ·intro pre c post s hx hI Lp kr kb hkr hkb
     obtain ⟨s9, hs9⟩ := s
     try dsimp only at hI ⊢
     have hs9 : s9.length = p.who.length := hs9
     have hc9 : c ∈ ptP p := by rw [hx]; simp
     obtain ⟨h0, hpc, hcl, _, _⟩ := Yd hc9
     have hbl := @YB (wsP p) c c.length
     have hz := @Yy c c.length
     have hI9 := hI _ hx
     refine ZM (env' := u76) rfl ?_
     refine Zd (Za ?_)
     refine Lo u76 (Zb (.inr rfl) rfl) ?_
     refine Ze (Zc (Za ?_))
     refine Lo u76 (Zb (.inr rfl) rfl) ?_
     refine Ze ?_
     refine ⟨rfl, ⟨s9, hs9⟩, rfl, ?_⟩
     try dsimp only
     refine Zi (Zd (Zd (Za ?_)))
     refine Lo u76 (Zb (.inl rfl) rfl) ?_
     refine Lo u76 (rfl) ?_
     refine Lo u76 (Zg (VVal.int .i64 0) (.inl rfl) rfl) ?_
     refine Ze (Zc (Zi ?_))
     refine Zt (mk 76 75557863514808090885927) (env' := u76) rfl ?_
     refine Zy (fun (b : Nat) => szP c c.length - b) (fun (b : Nat) => [(47, iI (b : Nat))]) (fun (b : Nat) G => (b ≤ szP c c.length) ∧ G = (H ++ [.dead, .cells (((liK (wsP p) c s9 b 0)).map iW) true, .dead, .cells [.slice (some (H.length + 1, 0)) p.who.length p.who.length true 1] true, .cells [.fsl ((wsP p).map iW) p.who.length 1 false] true, kb]) ++ Lp) 0 rfl ?_ ?_
     ·refine ⟨?_, (by rw [liK_0])⟩
      exact Nat.zero_le _
     rintro b _ ⟨hb9, rfl⟩
     refine ZM (env' := u76) rfl ?_
     refine Zd (Za ?_)
     refine Lo u76 (rfl) ?_
     refine Ze (Zc (Zd ?_))
     refine Zk _ rfl (fun hc4 => ?_) (fun hc4 => ?_)
     ·try simp only [qB, qN] at hc4
      refine Zj (Zc (Zd (Zi (Zd (Za ?_)))))
      refine Lo u76 (Zb (.inl rfl) rfl) ?_
      refine Lo u76 (Zb (.inr rfl) rfl) ?_
      refine Ze (Zc (Zd (Za ?_)))
      refine Lo u76 (Zb (.inl rfl) rfl) ?_
      refine Lo u76 (Zb (.inl rfl) rfl) ?_
      refine Zp rfl rfl rfl (by exact MM.Free_spec _ (Yb (wsP p) c c.length) ((b : Nat) : Int) (by omega)) ?_
      rintro _ _ ⟨rfl, rfl⟩; rw [fv_is (by omega) (by omega)]
      refine Le u76 ?_
      refine Lo u76 (Zb (.inr rfl) rfl) ?_
      refine Ze (Zc (Zd (Za ?_)))
      refine Lo u76 (Zb (.inl rfl) rfl) ?_
      refine Lo u76 (rfl) ?_
      refine Lo u76 (Zg (VVal.int .i64 0) (.inl rfl) rfl) ?_
      refine Ze (Zc (Zi ?_))
      refine Zt (mk 76 75557800464413307698215) (env' := u76) rfl ?_
      refine Zy (fun (k : Nat) => c.length - k) (fun (k : Nat) => [(55, iI (k : Nat))]) (fun (k : Nat) G => (k ≤ c.length) ∧ G = (H ++ [.dead, .cells (((liK (wsP p) c s9 b k)).map iW) true, .dead, .cells [.slice (some (H.length + 1, 0)) p.who.length p.who.length true 1] true, .cells [.fsl ((wsP p).map iW) p.who.length 1 false] true, kb]) ++ Lp) 0 rfl ?_ ?_
      ·refine ⟨?_, rfl⟩
       exact Nat.zero_le _
      rintro k _ ⟨hk9, rfl⟩
      refine ZM (env' := u76) rfl ?_
      refine Zd (Za ?_)
      refine Lo u76 (rfl) ?_
      refine Ze (Zc (Zd ?_))
      refine Zk _ rfl (fun hc5 => ?_) (fun hc5 => ?_)
      ·try simp only [qB, qN] at hc5
       refine Zj (Zc (Zd (Zi (Zd (Za ?_)))))
       refine Lo u76 (Zb (.inl rfl) rfl) ?_
       refine Lo u76 (W18 rfl rfl rfl rfl rfl rfl rfl) ?_
       refine Lo u76 (W7u rfl rfl rfl rfl) ?_
       refine Lo u76 (Zb (.inr rfl) rfl) ?_
       refine Lo u76 (Zb (.inr rfl) rfl) ?_
       refine Ze (Zc (Zd (Za ?_)))
       refine Lo u76 (Zb (.inl rfl) rfl) ?_
       refine Lo u76 (Zb (.inl rfl) rfl) ?_
       refine Lo u76 (rfl) ?_
       refine Ze (Zc ?_)
       refine Zk _ rfl (fun hc6 => ?_) (fun hc6 => ?_)
       ·try simp only [qB, qN] at hc6
        refine Za ?_
        refine Lo u76 (W7y rfl rfl rfl rfl) ?_
        refine Lo u76 (Zb (.inl rfl) rfl) ?_
        refine Lo u76 (W7w rfl rfl rfl rfl rfl rfl rfl) ?_
        refine Lo u76 (W7y rfl rfl rfl rfl) ?_
        refine Lo u76 (Zb (.inl rfl) rfl) ?_
        refine Lo u76 (v_orW rfl rfl rfl) ?_
        refine Lo u76 (W7w rfl rfl rfl rfl rfl rfl rfl) ?_
        refine Lo u76 (W7z rfl rfl rfl rfl rfl rfl rfl) ?_
        refine Ze (Zs (Zc (Za ?_)))
        refine Lo u76 (W14 rfl rfl rfl) ?_
        refine Lo u76 (Zb (.inl rfl) rfl) ?_
        refine Ze ?_
        refine Zu (mk 76 75557800464413307698215) (env' := u76) rfl ⟨k + 1, ?_, rfl, ?_⟩
        ·first | omega | (simp only []; omega)
        ·first | exact ⟨by omega, rfl⟩ | exact ⟨by omega, by rw [liK_same (by omega)]⟩
       ·try simp only [qB, qN] at hc6
        refine Zj (Zs (Zc (Za ?_)))
        refine Lo u76 (W14 rfl rfl rfl) ?_
        refine Lo u76 (Zb (.inl rfl) rfl) ?_
        refine Ze ?_
        refine Zu (mk 76 75557800464413307698215) (env' := u76) rfl ⟨k + 1, ?_, rfl, ?_⟩
        ·first | omega | (simp only []; omega)
        ·first | exact ⟨by omega, rfl⟩ | exact ⟨by omega, by rw [liK_same (by omega)]⟩
      ·try simp only [qB, qN] at hc5
       refine ZB (ZD (Zv (ZA (Zs (Zc (Za ?_))))))
       refine Lo u76 (W14 rfl rfl rfl) ?_
       refine Lo u76 (Zb (.inl rfl) rfl) ?_
       refine Ze ?_
       obtain rfl : k = c.length := by omega
       refine Zu (mk 76 75557863514808090885927) (env' := u76) rfl ⟨b + 1, ?_, rfl, ?_⟩
       ·first | omega | (simp only []; omega)
       ·exact ⟨by omega, by rw [liK_next (by omega)]⟩
     ·try simp only [qB, qN] at hc4
      refine ZB (ZD (Zv (ZA (Zc (Zd ?_)))))
      obtain rfl : b = szP c c.length := by omega
      refine Za ?_
      refine Lo u76 (W7y rfl rfl rfl rfl) ?_
      refine Lo u76 (W7y rfl rfl rfl rfl) ?_
      refine Zp rfl rfl rfl (by exact EqualW_n _ (H.length + 1) _ _ true (liU (wsP p) c s9) (wsP p) (getB rfl rfl) (by omega) (by rw [liU_len]; exact hs9) hwl) ?_
      rintro _ _ ⟨rfl, rfl⟩
      refine Le u76 ?_
      refine Ze (Zc ?_)
      refine Zk _ rfl (fun hc7 => ?_) (fun hc7 => ?_)
      ·try simp only [qB, qN] at hc7
       refine ZB ?_
       refine K_blkO rfl ?_
       refine ⟨⟨liU (wsP p) c s9, by rw [liU_len]; exact hs9⟩, [], (by simp [liU]), .inr ⟨Code.exit 2, rfl, ⟨rfl, ?_⟩⟩⟩
       exact hI9.trans ((liF_hit (by assumption)).trans (show wsP p = liU (wsP p) c s9 from (show liU (wsP p) c s9 = wsP p by assumption).symm))
      ·try simp only [qB, qN] at hc7
       refine Zj (Zs ?_)
       refine ⟨⟨liU (wsP p) c s9, by rw [liU_len]; exact hs9⟩, [], (by simp [liU]), .inl ⟨rfl, ?_⟩⟩
       exact fun z hz9 => by rw [hx, List.append_assoc] at hz9; obtain rfl : post = z := (by simpa using hz9); exact hI9.trans (liF_on (by assumption))
    ·intro s k hk hI J9
     obtain ⟨s9, hs9⟩ := s
     try dsimp only at hI ⊢
     have hE : liF (wsP p) (ptP p) (List.replicate p.who.length 0#64) = s9 := (hI [] (List.append_nil _).symm)
     refine Zs (Zc (Zd ?_))
     have hsl : s9.length = p.who.length := by first | exact hs9 | assumption
     refine B_heap (List.append_assoc _ _ _) ?_
     refine Za ?_
     refine Lo u76 (W80 rfl rfl rfl rfl) ?_
     refine Lo u76 (Zb (.inr rfl) rfl) ?_
     refine Ze (Zc ?_)
     refine Yu (Gh.freezeL (l := s9.map iW) 2 1 rfl rfl (Yq (by simp [hsl])) (Nat.le_refl _) rfl) ?_
     refine Zl ?_
     refine W7s (.inr rfl) (Zh rfl rfl) ?_
     exact W7t
    ·rintro j pre c post s k hk hx (⟨rfl, hE⟩) J9
     obtain ⟨s9, hs9⟩ := s
     try dsimp only
     refine J_exit ?_
     refine ZA (Zc (Zd ?_))
     have hsl : s9.length = p.who.length := by first | exact hs9 | assumption
     refine B_heap (List.append_assoc _ _ _) ?_
     refine Za ?_
     refine Lo u76 (W80 rfl rfl rfl rfl) ?_
     refine Lo u76 (Zb (.inr rfl) rfl) ?_
     refine Ze (Zc ?_)
     refine Yu (Gh.freezeL (l := s9.map iW) 2 1 rfl rfl (Yq (by simp [hsl])) (Nat.le_refl _) rfl) ?_
     refine Zl ?_
     refine W7s (.inr rfl) (Zh rfl rfl) ?_
     exact W7t
def pt : Pb := (2, [3#64, 3#64], [-1, -1], [], ())
theorem pt_L : PbL pt := ⟨by decide, by decide, by decide, by decide, fun r hr => by cases hr⟩
theorem pt_n : sumP pt = 4 := by decide +kernel
theorem pt_l : liA pt = [3#64, 3#64] := by decide +kernel
theorem twakes_spec {x : SW} (H : Zf) : F (psys x) 31 [] H fun v G => v = .bool true ∧ G = H := by
 refine Zq Tryd.func31 rfl u22 rfl ?_
 refine Zd (Za ?_)
 refine Lo u22 (Zg (VVal.bool false) (.inr rfl) rfl) ?_
 refine Ze (Zc (Zd (Za ?_)))
 refine Lo u22 (Zz rfl rfl (by decide) rfl) ?_
 refine Lo u22 (Zz rfl rfl (by decide) rfl) ?_
 refine Lo u22 (rfl) ?_
 refine Lo u22 (ZR rfl rfl) ?_
 refine Lo u22 (W13 rfl rfl rfl rfl rfl rfl rfl) ?_
 refine Ze (Zc (Zd (Za ?_)))
 refine L_gh (Gh.cellL (l := [iW 3#64, iW 3#64]) 2 1 0 rfl rfl (by decide) rfl rfl (Nat.le_refl _)) ?_
 refine L_gh (Gh.cellL (l := [iI (-1), iI (-1)]) 2 2 1 rfl rfl (by decide) rfl rfl (Nat.le_refl _)) ?_
 refine L_gh (Gh.cellNilL 2 3 (es' := 3) rfl rfl) ?_
 refine Lo u22 (W11 rfl rfl rfl rfl rfl) ?_
 refine Zp rfl rfl rfl (by exact tLive_spec _ pt pt_L) ?_
 rintro v _ ⟨hv, rfl⟩; rw [pt_l] at hv; subst hv
 refine Le u22 ?_
 refine Lo u22 (Zb (.inr rfl) rfl) ?_
 refine Ze (Zc (Zd (Za ?_)))
 refine Lo u22 (W11 rfl rfl rfl rfl rfl) ?_
 refine Zp rfl rfl rfl (by exact tPlans_spec _ pt pt_L 9#64) ?_
 rintro v _ ⟨hv, rfl⟩; obtain rfl : v = iW 4#64 := hv.trans (congrArg iW (by rw [pt_n]; decide))
 refine Le u22 ?_
 refine Lo u22 (v_is true rfl rfl) ?_
 refine Lo u22 (Zb (.inl rfl) rfl) ?_
 refine Lo u22 (Zb (.inl rfl) rfl) ?_
 refine Lo u22 (rfl) ?_
 refine Lo u22 (v_is true rfl rfl) ?_
 refine Lo u22 (ZN rfl rfl rfl) ?_
 refine Lo u22 (Zb (.inl rfl) rfl) ?_
 refine Lo u22 (Zb (.inl rfl) rfl) ?_
 refine Lo u22 (W18 rfl rfl rfl rfl rfl rfl rfl) ?_
 refine Lo u22 (W12 rfl rfl rfl rfl) ?_
 refine Lo u22 (v_is true rfl rfl) ?_
 refine Lo u22 (ZN rfl rfl rfl) ?_
 refine Lo u22 (Zb (.inr rfl) rfl) ?_
 refine Ze (Zc (Zl ?_))
 refine W10 (.inr rfl) (Zh rfl rfl) ?_
 exact ⟨rfl, rfl⟩
theorem tLoad_any {x : SW} (H : Zf) (p : Pb) (hp : PbL p) : F (psys x) 41 [.agg (pbB p)] H fun v G => v = .tuple [iI ((ldA (ptP p)).1 : Nat), .bool (ldA (ptP p)).2] ∧ G = H := by
  by_cases h : p.who.length = 0
  · exact tLoad_spec0 H p hp h
  · exact tLoad_spec1 H p hp (by omega)
end Go.Proofs.YtenkjadobkjaeaaDoor.VT
