/- Proved: Rows.TallyBoundsCardSaid, the statement TallyBounds with its card, of the given program at the commit; no conditions beyond those in the statement. -/
import Derived.Test.YtenkjadobkjaeaaDoorC10x14
set_option autoImplicit false
set_option linter.unusedVariables false
set_option linter.unusedSimpArgs false
set_option maxHeartbeats 4000000
set_option maxRecDepth 100000
namespace Go.Proofs.YtenkjadobkjaeaaDoor.VT
open Go Go.V Go.RowKit
abbrev u77 {a0 a1 a2 a3 a4 a5 a6 a7 a8 a9 a10 a11 a12 a13 a14 a15 a16 a17 a18 a19 a20 a21 a22 a23 a24 a25 a26 a27 a28 a29 a30 a31 a32 a33 a34 a35 a36 a37 a38 a39 a40 a41 a42 a43 a44 a45 a46 a47 a48 a49 a50 a51 a52 a53 a54 a55 a56 a57 a58 a59 a60 a61 a62 a63 a64 a65 a66 a67 a68 a69 a70 a71 a72 a73 a74 a75 a76 : VVal} : VEnv := a0 :: a1 :: a2 :: a3 :: a4 :: a5 :: a6 :: a7 :: a8 :: a9 :: a10 :: a11 :: a12 :: a13 :: a14 :: a15 :: a16 :: a17 :: a18 :: a19 :: a20 :: a21 :: a22 :: a23 :: a24 :: a25 :: a26 :: a27 :: a28 :: a29 :: a30 :: a31 :: a32 :: a33 :: a34 :: a35 :: a36 :: a37 :: a38 :: a39 :: a40 :: a41 :: a42 :: a43 :: a44 :: a45 :: a46 :: a47 :: a48 :: a49 :: a50 :: a51 :: a52 :: a53 :: a54 :: a55 :: a56 :: a57 :: a58 :: a59 :: a60 :: a61 :: a62 :: a63 :: a64 :: a65 :: a66 :: a67 :: a68 :: a69 :: a70 :: a71 :: a72 :: a73 :: a74 :: a75 :: a76 :: []
namespace MM
theorem minW {a b : BitVec 64} : (if (b.toNat : Int) < (a.toNat : Int) then (b.toNat : Int) else (a.toNat : Int)) = ((Yc a b.toNat).toNat : Int) := by
  rw [Yu]; split <;> omega
theorem rep_w : ∀ {n : Nat}, ZE [VVal.int .u64 0] n = (List.replicate n 0#64).map iW
  | 0 => rfl
  | n + 1 => by rw [ZE, rep_w, List.replicate_succ]; rfl
section
variable {T : TypeId → Option VTy} {ρ : Operand → VVal} {H : Ze} {op : Op}
theorem pow12 {i : Nat} (h : i ≤ 12) : 2 ^ i ≤ 4096 := Nat.pow_le_pow_right (by decide) h
theorem v_shlI1 {t ty : TypeId} {y : Operand} {k : IntKind} {i : Nat} (ho : op = .binOp .shl t (.const (.int .i64 1)) y ty) (hy : ρ y = .int k (i : Nat)) (hr : ρ (.const (.int .i64 1)) = .int .i64 1) (h : i ≤ 12) : vop T ρ H op = some (.int .i64 ((2 ^ i : Nat) : Int), H) := by
  rw [ho]; simp only [vop, hr, hy, vbin, vshift]
  rw [if_neg (by omega), show min (i : Int).toNat IntKind.i64.bits = i from by show min (i : Int).toNat 64 = i; omega, Int.one_mul]
  have e : (2 : Int) ^ i = ((2 ^ i : Nat) : Int) := by rw [Int.natCast_pow]; rfl
  have := pow12 h
  rw [e]
  generalize 2 ^ i = p at this ⊢
  rw [wrap_i _ (by omega)]; rfl
theorem v_shrI {t ty : TypeId} {x y : Operand} {k : IntKind} {s i : Nat} (ho : op = .binOp .shr t x y ty) (hx : ρ x = .int .i64 (s : Nat)) (hy : ρ y = .int k (i : Nat)) (h : i ≤ 12) : vop T ρ H op = some (.int .i64 ((s / 2 ^ i : Nat) : Int), H) := by
  rw [ho]; simp only [vop, hx, hy, vbin, vshift]
  rw [if_neg (by omega), show min (i : Int).toNat IntKind.i64.bits = i from by show min (i : Int).toNat 64 = i; omega]
  have e : (2 : Int) ^ i = ((2 ^ i : Nat) : Int) := by rw [Int.natCast_pow]; rfl
  rw [e, ← Int.ofNat_fdiv]; rfl
end
theorem and1 {n : Nat} (h : n < 2 ^ 63) : vbits .and .i64 (n : Int) 1 = ((n % 2 : Nat) : Int) := by
  show IntKind.i64.wrap ((BitVec.ofInt 64 (n : Int) &&& BitVec.ofInt 64 ((1 : Nat) : Int)).toNat : Int) = _
  rw [BitVec.ofInt_natCast, BitVec.ofInt_natCast, BitVec.toNat_and, BitVec.toNat_ofNat, BitVec.toNat_ofNat, Nat.mod_eq_of_lt (Nat.lt_trans h (by decide)), Nat.mod_eq_of_lt (by decide : 1 < 2 ^ 64), show (1 : Nat) = 2 ^ 1 - 1 from rfl, Nat.and_two_pow_sub_one_eq_mod]
  exact wrap_i _ (by have : n % 2 ^ 1 < 2 := Nat.mod_lt _ (by decide); omega)
theorem tb_is {s i : Nat} (hs : s < 4096) : (vbits .and .i64 ((s / 2 ^ i : Nat) : Int) 1 == 1) = s.testBit i := by
  have h1 : s / 2 ^ i ≤ s := Nat.div_le_self _ _
  rw [and1 (by omega), Nat.testBit_eq_decide_div_mod_eq, Bool.eq_iff_iff, beq_iff_eq, decide_eq_true_eq]; omega
theorem andNot_less {s i : Nat} (hs : s < 4096) (hi : i ≤ 12) (h : s.testBit i = true) : vbits .andNot .i64 (s : Int) ((2 ^ i : Nat) : Int) = ((less s i : Nat) : Int) := by
  have hl := less_lt h
  have hp := pow12 hi
  show IntKind.i64.wrap ((BitVec.ofInt 64 (s : Int) &&& ~~~(BitVec.ofInt 64 ((2 ^ i : Nat) : Int))).toNat : Int) = _
  have e : (BitVec.ofInt 64 (s : Int) &&& ~~~(BitVec.ofInt 64 ((2 ^ i : Nat) : Int))).toNat = less s i := by
    rw [BitVec.ofInt_natCast, BitVec.ofInt_natCast]
    apply Nat.eq_of_testBit_eq
    intro j
    rw [less_bit h]
    by_cases hj : j < 64
    · have : (BitVec.ofNat 64 s &&& ~~~BitVec.ofNat 64 (2 ^ i)).getLsbD j = (s.testBit j && decide (j ≠ i)) := by
        rw [BitVec.getLsbD_and, BitVec.getLsbD_not, BitVec.getLsbD_ofNat, BitVec.getLsbD_ofNat, Nat.testBit_two_pow, decide_eq_true hj]
        by_cases e : j = i
        · subst e; simp
        · have : ¬ i = j := fun x => e x.symm
          simp [e, this]
      exact this
    · have h1 : s.testBit j = false := Nat.testBit_lt_two_pow (Nat.lt_of_lt_of_le (show s < 2 ^ 12 from hs) (Nat.pow_le_pow_right (by decide) (by omega)))
      rw [h1, Bool.false_and]
      exact Nat.testBit_lt_two_pow (Nat.lt_of_lt_of_le (BitVec.isLt _) (Nat.pow_le_pow_right (by decide) (by omega)))
  rw [e]
  exact wrap_i _ (by omega)
theorem way_start {rows : List (BitVec 64)} {most : BitVec 64} : (List.replicate (2 ^ rows.length) 0#64).set 0 (Yc most 1) = wayL rows.length (wU rows most 0) := by
  have h0 : List.replicate (2 ^ rows.length) 0#64 = wayL rows.length fun _ => 0#64 := by
    unfold wayL
    rw [List.map_const', List.length_range]
  rw [h0]
  refine wayL_set ?_ fun s hs hne => ?_
  · unfold wU; rw [wS_0]
  · unfold wU; rw [wS_start hs, if_neg hne, satW_0]
theorem way_top {rows : List (BitVec 64)} {most : BitVec 64} {u : Nat} : wayL rows.length (wU rows most u) = wayL rows.length (wF rows most u (2 ^ rows.length - 1) 0) := wayL_congr fun s hs => by
  unfold wU wF; rw [if_neg (by omega)]; split
  · rename_i h; subst h; rfl
  · rfl
theorem way_down {rows : List (BitVec 64)} {most : BitVec 64} {u s : Nat} (hu : u < 64) (hs : 0 < s) : wayL rows.length (wF rows most u s rows.length) = wayL rows.length (wF rows most u (s - 1) 0) := wayL_congr fun s' hs' => by
  unfold wF
  by_cases h1 : s < s'
  · rw [if_pos h1, if_pos (by omega)]
  · by_cases h2 : s' = s
    · subst h2; rw [if_neg h1, if_pos rfl, if_pos (by omega), wP_all hu]
    · rw [if_neg h1, if_neg h2, if_neg (by omega)]
      by_cases h3 : s' = s - 1
      · rw [if_pos h3, h3]; rfl
      · rw [if_neg h3]
theorem way_end {rows : List (BitVec 64)} {most : BitVec 64} {u : Nat} : wayL rows.length (wF rows most u 0 0) = wayL rows.length (wU rows most (u + 1)) := wayL_congr fun s' _ => by
  unfold wF wU
  by_cases h : s' = 0
  · subst h; rw [if_neg (by omega), if_pos rfl, wS_0]; show Yc most (wS rows u 0) = _; rw [wS_0]
  · rw [if_pos (by omega)]
theorem way_set {rows : List (BitVec 64)} {most : BitVec 64} {u s k : Nat} (hm : most.toNat ≤ 65536) (hs : s < 2 ^ rows.length) (h1 : s.testBit k = true) (h2 : (rows.getD k 0).getLsbD u = true) :
    (wayL rows.length (wF rows most u s k)).set s (Yc most (wP rows u s k + wS rows u (less s k))) = wayL rows.length (wF rows most u s (k + 1)) := by
  refine wayL_set ?_ fun s' hs' hne => ?_
  · unfold wF; rw [if_neg (by omega), if_pos rfl, wP, if_pos ⟨h1, h2⟩]
  · unfold wF; rw [if_neg hne, if_neg hne]
theorem way_same {rows : List (BitVec 64)} {most : BitVec 64} {u s k : Nat} (h : ¬ (s.testBit k = true ∧ (rows.getD k 0).getLsbD u = true)) : wF rows most u s k = wF rows most u s (k + 1) := by
  funext s'
  unfold wF; rw [wP, if_neg h]
theorem way_at {rows : List (BitVec 64)} {most : BitVec 64} {u s k : Nat} (hs : s < 2 ^ rows.length) : (wayL rows.length (wF rows most u s k)).getD s 0 = Yc most (wP rows u s k) := by
  rw [wayL_get hs]; unfold wF; rw [if_neg (by omega), if_pos rfl]
theorem way_less {rows : List (BitVec 64)} {most : BitVec 64} {u s k i : Nat} (hs : s < 2 ^ rows.length) (h : s.testBit i = true) : (wayL rows.length (wF rows most u s k)).getD (less s i) 0 = Yc most (wS rows u (less s i)) := by
  have hl := less_lt h
  rw [wayL_get (by omega)]; unfold wF; rw [if_neg (by omega), if_neg (by omega)]
def coV (rows : List (BitVec 64)) (m : BitVec 64) : BitVec 64 := if rows.length ≤ 12 then Yc m (cnT rows 0#64) else 0#64
theorem mCount_spec {x : SW} (H : Ze) (rows : List (BitVec 64)) (most : BitVec 64) (hl : rows.length ≤ 1000000) : F (psys x) 58 [fzW rows, iW most] H fun v G => v = iW (coV rows (Yc most 65536)) ∧ G = H := by
  refine Zr Tryd.func58 rfl u77 rfl ?_
  refine Zd (Za ?_)
  refine Zq (env' := u77) rfl rfl (Zg (VVal.int .u64 0) (.inr rfl) rfl) rfl ?_
  refine Zf (Zc (Zd (Zd (Za ?_))))
  refine Zq (env' := u77) rfl rfl (Zb (.inl rfl) rfl) rfl ?_
  refine Zn rfl rfl rfl (by exact fits_spec _ _) ?_
  rintro _ _ ⟨rfl, rfl⟩
  refine L_env (env' := u77) rfl ?_
  refine Zq (env' := u77) rfl rfl (rfl) rfl ?_
  refine Zf (Zc ?_)
  refine Zo _ rfl (fun hc1 => ?_) (fun hc1 => ?_)
  · try simp only [decide_eq_true_eq, decide_eq_false_iff_not, Bool.not_eq_true', Bool.not_eq_false', bne_iff_ne, beq_iff_eq, Bool.and_eq_true, Bool.or_eq_true, Bool.not_eq_true, ge_iff_le, gt_iff_lt, Int.not_le, Int.not_lt, beq_eq_false_iff_ne, bne_eq_false_iff_eq, ne_eq, Decidable.not_not, Z4, Ye, Yd] at hc1
    refine Zd (Za ?_)
    refine Zq (env' := u77) rfl rfl (Zg (VVal.int .u64 0) (.inr rfl) rfl) rfl ?_
    refine Zf (Zc (Zl (Zt ?_)))
    refine YE (.inr rfl) (Zi rfl rfl) XH12 XH15 ?_
    first
      | exact ⟨by rw [coV, if_neg (by omega)]; rfl, rfl⟩
      | (obtain rfl : u = 64 := by omega); exact ⟨by rw [coV, if_pos (by omega), show (wayL rows.length (wU rows (Yc most 65536) 64)).getD ((2 ^ rows.length - 1 : Nat) : Int).toNat 0 = _ from wayL_get (by omega)]; unfold wU; rw [Int.toNat_natCast, wS_end], rfl⟩
  · try simp only [decide_eq_true_eq, decide_eq_false_iff_not, Bool.not_eq_true', Bool.not_eq_false', bne_iff_ne, beq_iff_eq, Bool.and_eq_true, Bool.or_eq_true, Bool.not_eq_true, ge_iff_le, gt_iff_lt, Int.not_le, Int.not_lt, beq_eq_false_iff_ne, bne_eq_false_iff_eq, ne_eq, Decidable.not_not, Z4, Ye, Yd] at hc1
    refine Zk (Zc (Zd (Za ?_)))
    have hm : (Yc most 65536).toNat ≤ 65536 := by rw [Yu]; omega
    have hp := pow12 (i := rows.length) (by omega)
    have hp0 : 0 < 2 ^ rows.length := Nat.two_pow_pos _
    refine Zq (env' := u77) rfl rfl (Zb (.inl rfl) rfl) rfl ?_
    refine Zq (env' := u77) rfl rfl (v_val rfl ((congrArg (VVal.int .u64) (minW (a := most) (b := 65536#64))).trans rfl)) rfl ?_
    refine Zq (env' := u77) rfl rfl (Zb (.inr rfl) rfl) rfl ?_
    refine Zf (Zc (Zd (Za ?_)))
    refine Zq (env' := u77) rfl rfl (Zb (.inl rfl) rfl) rfl ?_
    refine Zq (env' := u77) rfl rfl (rfl) rfl ?_
    refine Zq (env' := u77) rfl rfl (v_shlI1 rfl rfl rfl (by omega)) rfl ?_
    refine Zq (env' := u77) rfl rfl (YW rfl rfl rfl rfl rfl (by decide) ⟨by omega, Int.le_refl _, by show ((2 ^ rows.length : Nat) : Int) * (8 : Nat) ≤ _; omega, by omega⟩) rfl ?_
    refine L_heap (H' := H ++ [.cells ((List.replicate (2 ^ rows.length) 0#64).map iW) true]) (by show _ ++ [VBlk.cells (ZE [VVal.int .u64 0] _) true] = _; rw [rep_w]; rfl) ?_
    refine Zq (env' := u77) rfl rfl (Zb (.inr rfl) rfl) rfl ?_
    refine Zf (Zc (Zd (Za ?_)))
    refine Zq (env' := u77) rfl rfl (Zb (.inl rfl) rfl) rfl ?_
    refine Zq (env' := u77) rfl rfl (Zb (.inl rfl) rfl) rfl ?_
    refine Zq (env' := u77) rfl rfl (v_val rfl ((congrArg (VVal.int .u64) (minW (a := 1#64) (b := (Yc most 65536)))).trans (by rw [show Yc 1#64 (Yc most 65536).toNat = Yc (Yc most 65536) 1 from by apply BitVec.eq_of_toNat_eq; rw [Yu, Yu (most := (Yc most 65536)) (n := 1)]; exact Nat.min_comm _ _]))) rfl ?_
    refine Zq (env' := u77) rfl rfl (by first | exact v_idxF rfl rfl rfl rfl rfl rfl rfl (by show (0 : Int) ≤ 0 ∧ (0 : Int) < ((2 ^ rows.length : Nat) : Int); omega) | exact v_idx rfl rfl rfl rfl rfl rfl rfl (by show (0 : Int) ≤ 0 ∧ (0 : Int) < ((2 ^ rows.length : Nat) : Int); omega)) rfl ?_
    refine Zq (env' := u77) rfl rfl (ZT rfl rfl rfl rfl rfl rfl rfl XH8 (by rw [List.length_map, List.length_replicate]; show 0 + 0 * 1 + 1 ≤ _; omega) (by exact (ZF rfl).trans (congrArg (fun c => H ++ [VBlk.cells c true]) ((splice_w (l := List.replicate (2 ^ rows.length) 0#64) (k := 0) (w := Yc (Yc most 65536) 1) (by rw [List.length_replicate]; omega)).trans (by rw [way_start]))))) rfl ?_
    refine Zf (Zc (Zd (Zd (Za ?_))))
    refine Zq (env' := u77) rfl rfl (Zg (VVal.int .i64 0) (.inl rfl) rfl) rfl ?_
    refine Zf (Zc (Zj ?_))
    refine ZC (false :: false :: true :: true :: true :: false :: true :: true :: true :: true :: true :: true :: true :: true :: true :: true :: true :: true :: true :: true :: true :: true :: true :: false :: true :: true :: true :: true :: true :: true :: true :: true :: true :: true :: true :: true :: true :: true :: true :: true :: true :: true :: true :: true :: true :: true :: true :: true :: true :: true :: true :: true :: true :: true :: true :: true :: true :: true :: true :: true :: true :: true :: true :: true :: true :: true :: true :: true :: true :: true :: true :: true :: true :: true :: true :: true :: true :: []) (env' := u77) rfl ?_
    refine ZJ (fun (u : Nat) => 64 - u) (fun (u : Nat) => [(23, iI (u : Nat))]) (fun (u : Nat) G => (u ≤ 64) ∧ G = H ++ [.cells ((wayL rows.length (wU rows (Yc most 65536) u)).map iW) true]) 0 rfl ?_ ?_
    · refine ⟨?_, rfl⟩
      exact Nat.zero_le _
    rintro u _ ⟨hu, rfl⟩
    refine ZU (env' := u77) rfl ?_
    refine Zd (Za ?_)
    refine Zq (env' := u77) rfl rfl (rfl) rfl ?_
    refine Zf (Zc (Zd ?_))
    refine Zo _ rfl (fun hc2 => ?_) (fun hc2 => ?_)
    · try simp only [decide_eq_true_eq, decide_eq_false_iff_not, Bool.not_eq_true', Bool.not_eq_false', bne_iff_ne, beq_iff_eq, Bool.and_eq_true, Bool.or_eq_true, Bool.not_eq_true, ge_iff_le, gt_iff_lt, Int.not_le, Int.not_lt, beq_eq_false_iff_ne, bne_eq_false_iff_eq, ne_eq, Decidable.not_not, Z4, Ye, Yd] at hc2
      refine Zk (Zc (Zd (Zj (Zd (Za ?_)))))
      refine Zq (env' := u77) rfl rfl (Zb (.inl rfl) rfl) rfl ?_
      refine Zq (env' := u77) rfl rfl (Zb (.inr rfl) rfl) rfl ?_
      refine Zf (Zc (Zd (Za ?_)))
      refine Zq (env' := u77) rfl rfl (Zb (.inl rfl) rfl) rfl ?_
      refine Zq (env' := u77) rfl rfl (rfl) rfl ?_
      refine Zq (env' := u77) rfl rfl (v_val (v_subI rfl rfl rfl (by show -9223372036854775808 ≤ ((2 ^ rows.length : Nat) : Int) - 1 ∧ ((2 ^ rows.length : Nat) : Int) - 1 < 9223372036854775808; omega)) (congrArg iI (show ((2 ^ rows.length : Nat) : Int) - 1 = ((2 ^ rows.length - 1 : Nat) : Int) by omega))) rfl ?_
      refine Zq (env' := u77) rfl rfl (Zb (.inr rfl) rfl) rfl ?_
      refine Zf (Zc (Zj ?_))
      refine ZC (false :: false :: true :: true :: true :: false :: false :: false :: true :: true :: true :: true :: true :: true :: true :: true :: true :: true :: true :: true :: true :: true :: true :: false :: true :: true :: true :: true :: true :: true :: true :: true :: true :: true :: true :: true :: true :: true :: true :: true :: true :: true :: true :: true :: true :: true :: true :: true :: true :: true :: true :: true :: true :: true :: true :: true :: true :: true :: true :: true :: true :: true :: true :: true :: true :: true :: true :: true :: true :: true :: true :: true :: true :: true :: true :: true :: true :: []) (env' := u77) rfl ?_
      refine ZJ (fun (s : Nat) => s) (fun (s : Nat) => [(7, iI (s : Nat))]) (fun (s : Nat) G => (s < 2 ^ rows.length) ∧ G = H ++ [.cells ((wayL rows.length (wF rows (Yc most 65536) u s 0)).map iW) true]) (2 ^ rows.length - 1) rfl ?_ ?_
      · refine ⟨?_, (by rw [way_top])⟩
        omega
      rintro s _ ⟨hs, rfl⟩
      refine ZU (env' := u77) rfl ?_
      refine Zd (Zd (Za ?_))
      refine Zq (env' := u77) rfl rfl (Zb (.inl rfl) rfl) rfl ?_
      refine Zq (env' := u77) rfl rfl (rfl) rfl ?_
      refine Zf (Zc ?_)
      refine Zo _ rfl (fun hc3 => ?_) (fun hc3 => ?_)
      · try simp only [decide_eq_true_eq, decide_eq_false_iff_not, Bool.not_eq_true', Bool.not_eq_false', bne_iff_ne, beq_iff_eq, Bool.and_eq_true, Bool.or_eq_true, Bool.not_eq_true, ge_iff_le, gt_iff_lt, Int.not_le, Int.not_lt, beq_eq_false_iff_ne, bne_eq_false_iff_eq, ne_eq, Decidable.not_not, Z4, Ye, Yd] at hc3
        refine Zk (Zc (Zd (Zj (Zd (Za ?_)))))
        refine Zq (env' := u77) rfl rfl (Zb (.inl rfl) rfl) rfl ?_
        refine Zq (env' := u77) rfl rfl (rfl) rfl ?_
        refine Zq (env' := u77) rfl rfl (Zg (VVal.int .i64 0) (.inl rfl) rfl) rfl ?_
        refine Zf (Zc (Zj ?_))
        refine ZC (false :: false :: true :: true :: true :: false :: false :: false :: true :: true :: true :: true :: true :: true :: true :: true :: true :: true :: true :: true :: true :: true :: true :: false :: true :: true :: true :: true :: true :: true :: true :: true :: true :: false :: false :: false :: true :: true :: true :: true :: true :: true :: true :: true :: true :: true :: true :: true :: true :: true :: true :: true :: true :: true :: true :: true :: true :: true :: true :: true :: true :: true :: true :: true :: true :: true :: true :: true :: true :: true :: true :: true :: true :: true :: true :: true :: true :: []) (env' := u77) rfl ?_
        refine ZJ (fun (k : Nat) => rows.length - k) (fun (k : Nat) => [(35, iI (k : Nat))]) (fun (k : Nat) G => (k ≤ rows.length) ∧ G = H ++ [.cells ((wayL rows.length (wF rows (Yc most 65536) u s k)).map iW) true]) 0 rfl ?_ ?_
        · refine ⟨?_, rfl⟩
          exact Nat.zero_le _
        rintro k _ ⟨hk, rfl⟩
        refine ZU (env' := u77) rfl ?_
        refine Zd (Za ?_)
        refine Zq (env' := u77) rfl rfl (rfl) rfl ?_
        refine Zf (Zc (Zd ?_))
        refine Zo _ rfl (fun hc4 => ?_) (fun hc4 => ?_)
        · try simp only [decide_eq_true_eq, decide_eq_false_iff_not, Bool.not_eq_true', Bool.not_eq_false', bne_iff_ne, beq_iff_eq, Bool.and_eq_true, Bool.or_eq_true, Bool.not_eq_true, ge_iff_le, gt_iff_lt, Int.not_le, Int.not_lt, beq_eq_false_iff_ne, bne_eq_false_iff_eq, ne_eq, Decidable.not_not, Z4, Ye, Yd] at hc4
          refine Zk (Zc (Zd (Zj (Zd (Za ?_)))))
          refine Zq (env' := u77) rfl rfl (Zb (.inl rfl) rfl) rfl ?_
          refine Zq (env' := u77) rfl rfl XH45 rfl ?_
          refine Zq (env' := u77) rfl rfl (by first | exact v_loadF rfl rfl rfl rfl (by first | exact fget (α := BitVec 64) 0 (by omega) | exact fget0 (α := BitVec 64) 0 (by omega) | rfl) | exact v_load rfl rfl rfl rfl XH8 (by first | exact fget (α := BitVec 64) 0 (by omega) | exact fget0 (α := BitVec 64) 0 (by omega) | rfl)) rfl ?_
          refine Zq (env' := u77) rfl rfl (Zb (.inr rfl) rfl) rfl ?_
          refine Zq (env' := u77) rfl rfl (Zb (.inr rfl) rfl) rfl ?_
          refine Zf (Zc (Zd (Za ?_)))
          refine Zq (env' := u77) rfl rfl (Zb (.inl rfl) rfl) rfl ?_
          refine Zq (env' := u77) rfl rfl (Zb (.inl rfl) rfl) rfl ?_
          refine Zq (env' := u77) rfl rfl (v_shrI rfl rfl rfl (by omega)) rfl ?_
          refine Zq (env' := u77) rfl rfl (rfl) rfl ?_
          refine Zq (env' := u77) rfl rfl (Yy (s.testBit k) rfl (tb_is (by omega))) rfl ?_
          refine Zq (env' := u77) rfl rfl (Zb (.inl rfl) rfl) rfl ?_
          refine ZL 45 (env1 := u77) (env2 := u77) rfl rfl rfl (fun hg5 => ?_) (fun hg5 => ?_)
          · try simp only [decide_eq_true_eq, decide_eq_false_iff_not, Bool.not_eq_true', Bool.not_eq_false', bne_iff_ne, beq_iff_eq, Bool.and_eq_true, Bool.or_eq_true, Bool.not_eq_true, ge_iff_le, gt_iff_lt, Int.not_le, Int.not_lt, beq_eq_false_iff_ne, bne_eq_false_iff_eq, ne_eq, Decidable.not_not, Z4, Ye, Yd] at hg5
            refine Zq (env' := u77) rfl rfl (Zb (.inl rfl) rfl) rfl ?_
            refine Zq (env' := u77) rfl rfl (Zb (.inl rfl) rfl) rfl ?_
            refine Zq (env' := u77) rfl rfl (v_shrW rfl rfl rfl XH2) rfl ?_
            refine Zq (env' := u77) rfl rfl (v_andW (b := 1#64) rfl rfl rfl) rfl ?_
            refine Zq (env' := u77) rfl rfl (rfl) rfl ?_
            refine Zq (env' := u77) rfl rfl (Zz rfl rfl rfl) rfl ?_
            refine Zf (Zc ?_)
            refine Zo _ rfl (fun hc6 => ?_) (fun hc6 => ?_)
            · try simp only [decide_eq_true_eq, decide_eq_false_iff_not, Bool.not_eq_true', Bool.not_eq_false', bne_iff_ne, beq_iff_eq, Bool.and_eq_true, Bool.or_eq_true, Bool.not_eq_true, ge_iff_le, gt_iff_lt, Int.not_le, Int.not_lt, beq_eq_false_iff_ne, bne_eq_false_iff_eq, ne_eq, Decidable.not_not, Z4, Ye, Yd] at hc6
              refine ZW [0, 1, 2, 3, 4, 5, 6, 7, 8, 9, 10, 11, 12, 13, 14, 15, 16, 17] #[0, 0, 0, 0, 12, 28, 0, 0, 0, 256, 896, 1984, 4032, 8188, 0, 32764, 65535, 131071] XH6 XH6 XH6 ?_
              refine Yb (env' := u77) (c := .calm) rfl rfl rfl (Zb (.inl rfl) rfl) rfl rfl rfl ?_
              refine Yb (env' := u77) (c := .calm) rfl rfl rfl (Zb (.inl rfl) rfl) rfl rfl rfl ?_
              refine Yb (env' := u77) (c := .calm) rfl rfl rfl (Zb (.inl rfl) rfl) rfl rfl rfl ?_
              refine Yb (env' := u77) (c := .calm) rfl rfl rfl (Zb (.inl rfl) rfl) rfl rfl rfl ?_
              refine Yb (env' := u77) (c := .calm) rfl rfl rfl XH45 rfl rfl rfl ?_
              refine Yb (env' := u77) (c := .look) rfl rfl rfl (by first | exact v_loadF rfl rfl rfl rfl (by exact fget0 (α := BitVec 64) (l := wayL rows.length (wF rows (Yc most 65536) u s k)) (n := (s : Nat)) 0 (by rw [wayL_len]; omega)) | exact v_load rfl rfl rfl rfl XH8 (by exact fget0 (α := BitVec 64) (l := wayL rows.length (wF rows (Yc most 65536) u s k)) (n := (s : Nat)) 0 (by rw [wayL_len]; omega))) rfl rfl rfl ?_
              refine Yb (env' := u77) (c := .calm) rfl rfl rfl (Zb (.inl rfl) rfl) rfl rfl rfl ?_
              refine Yb (env' := u77) (c := .calm) rfl rfl rfl (Zb (.inl rfl) rfl) rfl rfl rfl ?_
              refine Yb (env' := u77) (c := .calm) rfl rfl rfl (Zb (.inl rfl) rfl) rfl rfl rfl ?_
              refine Yb (env' := u77) (c := .calm) rfl rfl rfl (v_shlI1 rfl rfl rfl (by omega)) rfl rfl rfl ?_
              refine Yb (env' := u77) (c := .calm) rfl rfl rfl (v_val rfl (congrArg (VVal.int .i64) (andNot_less (by omega) (by omega) (by assumption)))) rfl rfl rfl ?_
              refine Yb (env' := u77) (c := .calm) rfl rfl rfl (by first | exact v_idxF rfl rfl rfl rfl rfl rfl rfl XH33 | exact v_idx rfl rfl rfl rfl rfl rfl rfl XH33) rfl rfl rfl ?_
              refine Yb (env' := u77) (c := .look) rfl rfl rfl (by first | exact v_loadF rfl rfl rfl rfl XH30 | exact v_load rfl rfl rfl rfl XH8 XH30) rfl rfl rfl ?_
              refine Yb (env' := u77) (c := .calm) rfl rfl rfl (v_addW rfl rfl rfl) rfl rfl rfl ?_
              refine Yb (env' := u77) (c := .calm) rfl rfl rfl (Zb (.inl rfl) rfl) rfl rfl rfl ?_
              refine Yb (env' := u77) (c := .calm) rfl rfl rfl (v_val rfl ((congrArg (VVal.int .u64) (by rw [show (wayL rows.length (wF rows (Yc most 65536) u s k)).getD (s : Int).toNat 0 = Yc (Yc most 65536) (wP rows u s k) from way_at hs, show (wayL rows.length (wF rows (Yc most 65536) u s k)).getD ((less s k : Nat) : Int).toNat 0 = Yc (Yc most 65536) (wS rows u (less s k)) from way_less hs (by assumption)]; exact sat_add hm) : _ = VVal.int .u64 ((Yc (Yc most 65536) (wP rows u s k + wS rows u (less s k))).toNat : Int)))) rfl rfl rfl ?_
              refine Yb (env' := u77) (c := .calm) rfl rfl rfl XH45 rfl rfl rfl ?_
              refine Yb (env' := u77) (c := .turn) rfl rfl rfl (ZT rfl rfl rfl rfl rfl rfl rfl XH8 (by rw [List.length_map, wayL_len]; show 0 + s * 1 + 1 ≤ _; omega) (by exact (ZF rfl).trans (congrArg (fun c => H ++ [VBlk.cells c true]) ((splice_w (l := wayL rows.length (wF rows (Yc most 65536) u s k)) (k := s) (w := Yc (Yc most 65536) (wP rows u s k + wS rows u (less s k))) (by rw [wayL_len]; exact hs)).trans (by rw [way_set hm hs (by assumption) (sh1.1 (by assumption))]))))) rfl rfl rfl ?_
              refine Z3 [] XH6 (trivial) ?_
              refine Zu (Zc (Za ?_))
              refine Zq (env' := u77) rfl rfl (v_addI rfl rfl rfl XH2) rfl ?_
              refine Zq (env' := u77) rfl rfl (Zb (.inl rfl) rfl) rfl ?_
              refine Zf ?_
              refine ZD (false :: false :: true :: true :: true :: false :: false :: false :: true :: true :: true :: true :: true :: true :: true :: true :: true :: true :: true :: true :: true :: true :: true :: false :: true :: true :: true :: true :: true :: true :: true :: true :: true :: false :: false :: false :: true :: true :: true :: true :: true :: true :: true :: true :: true :: true :: true :: true :: true :: true :: true :: true :: true :: true :: true :: true :: true :: true :: true :: true :: true :: true :: true :: true :: true :: true :: true :: true :: true :: true :: true :: true :: true :: true :: true :: true :: true :: []) (env' := u77) rfl ⟨k + 1, ?_, rfl, ?_⟩
              · first | omega | (simp only []; omega)
              · first | exact ⟨by omega, rfl⟩ | exact ⟨by omega, by rw [way_same (fun e => absurd e.1 (not_of_f (by assumption)))]⟩ | exact ⟨by omega, by rw [way_same (fun e => absurd (sh1.2 e.2) (by assumption))]⟩
            · try simp only [decide_eq_true_eq, decide_eq_false_iff_not, Bool.not_eq_true', Bool.not_eq_false', bne_iff_ne, beq_iff_eq, Bool.and_eq_true, Bool.or_eq_true, Bool.not_eq_true, ge_iff_le, gt_iff_lt, Int.not_le, Int.not_lt, beq_eq_false_iff_ne, bne_eq_false_iff_eq, ne_eq, Decidable.not_not, Z4, Ye, Yd] at hc6
              refine Zk (Zu (Zc (Za ?_)))
              refine Zq (env' := u77) rfl rfl (v_addI rfl rfl rfl XH2) rfl ?_
              refine Zq (env' := u77) rfl rfl (Zb (.inl rfl) rfl) rfl ?_
              refine Zf ?_
              refine ZD (false :: false :: true :: true :: true :: false :: false :: false :: true :: true :: true :: true :: true :: true :: true :: true :: true :: true :: true :: true :: true :: true :: true :: false :: true :: true :: true :: true :: true :: true :: true :: true :: true :: false :: false :: false :: true :: true :: true :: true :: true :: true :: true :: true :: true :: true :: true :: true :: true :: true :: true :: true :: true :: true :: true :: true :: true :: true :: true :: true :: true :: true :: true :: true :: true :: true :: true :: true :: true :: true :: true :: true :: true :: true :: true :: true :: true :: []) (env' := u77) rfl ⟨k + 1, ?_, rfl, ?_⟩
              · first | omega | (simp only []; omega)
              · first | exact ⟨by omega, rfl⟩ | exact ⟨by omega, by rw [way_same (fun e => absurd e.1 (not_of_f (by assumption)))]⟩ | exact ⟨by omega, by rw [way_same (fun e => absurd (sh1.2 e.2) (by assumption))]⟩
          · try simp only [decide_eq_true_eq, decide_eq_false_iff_not, Bool.not_eq_true', Bool.not_eq_false', bne_iff_ne, beq_iff_eq, Bool.and_eq_true, Bool.or_eq_true, Bool.not_eq_true, ge_iff_le, gt_iff_lt, Int.not_le, Int.not_lt, beq_eq_false_iff_ne, bne_eq_false_iff_eq, ne_eq, Decidable.not_not, Z4, Ye, Yd] at hg5
            refine L_off (env' := u77) rfl rfl ?_
            refine L_off (env' := u77) rfl rfl ?_
            refine L_off (env' := u77) rfl rfl ?_
            refine L_off (env' := u77) rfl rfl ?_
            refine L_off (env' := u77) rfl rfl ?_
            refine Zq (env' := u77) rfl rfl (ZN (VVal.bool false) rfl rfl rfl) rfl ?_
            refine Zf (Zc ?_)
            refine ZV rfl rfl ?_
            refine Zk (Zu (Zc (Za ?_)))
            refine Zq (env' := u77) rfl rfl (v_addI rfl rfl rfl XH2) rfl ?_
            refine Zq (env' := u77) rfl rfl (Zb (.inl rfl) rfl) rfl ?_
            refine Zf ?_
            refine ZD (false :: false :: true :: true :: true :: false :: false :: false :: true :: true :: true :: true :: true :: true :: true :: true :: true :: true :: true :: true :: true :: true :: true :: false :: true :: true :: true :: true :: true :: true :: true :: true :: true :: false :: false :: false :: true :: true :: true :: true :: true :: true :: true :: true :: true :: true :: true :: true :: true :: true :: true :: true :: true :: true :: true :: true :: true :: true :: true :: true :: true :: true :: true :: true :: true :: true :: true :: true :: true :: true :: true :: true :: true :: true :: true :: true :: true :: []) (env' := u77) rfl ⟨k + 1, ?_, rfl, ?_⟩
            · first | omega | (simp only []; omega)
            · first | exact ⟨by omega, rfl⟩ | exact ⟨by omega, by rw [way_same (fun e => absurd e.1 (not_of_f (by assumption)))]⟩ | exact ⟨by omega, by rw [way_same (fun e => absurd (sh1.2 e.2) (by assumption))]⟩
        · try simp only [decide_eq_true_eq, decide_eq_false_iff_not, Bool.not_eq_true', Bool.not_eq_false', bne_iff_ne, beq_iff_eq, Bool.and_eq_true, Bool.or_eq_true, Bool.not_eq_true, ge_iff_le, gt_iff_lt, Int.not_le, Int.not_lt, beq_eq_false_iff_ne, bne_eq_false_iff_eq, ne_eq, Decidable.not_not, Z4, Ye, Yd] at hc4
          refine ZP (ZR (ZH (ZO (Zu (Zc (Za ?_))))))
          refine Zq (env' := u77) rfl rfl (Zb (.inl rfl) rfl) rfl ?_
          refine Zq (env' := u77) rfl rfl (v_subI rfl rfl rfl XH2) rfl ?_
          refine Zq (env' := u77) rfl rfl (Zb (.inr rfl) rfl) rfl ?_
          refine Zf ?_
          obtain rfl : k = rows.length := by omega
          rw [show (s : Int) - 1 = ((s - 1 : Nat) : Int) by omega]
          refine ZD (false :: false :: true :: true :: true :: false :: false :: false :: true :: true :: true :: true :: true :: true :: true :: true :: true :: true :: true :: true :: true :: true :: true :: false :: true :: true :: true :: true :: true :: true :: true :: true :: true :: true :: true :: true :: true :: true :: true :: true :: true :: true :: true :: true :: true :: true :: true :: true :: true :: true :: true :: true :: true :: true :: true :: true :: true :: true :: true :: true :: true :: true :: true :: true :: true :: true :: true :: true :: true :: true :: true :: true :: true :: true :: true :: true :: true :: []) (env' := u77) rfl ⟨(s - 1), ?_, rfl, ?_⟩
          · first | omega | (simp only []; omega)
          · exact ⟨by omega, by rw [way_down (by omega) (by omega)]⟩
      · try simp only [decide_eq_true_eq, decide_eq_false_iff_not, Bool.not_eq_true', Bool.not_eq_false', bne_iff_ne, beq_iff_eq, Bool.and_eq_true, Bool.or_eq_true, Bool.not_eq_true, ge_iff_le, gt_iff_lt, Int.not_le, Int.not_lt, beq_eq_false_iff_ne, bne_eq_false_iff_eq, ne_eq, Decidable.not_not, Z4, Ye, Yd] at hc3
        refine ZP (ZR (ZH (ZO (Zu (Zc (Za ?_))))))
        refine Zq (env' := u77) rfl rfl (v_addI rfl rfl rfl XH2) rfl ?_
        refine Zq (env' := u77) rfl rfl (Zb (.inl rfl) rfl) rfl ?_
        refine Zf ?_
        refine ZD (false :: false :: true :: true :: true :: false :: true :: true :: true :: true :: true :: true :: true :: true :: true :: true :: true :: true :: true :: true :: true :: true :: true :: false :: true :: true :: true :: true :: true :: true :: true :: true :: true :: true :: true :: true :: true :: true :: true :: true :: true :: true :: true :: true :: true :: true :: true :: true :: true :: true :: true :: true :: true :: true :: true :: true :: true :: true :: true :: true :: true :: true :: true :: true :: true :: true :: true :: true :: true :: true :: true :: true :: true :: true :: true :: true :: true :: []) (env' := u77) rfl ⟨u + 1, ?_, rfl, ?_⟩
        · first | omega | (simp only []; omega)
        · exact ⟨by omega, by rw [← way_end, show s = 0 by omega]⟩
    · try simp only [decide_eq_true_eq, decide_eq_false_iff_not, Bool.not_eq_true', Bool.not_eq_false', bne_iff_ne, beq_iff_eq, Bool.and_eq_true, Bool.or_eq_true, Bool.not_eq_true, ge_iff_le, gt_iff_lt, Int.not_le, Int.not_lt, beq_eq_false_iff_ne, bne_eq_false_iff_eq, ne_eq, Decidable.not_not, Z4, Ye, Yd] at hc2
      refine ZP (ZR (ZH (ZO (Zc (Zd (Za ?_))))))
      refine Zq (env' := u77) rfl rfl (Zb (.inl rfl) rfl) rfl ?_
      refine Zq (env' := u77) rfl rfl (Zb (.inl rfl) rfl) rfl ?_
      refine Zq (env' := u77) rfl rfl (rfl) rfl ?_
      refine Zq (env' := u77) rfl rfl (v_val (v_subI rfl rfl rfl (by show -9223372036854775808 ≤ ((2 ^ rows.length : Nat) : Int) - 1 ∧ ((2 ^ rows.length : Nat) : Int) - 1 < 9223372036854775808; omega)) (congrArg iI (show ((2 ^ rows.length : Nat) : Int) - 1 = ((2 ^ rows.length - 1 : Nat) : Int) by omega))) rfl ?_
      refine Zq (env' := u77) rfl rfl XH45 rfl ?_
      refine Zq (env' := u77) rfl rfl (by first | exact v_loadF rfl rfl rfl rfl XH35 | exact v_load rfl rfl rfl rfl XH8 XH35) rfl ?_
      refine Zq (env' := u77) rfl rfl (Zb (.inr rfl) rfl) rfl ?_
      refine Zf (Zc (Zl ?_))
      refine YE (.inr rfl) (Zi rfl rfl) XH12 XH15 ?_
      first
        | exact ⟨by rw [coV, if_neg (by omega)]; rfl, rfl⟩
        | (obtain rfl : u = 64 := by omega); exact ⟨by rw [coV, if_pos (by omega), show (wayL rows.length (wU rows (Yc most 65536) 64)).getD ((2 ^ rows.length - 1 : Nat) : Int).toNat 0 = _ from wayL_get (by omega)]; unfold wU; rw [Int.toNat_natCast, wS_end], rfl⟩
end MM
open Go Go.V Go.RowKit
abbrev seB (w : BitVec 64) : VBlk := .cells [iW w] true
theorem not_of_f {b : Bool} (h : b = false) : ¬ b = true := by rw [h]; decide
theorem beq_nat {a b : Nat} : ((a : Int) == (b : Int)) = (a == b) := Bool.eq_iff_iff.2 (by rw [beq_iff_eq, beq_iff_eq]; omega)
section
variable {H L : Ze} {p q : Nat} {s : HSt}
end
namespace MM
end MM
open Go Go.V Go.RowKit
def sumP (p : Pb) : Nat := ((ptP p).map (cnA (wsP p))).sum
theorem W65 {T : TypeId → Option VTy} {H : Ze} {op : Op} {ρ : Operand → VVal} {t : TypeId} {a : Operand} {y : VTy} {p v : VVal} (ho : op = .load t a) (ha : ρ a = p) (hy : T t = some y) (hd : Zm y.desc = false) (h : LdOk H p v := by first | exact .inl ⟨_, _, rfl, XH48⟩ | exact .inr ⟨_, _, _, _, rfl, by first | exact Zp (ZB rfl rfl) | exact ZB rfl rfl | exact getB rfl rfl, XH48⟩) : vop T ρ H op = some (v, H) := v_ld ho ha hy hd h
theorem W67 {P : Prop} (h : P := by first | exact ⟨congrArg iW (by rw [hI]; rfl), rfl⟩ | exact ⟨congrArg iW (by rw [hX1, satW_full hX1 hX2]), rfl⟩) : P := h
theorem pl_step {ws : List (BitVec 64)} {a : List Nat} {most : BitVec 64} {s : Nat} (h : (Ya ws a a.length).length ≤ 12) : Yc (Yc most 65536) s + MM.coV (Ya ws a a.length) (Yc ((Yc most 65536) - Yc (Yc most 65536) s) 65536) = Yc (Yc most 65536) (s + cnA ws a) := by
  unfold MM.coV
  rw [if_pos h]
  exact sat_more (by rw [Yu]; omega)
theorem sum_split {f : List Nat → Nat} {l pre post : List (List Nat)} {a : List Nat} (h : l = pre ++ a :: post) : ((pre ++ [a]).map f).sum = (pre.map f).sum + f a ∧ ((pre ++ [a]).map f).sum ≤ (l.map f).sum := by
  subst h
  simp only [List.map_append, List.sum_append, List.map_cons, List.sum_cons, List.map_nil, List.sum_nil]
  omega
theorem tPlans_spec {x : SW} (H : Ze) (p : Pb) (hp : PbL p) (most : BitVec 64) : F (psys x) 29 [.agg (pbB p), iW most] H fun v G => v = iW (Yc (Yc most 65536) (sumP p)) ∧ G = H := by
 refine Zr Tryd.func29 rfl u25 rfl ?_
 refine Zd (Za ?_)
 refine Lo u25 (Zy rfl rfl rfl) ?_
 refine Lo u25 (Zy rfl rfl rfl) ?_
 refine Lo u25 (Zg (VVal.int .u64 0) (.inr rfl) rfl) ?_
 refine Zf (Zc (Zd ?_))
 refine Yp (Gh.freezePtrL (cs := pbB p) 2 0 rfl rfl rfl) ?_
 refine Za ?_
 refine Lo u25 (W12 rfl rfl rfl rfl) ?_
 refine Lo u25 (v_val rfl ((congrArg (VVal.int .u64) (MM.minW (a := most) (b := 65536#64))).trans rfl)) ?_
 refine Lo u25 (W13 rfl rfl rfl rfl rfl rfl rfl) ?_
 refine Zf (Zc (Zd (Za ?_)))
 refine Lo u25 (ZA rfl rfl) ?_
 refine Lo u25 (Z6 (VVal.int .u64 0) rfl rfl rfl rfl rfl rfl rfl XH0 XH3 XH1) ?_
 refine Zf (Zc (Zd (Zd (Za ?_))))
 refine Lo u25 (W11 rfl rfl rfl rfl rfl) ?_
 refine Zn rfl rfl rfl (by exact tpat_spec _ p) ?_
 rintro _ _ ⟨rfl, rfl⟩
 refine Le u25 ?_
 refine Zf (Zc (Zj ?_))
 refine ZC (mk 25 33552343) (env' := u25) rfl ?_
 refine B_rangeJ (fvP p) 2 (fun _ => rfl) (ptP p) (fun l0 h => by cases h) rfl (fun l9 G9 K9 hI9 => tpat1_spec l9 p hp G9 K9 hI9) (σ := Nat) (fun k s => H ++ [.dead, .cells [iW (Yc most 65536)] true, .cells [iW (Yc (Yc most 65536) s)] true, k]) 0 (fun k => by rw [List.append_assoc]; show _ = H ++ [.dead, .cells [iW (Yc most 65536)] true, .cells [iW (Yc (Yc most 65536) 0)] true, k]; rw [satW_0]; rfl) (fun k s => by simp) (fun k s => by rw [show (H ++ _ : Ze).length = H.length + 3 by simp]; exact ZB rfl rfl) (fun k k1 s => by rw [show (H ++ _ : Ze).length = H.length + 3 by simp]; exact ZF rfl) (fun pre s => s = (pre.map (cnA (wsP p))).sum) ?_ (fun j pre c s => (j = Code.exit 0 ∧ (Yc (Yc most 65536) s = (Yc most 65536) ∧ s ≤ sumP p))) rfl ?_ ?_ ?_
 ·rfl
 ·intro pre c post s hx hI Lp kr kb hkr hkb
  try dsimp only at hI ⊢
  have hc9 : c ∈ ptP p := by rw [hx]; simp
  obtain ⟨h0, hpc, hcl, _, _⟩ := Yt hc9
  have g1 := (pck_good.1 h0).n12
  have hbl := @YY (wsP p) c c.length
  have hz := @Y4 c c.length
  obtain ⟨hs1, hs2⟩ := sum_split (f := cnA (wsP p)) hx
  refine ZU (env' := u25) rfl ?_
  refine Za ?_
  refine Lo u25 (Zb (.inr rfl) rfl) ?_
  refine Zf ?_
  refine ⟨rfl, s, rfl, ?_⟩
  try dsimp only
  refine Zj (Zd ?_)
  refine ZW [0, 1, 2, 3, 4, 5, 6, 7] #[0, 0, 0, 0, 12, 30, 63, 127] XH6 XH6 XH6 ?_
  refine Yh (env' := u25) (x := .look _ _) rfl rfl rfl (W12 rfl rfl rfl rfl) rfl rfl rfl ?_
  refine Oo u25 .calm rfl (Zb (.inl rfl) rfl) ?_
  refine Oo u25 .look rfl (W12 rfl rfl rfl rfl) ?_
  refine Oo u25 .look rfl (W12 rfl rfl rfl rfl) ?_
  refine Oo u25 .calm rfl (v_subW rfl rfl rfl) ?_
  refine Yf (env' := u25) rfl rfl rfl rfl rfl (by exact MM.mCount_spec _ (Ya (wsP p) c c.length) ((Yc most 65536) - Yc (Yc most 65536) s) (by omega)) XH9 rfl rfl ?_
  refine Oo u25 .calm rfl (v_val (v_addW rfl rfl rfl) (congrArg iW (pl_step (s := s) (a := c) (ws := wsP p) (most := most) (by omega)))) ?_
  refine Oo u25 .turn rfl (W13 rfl rfl rfl rfl rfl rfl rfl) ?_
  refine O_nilP [(0, 5)] XH6 (And.intro ⟨_, _, _, _, ⟨(gA (gA (gA (gA (gA (gA (gA (gL XH6)))))))), (gA (gA (gL XH6))), And.intro (W12 rfl rfl rfl rfl) (W12 rfl rfl rfl rfl)⟩⟩ (trivial)) ?_
  refine Zc (Zd (Za ?_))
  refine Lo u25 (W12 rfl rfl rfl rfl) ?_
  refine Lo u25 (W12 rfl rfl rfl rfl) ?_
  refine Lo u25 (rfl) ?_
  refine Zf (Zc ?_)
  refine Zo _ rfl (fun hc1 => ?_) (fun hc1 => ?_)
  ·try simp only [qB, qN] at hc1
   refine ZP ?_
   refine K_blkO rfl ?_
   refine ⟨s + cnA (wsP p) c, [], (by simp; rfl), .inr ⟨Code.exit 0, rfl, ⟨rfl, ?_⟩⟩⟩
   exact ⟨hc1, by rw [hI, ← hs1]; exact hs2⟩
  ·try simp only [qB, qN] at hc1
   refine Zk (Zu ?_)
   refine ⟨s + cnA (wsP p) c, [], (by simp; rfl), .inl ⟨rfl, ?_⟩⟩
   rw [hs1, hI]
 ·intro s k hk hI J9
  try dsimp only at hI ⊢
  refine Zu (Zc (Zd ?_))
  try refine Yi (List.append_assoc _ _ _) ?_
  refine Za ?_
  refine Lo u25 (W65 rfl rfl rfl rfl) ?_
  refine Lo u25 (Zb (.inr rfl) rfl) ?_
  refine Zf (Zc (Zl ?_))
  refine W10 (.inr rfl) (Zi rfl rfl) ?_
  exact W67
 ·rintro j pre c post s k hk hx (⟨rfl, ⟨hX1, hX2⟩⟩) J9
  try dsimp only
  skip
  refine J_exit ?_
  refine ZO (Zc (Zd ?_))
  try refine Yi (List.append_assoc _ _ _) ?_
  refine Za ?_
  refine Lo u25 (W65 rfl rfl rfl rfl) ?_
  refine Lo u25 (Zb (.inr rfl) rfl) ?_
  refine Zf (Zc (Zl ?_))
  refine W10 (.inr rfl) (Zi rfl rfl) ?_
  exact W67
abbrev u26 {a0 a1 a2 a3 a4 a5 a6 a7 a8 a9 a10 a11 a12 a13 a14 a15 a16 a17 a18 a19 a20 a21 a22 a23 a24 a25 : VVal} : VEnv := a0 :: a1 :: a2 :: a3 :: a4 :: a5 :: a6 :: a7 :: a8 :: a9 :: a10 :: a11 :: a12 :: a13 :: a14 :: a15 :: a16 :: a17 :: a18 :: a19 :: a20 :: a21 :: a22 :: a23 :: a24 :: a25 :: []
theorem W6a {T : TypeId → Option VTy} {H : Ze} {op : Op} {ρ : Operand → VVal} {t : TypeId} {a : Operand} {y : VTy} {p v : VVal} (ho : op = .load t a) (ha : ρ a = p) (hy : T t = some y) (hd : Zm y.desc = false) (h : LdOk H p v := by first | exact .inl ⟨_, _, rfl, by first | exact fget (α := BitVec 64) 0 (by omega) | exact fget0 (α := BitVec 64) 0 (by omega) | exact Y5 (α := BitVec 64) 0 (by omega)⟩ | exact .inr ⟨_, _, _, _, rfl, by exact Zp hb, by first | exact fget (α := BitVec 64) 0 (by omega) | exact fget0 (α := BitVec 64) 0 (by omega) | exact Y5 (α := BitVec 64) 0 (by omega)⟩) : vop T ρ H op = some (v, H) := v_ld ho ha hy hd h
theorem W6c {T : TypeId → Option VTy} {H : Ze} {op : Op} {ρ : Operand → VVal} {t : TypeId} {a : Operand} {y : VTy} {p : VVal} {n : Nat} {vs : List VVal} (ho : op = .load t a) (ha : ρ a = p) (hy : T t = some y) (hd : Zm y.desc = true) (hn : y.size = n) (h : LdOkA H p n vs := by first | exact .inl ⟨_, _, rfl, XH51⟩ | exact .inr ⟨_, _, _, _, rfl, XH47, XH51⟩) : vop T ρ H op = some (.agg vs, H) := v_ldA ho ha hy hd hn h
theorem W6d {S : V.Sys} {H : Ze} {fn : Func} {ex : Exit} {env : VEnv} {B L : Ze} {v : VVal} {R : VVal → Ze → Prop} (hx : ex = .normal ∨ ex = .ret) (hv : ZZ S.C.T env (B ++ L) fn.results = some v) (h : R v B) (hB : BaseOk H B := by exact XH54) (hu : v.under H.length = true := by first | rfl | exact YX _ _) : fnK S fn H R ex env (B ++ L) := YE hx hv hB hu h
theorem W6e {P : Prop} (h : P := by first | exact ⟨by rw [liA_no (by assumption)]; rfl, rfl⟩ | exact ⟨by rw [liA_0 (by omega)]; rfl, rfl⟩ | exact ⟨by rw [liA_in h0, hE]; show _ = VVal.fsl _ s9.length 1 false; rw [hsl], rfl⟩) : P := h
theorem W6f {T : TypeId → Option VTy} {H : Ze} {op : Op} {ρ : Operand → VVal} {t : TypeId} {a : Operand} {y : VTy} {p v : VVal} (ho : op = .load t a) (ha : ρ a = p) (hy : T t = some y) (hd : Zm y.desc = false) (h : LdOk H p v := by first | exact .inl ⟨_, _, rfl, XH51⟩ | exact .inr ⟨_, _, _, _, rfl, XH47, XH51⟩) : vop T ρ H op = some (v, H) := v_ld ho ha hy hd h
theorem W6h {T : TypeId → Option VTy} {H : Ze} {op : Op} {ρ : Operand → VVal} {t e : TypeId} {x i : Operand} {y z : VTy} {k : IntKind} {n : Int} {p v : VVal} {es : Nat} (ho : op = .indexAddr t x i) (hx : ρ x = p) (hi : ρ i = .int k n) (hy : T t = some y) (hd : y.desc = .slice e) (hz : T e = some z) (hs : z.size = es) (h : IxOk p es n v := by first | exact .inl ⟨_, _, _, rfl, by constructor <;> omega, rfl⟩ | exact .inr ⟨_, _, _, _, _, rfl, by constructor <;> omega, rfl⟩) : vop T ρ H op = some (v, H) := v_ix ho hx hi hy hd hz hs h
theorem W6i {T : TypeId → Option VTy} {H : Ze} {op : Op} {ρ : VEnv} {H' : Ze} {t : TypeId} {a : Operand} {i : Nat} {v : VVal} {y : VTy} {b off : Nat} {cs new : List VVal} (ho : op = .store t a (.tmp i)) (hv : ρ[i]? = some v) (ha : ρ.eval a = .ptr (some (b, off))) (hy : T t = some y) (hx : v.cells = some new) (hn : new.length = y.size) (h1 : new.all VVal.one = true) (hb : H[b]? = some (.cells cs true) := by exact XH47) (hl : off + new.length ≤ cs.length := by show 0 + ((k : Nat) : Int).toNat * 1 + 1 ≤ _; rw [List.length_map, wsK_len]; omega) (hH : H.set b (.cells (Zv cs off new) true) = H' := by exact (ZF rfl).trans (congrArg (fun z => H ++ [VBlk.dead, _, VBlk.cells z true, _, _]) (wsK_set (by omega)))) : vop T ρ.eval H op = some (.skip, H') := ZT ho hv ha hy hx hn h1 hb hl hH
theorem W6j {T : TypeId → Option VTy} {H : Ze} {op : Op} {ρ : Operand → VVal} {t : TypeId} {a : Operand} {y : VTy} {p v : VVal} (ho : op = .load t a) (ha : ρ a = p) (hy : T t = some y) (hd : Zm y.desc = false) (h : LdOk H p v := by first | exact .inl ⟨_, _, rfl, XH51⟩ | exact .inr ⟨_, _, _, _, rfl, by exact getB rfl rfl, XH51⟩) : vop T ρ H op = some (v, H) := v_ld ho ha hy hd h
theorem W6k {T : TypeId → Option VTy} {H : Ze} {op : Op} {ρ : VEnv} {H' : Ze} {t : TypeId} {a : Operand} {i : Nat} {v : VVal} {y : VTy} {b off : Nat} {cs new : List VVal} (ho : op = .store t a (.tmp i)) (hv : ρ[i]? = some v) (ha : ρ.eval a = .ptr (some (b, off))) (hy : T t = some y) (hx : v.cells = some new) (hn : new.length = y.size) (h1 : new.all VVal.one = true) (hb : H[b]? = some (.cells cs true) := by exact getB rfl rfl) (hl : off + new.length ≤ cs.length := by show 0 + ((k : Nat) : Int).toNat * 1 + 1 ≤ _; rw [List.length_map, YJ]; omega) (hH : H.set b (.cells (Zv cs off new) true) = H' := by exact (setB rfl (show 1 < 6 by decide)).trans (congrArg (fun z => (H ++ [VBlk.dead, VBlk.cells z true, _, _, _, _]) ++ _) (liK_st (by omega) (by omega)))) : vop T ρ.eval H op = some (.skip, H') := ZT ho hv ha hy hx hn h1 hb hl hH
theorem W6l {T : TypeId → Option VTy} {H : Ze} {op : Op} {ρ : Operand → VVal} {t : TypeId} {a : Operand} {y : VTy} {p v : VVal} (ho : op = .load t a) (ha : ρ a = p) (hy : T t = some y) (hd : Zm y.desc = false) (h : LdOk H p v := by first | exact .inl ⟨_, _, rfl, XH51⟩ | exact .inr ⟨_, _, _, _, rfl, by exact ZB rfl rfl, XH51⟩) : vop T ρ H op = some (v, H) := v_ld ho ha hy hd h
def liA (p : Pb) : List (BitVec 64) := if pck p = 0 then liF (wsP p) (ptP p) (List.replicate p.who.length 0#64) else []
theorem liA_no {p : Pb} (h : ¬ pck p = 0) : liA p = [] := if_neg h
theorem liA_in {p : Pb} (h : pck p = 0) : liA p = liF (wsP p) (ptP p) (List.replicate p.who.length 0#64) := if_pos h
theorem liA_len {p : Pb} (h : pck p = 0) : (liA p).length = p.who.length := by rw [liA_in h, liF_len (by rw [List.length_replicate, Ys]), Ys]
theorem liA_0 {p : Pb} (h : p.who.length = 0) : liA p = [] := by
  by_cases e : pck p = 0
  · exact List.eq_nil_of_length_eq_zero ((liA_len e).trans h)
  · exact liA_no e
def wsK (p : Pb) (k : Nat) : List (BitVec 64) := (List.range p.who.length).map fun i => if i < k then wrd p i else 0#64
theorem wsK_len {p : Pb} {k : Nat} : (wsK p k).length = p.who.length := by unfold wsK; simp
theorem wsK_0 {p : Pb} : wsK p 0 = List.replicate p.who.length 0#64 := by
  apply List.ext_getElem (by rw [wsK_len, List.length_replicate])
  intro i h1 h2
  unfold wsK; simp
theorem wsK_all {p : Pb} : wsK p p.who.length = wsP p := by
  apply List.ext_getElem (by rw [wsK_len, Ys])
  intro i h1 h2
  simp only [wsK_len] at h1
  simp [wsK, wsP, h1]
theorem wsK_set {p : Pb} {k : Nat} (h : k < p.who.length) : Zv ((wsK p k).map iW) (0 + ((k : Nat) : Int).toNat * 1) [iW (wrd p k)] = (wsK p (k + 1)).map iW := by
  rw [Int.toNat_natCast, spl_W (by rw [wsK_len]; exact h)]
  congr 1
  apply List.ext_getElem (by rw [List.length_set, wsK_len, wsK_len])
  intro i h1 h2
  have h3 : i < p.who.length := by rw [wsK_len] at h2; exact h2
  rw [List.getElem_set]
  by_cases e : k = i
  · subst e; simp [wsK]
  · have e3 : i < k ↔ i < k + 1 := by omega
    simp [wsK, e, e3]
theorem liK_st {ws : List (BitVec 64)} {a : List Nat} {l : List (BitVec 64)} {b k : Nat} (hk : k < l.length) (h : a.getD k 0 = b) : Zv ((liK ws a l b k).map iW) (0 + ((k : Nat) : Int).toNat * 1) [iW ((liK ws a l b k).getD ((k : Nat) : Int).toNat 0 ||| frW (Ya ws a a.length) b)] = (liK ws a l b (k + 1)).map iW := by
  rw [Int.toNat_natCast, spl_W (by rw [YJ]; exact hk), liK_set hk h]
theorem fv_is {l : List (BitVec 64)} {b : Nat} (h1 : l.length ≤ 12) (h2 : b < l.length) : MM.freeV l ((b : Nat) : Int) = frW l b := by
  unfold MM.freeV; rw [if_pos ⟨h1, by omega, by omega⟩, Int.toNat_natCast]
theorem EqualW_spec {x : SW} (H : Ze) (b : Nat) (e : Bool) (l m : List (BitVec 64)) (hb : H[b]? = some (.cells (l.map iW) true)) (h1 : l.length ≤ 1000000) : F (psys x) 62 [.slice (some (b, 0)) l.length l.length e 1, fzW m] H fun v G => v = .bool (decide (l = m)) ∧ G = H := by
 refine Zr Tryd.func62 rfl u26 rfl ?_
 refine Zd (Za ?_)
 refine Lo u26 (Zg (VVal.bool false) (.inr rfl) rfl) ?_
 refine Zf (Zc (Zd (Zd (Za ?_))))
 refine Lo u26 (Zb (.inl rfl) rfl) ?_
 refine Lo u26 (rfl) ?_
 refine Lo u26 (Zb (.inl rfl) rfl) ?_
 refine Lo u26 (rfl) ?_
 refine Lo u26 (rfl) ?_
 refine Zf (Zc ?_)
 refine Zo _ rfl (fun hc1 => ?_) (fun hc1 => ?_)
 ·try simp only [qB, qN] at hc1
  refine Zd (Za ?_)
  refine Lo u26 (Zg (VVal.bool false) (.inr rfl) rfl) ?_
  refine Zf (Zc (Zl (Zt ?_)))
  refine W10 (.inr rfl) (Zi rfl rfl) ?_
  exact ⟨by rw [decide_eq_false (fun e => by rw [e] at hc1; omega)], rfl⟩
 ·try simp only [qB, qN] at hc1
  refine Zk (Zc (Zd (Zd (Za ?_))))
  refine Lo u26 (Zb (.inl rfl) rfl) ?_
  refine Lo u26 (rfl) ?_
  refine Lo u26 (Zg (VVal.int .i64 0) (.inl rfl) rfl) ?_
  refine Zf (Zc (Zj ?_))
  refine ZC (mk 26 67096572) (env' := u26) rfl ?_
  refine ZJ (fun (k : Nat) => l.length - k) (fun (k : Nat) => [(13, iI (k : Nat))]) (fun (k : Nat) G => (k ≤ l.length ∧ ∀ j, j < k → l.getD j 0 = m.getD j 0) ∧ G = H ++ []) 0 rfl ?_ ?_
  ·refine ⟨?_, rfl⟩
   exact ⟨Nat.zero_le _, fun j h => by omega⟩
  rintro k _ ⟨⟨hk, hall⟩, rfl⟩
  refine ZU (env' := u26) rfl ?_
  refine Zd (Za ?_)
  refine Lo u26 (rfl) ?_
  refine Zf (Zc (Zd ?_))
  refine Zo _ rfl (fun hc2 => ?_) (fun hc2 => ?_)
  ·try simp only [qB, qN] at hc2
   refine Zk (Zc (Zd (Zj (Zd (Za ?_)))))
   refine Lo u26 (Zb (.inl rfl) rfl) ?_
   refine Lo u26 (Zb (.inr rfl) rfl) ?_
   refine Zf (Zc (Zd ?_))
   refine ZW [0, 1, 2, 3, 4, 5, 6, 7, 8] #[0, 0, 3, 7, 0, 0, 48, 112, 255] XH6 XH6 XH6 ?_
   refine Oo u26 .calm rfl (Zb (.inl rfl) rfl) ?_
   refine Oo u26 .calm rfl (Zb (.inl rfl) rfl) ?_
   refine Oo u26 .calm rfl (W18 rfl rfl rfl rfl rfl rfl rfl) ?_
   refine Oo u26 .look rfl (W6a rfl rfl rfl rfl) ?_
   refine Oo u26 .calm rfl (Zb (.inl rfl) rfl) ?_
   refine Oo u26 .calm rfl (Zb (.inl rfl) rfl) ?_
   refine Oo u26 .calm rfl (W18 rfl rfl rfl rfl rfl rfl rfl) ?_
   refine Oo u26 .look rfl (W6a rfl rfl rfl rfl) ?_
   refine Oo u26 .calm rfl (rfl) ?_
   refine Z3 [] XH6 (trivial) ?_
   refine Zc ?_
   refine Zo _ rfl (fun hc3 => ?_) (fun hc3 => ?_)
   ·try simp only [qB, qN] at hc3
    refine Zd (Za ?_)
    refine Lo u26 (Zg (VVal.bool false) (.inr rfl) rfl) ?_
    refine Zf (Zc (Zl (ZX (Zt (Y2 (ZX (Zt ?_)))))))
    refine W10 (.inr rfl) (Zi rfl rfl) ?_
    exact ⟨by rw [decide_eq_false (fun e => by subst e; exact hc3 rfl)], rfl⟩
   ·try simp only [qB, qN] at hc3
    refine Zk (Zu (Zc (Za ?_)))
    refine Lo u26 (W14 rfl rfl rfl) ?_
    refine Lo u26 (Zb (.inl rfl) rfl) ?_
    refine Zf ?_
    refine ZD (mk 26 67096572) (env' := u26) rfl ⟨k + 1, ?_, rfl, ?_⟩
    ·first | omega | (simp only []; omega)
    ·exact ⟨⟨by omega, fun j hj => by by_cases e : j = k; (subst e; assumption); exact hall j (by omega)⟩, rfl⟩
  ·try simp only [qB, qN] at hc2
   refine ZP (ZR (ZH (ZO (Zc (Zd (Za ?_))))))
   refine Lo u26 (Zg (VVal.bool true) (.inr rfl) rfl) ?_
   refine Zf (Zc (Zl ?_))
   refine W10 (.inr rfl) (Zi rfl rfl) ?_
   have e := eq_getD (d := 0) (by omega) (fun j hj => hall j (by omega))
   exact ⟨by rw [decide_eq_true e], rfl⟩
theorem EqualW_n {x : SW} (H : Ze) (b n n2 : Nat) (e : Bool) (l m : List (BitVec 64)) (hb : H[b]? = some (.cells (l.map iW) true)) (h1 : n ≤ 1000000) (hn : l.length = n) (hm : m.length = n2) : F (psys x) 62 [.slice (some (b, 0)) n n e 1, .fsl (m.map iW) n2 1 false] H fun v G => v = .bool (decide (l = m)) ∧ G = H := by
  subst hn; subst hm
  exact EqualW_spec H b e l m hb h1
theorem tLive_spec {x : SW} (H : Ze) (p : Pb) (hp : PbL p) : F (psys x) 33 [.agg (pbB p)] H fun v G => v = fzW (liA p) ∧ G = H := by
 refine Zr Tryd.func33 rfl u76 rfl ?_
 refine Zd (Za ?_)
 refine Lo u76 (Zy rfl rfl rfl) ?_
 refine Lo u76 (Zg (VVal.slice none 0 0 true 0) (.inr rfl) rfl) ?_
 refine Zf (Zc (Zd (Zd ?_)))
 refine Yp (Gh.freezePtrL (cs := pbB p) 1 0 rfl rfl rfl) ?_
 refine Za ?_
 refine Lo u76 (W6c rfl rfl rfl rfl rfl) ?_
 refine Zn rfl rfl rfl (by exact Y8 _ p hp) ?_
 rintro _ _ ⟨rfl, rfl⟩
 refine Le u76 ?_
 refine Lo u76 (rfl) ?_
 refine Lo u76 (Zb (.inl rfl) rfl) ?_
 refine ZL 15 (env1 := u76) (env2 := u76) rfl rfl rfl (fun hg1 => ?_) (fun hg1 => ?_)
 ·try simp only [qB, qN] at hg1
  refine Lf u76 ?_
  refine Lf u76 ?_
  refine Lf u76 ?_
  refine Lf u76 ?_
  refine Lo u76 (ZY (VVal.bool true) rfl rfl rfl) ?_
  refine Zf (Zc ?_)
  refine Z0 rfl rfl ?_
  refine Zd (Za ?_)
  refine Lo u76 (Zg (VVal.slice none 0 0 true 0) (.inr rfl) rfl) ?_
  refine Zf (Zc ?_)
  refine Yp (Gh.freezeNil 2 (es' := 1) rfl rfl) ?_
  refine Zl (Zt ?_)
  refine W6d (.inr rfl) (Zi rfl rfl) ?_
  exact W6e
 ·try simp only [qB, qN] at hg1
  refine Lo u76 (rfl) ?_
  refine Lo u76 (W6f rfl rfl rfl rfl) ?_
  refine Lo u76 (rfl) ?_
  refine Lo u76 (rfl) ?_
  refine Lo u76 (ZQ rfl rfl rfl) ?_
  refine Zf (Zc ?_)
  refine Zo _ rfl (fun hc2 => ?_) (fun hc2 => ?_)
  ·try simp only [qB, qN] at hc2
   refine Zd (Za ?_)
   refine Lo u76 (Zg (VVal.slice none 0 0 true 0) (.inr rfl) rfl) ?_
   refine Zf (Zc ?_)
   refine Yp (Gh.freezeNil 2 (es' := 1) rfl rfl) ?_
   refine Zl (Zt ?_)
   refine W6d (.inr rfl) (Zi rfl rfl) ?_
   exact W6e
  ·try simp only [qB, qN] at hc2
   refine Zk (Zc (Zd ?_))
   have h0 : pck p = 0 := by first | assumption | simp_all
   have g := pck_good.1 h0
   have g1 := g.n12; have g5 := g.fx
   have hne : ¬ p.who.length = 0 := by first | (have h9 := hc2; simp at h9; omega) | omega | simp_all
   have hwl := Ys (p := p)
   refine ZW [0, 1, 2, 3, 4, 5, 6, 7, 8, 9, 10, 11] #[0, 1, 3, 7, 0, 16, 48, 112, 0, 0, 783, 2047] XH6 XH6 XH6 ?_
   refine Oo u76 .calm rfl (rfl) ?_
   refine Oo u76 .look rfl (W6f rfl rfl rfl rfl) ?_
   refine Oo u76 .look rfl (rfl) ?_
   refine Oo u76 .grow rfl (YW rfl rfl rfl rfl rfl (by decide) ⟨by omega, Int.le_refl _, by show (p.who.length : Int) * (8 : Nat) ≤ _; omega, by omega⟩) ?_
   refine Oo u76 .calm rfl (rfl) ?_
   refine Yh (env' := u76) (x := .look _ _) rfl rfl rfl (W6f rfl rfl rfl rfl) rfl rfl rfl ?_
   refine Yh (env' := u76) (x := .look _ _) rfl rfl rfl (rfl) rfl rfl rfl ?_
   refine Yh (env' := u76) (x := .grow _) rfl rfl rfl (YW rfl rfl rfl rfl rfl (by decide) ⟨by omega, Int.le_refl _, by show (p.who.length : Int) * (8 : Nat) ≤ _; omega, by omega⟩) rfl rfl rfl ?_
   refine Oo u76 .grow rfl (ZA rfl rfl) ?_
   refine Oo u76 .grow rfl (ZA rfl rfl) ?_
   refine Yh (env' := u76) (x := .turn _ _) rfl rfl rfl (W13 rfl rfl rfl rfl rfl rfl rfl) rfl rfl rfl ?_
   refine Oo u76 .turn rfl (W13 rfl rfl rfl rfl rfl rfl rfl) ?_
   refine O_nilP [(5, 10), (6, 10), (7, 10)] XH6 (And.intro ⟨_, _, _, _, ⟨(gA (gA (gA (gA (gA (gA (gL XH6))))))), (gA (gL XH6)), And.intro (W6f rfl rfl rfl rfl) (W6f rfl rfl rfl rfl)⟩⟩ (And.intro ⟨_, _, _, _, ⟨(gA (gA (gA (gA (gA (gL XH6)))))), (gA (gL XH6)), And.intro (rfl) (rfl)⟩⟩ (And.intro ⟨_, _, _, _, ⟨(gA (gA (gA (gA (gL XH6))))), (gA (gL XH6)), (by simp [V.fine])⟩⟩ (trivial)))) ?_
   refine Zc (Zd (Zd ?_))
   refine Yi (H' := H ++ [.dead, .cells ((List.replicate p.who.length 0#64).map iW) true, .cells ((wsK p 0).map iW) true, .cells [.slice (some (H.length + 1, 0)) p.who.length p.who.length true 1] true, .cells [.slice (some (H.length + 2, 0)) p.who.length p.who.length true 1] true]) (by rw [wsK_0, ← MM.rep_w]; rfl) ?_
   refine Za ?_
   refine Lo u76 (W6f rfl rfl rfl rfl) ?_
   refine Lo u76 (rfl) ?_
   refine Lo u76 (Zg (VVal.int .i64 0) (.inl rfl) rfl) ?_
   refine Zf (Zc (Zj ?_))
   refine ZC (mk 76 75557863725911102193637) (env' := u76) rfl ?_
   refine ZJ (fun (k : Nat) => p.who.length - k) (fun (k : Nat) => [(31, iI (k : Nat))]) (fun (k : Nat) G => (k ≤ p.who.length) ∧ G = H ++ [.dead, .cells ((List.replicate p.who.length 0#64).map iW) true, .cells ((wsK p k).map iW) true, .cells [.slice (some (H.length + 1, 0)) p.who.length p.who.length true 1] true, .cells [.slice (some (H.length + 2, 0)) p.who.length p.who.length true 1] true]) 0 rfl ?_ ?_
   ·refine ⟨?_, rfl⟩
    exact Nat.zero_le _
   rintro k _ ⟨hk, rfl⟩
   refine ZU (env' := u76) rfl ?_
   refine Zd (Za ?_)
   refine Lo u76 (rfl) ?_
   refine Zf (Zc (Zd ?_))
   refine Zo _ rfl (fun hc3 => ?_) (fun hc3 => ?_)
   ·try simp only [qB, qN] at hc3
    refine Zk (Zc (Zd (Zj (Zd (Za ?_)))))
    refine Lo u76 (Zb (.inl rfl) rfl) ?_
    refine Lo u76 (Zb (.inr rfl) rfl) ?_
    refine Zf (Zc ?_)
    refine ZW [0, 1, 2, 3, 4, 5, 6] #[0, 0, 0, 0, 12, 31, 63] XH6 XH6 XH6 ?_
    refine Yh (env' := u76) (x := .look _ _) rfl rfl rfl (W6f rfl rfl rfl rfl) rfl rfl rfl ?_
    refine Oo u76 .calm rfl (Zb (.inl rfl) rfl) ?_
    refine Oo u76 .look rfl (W6c rfl rfl rfl rfl rfl) ?_
    refine Oo u76 .calm rfl (Zb (.inl rfl) rfl) ?_
    refine Yf (env' := u76) rfl rfl rfl rfl rfl (by exact Word_spec _ p k (by omega) (by omega)) XH9 rfl rfl ?_
    refine Oo u76 .calm rfl (W6h rfl rfl rfl rfl rfl rfl rfl) ?_
    refine Oo u76 .turn rfl (W6i rfl rfl rfl rfl rfl rfl rfl) ?_
    refine O_nilP [(0, 4)] XH6 (And.intro ⟨_, _, _, _, ⟨(gA (gA (gA (gA (gA (gA (gL XH6))))))), (gA (gA (gL XH6))), And.intro (W6f rfl rfl rfl rfl) (W6f rfl rfl rfl rfl)⟩⟩ (trivial)) ?_
    refine Zu (Zc (Za ?_))
    refine Lo u76 (W14 rfl rfl rfl) ?_
    refine Lo u76 (Zb (.inl rfl) rfl) ?_
    refine Zf ?_
    refine ZD (mk 76 75557863725911102193637) (env' := u76) rfl ⟨k + 1, ?_, rfl, ?_⟩
    ·first | omega | (simp only []; omega)
    ·exact ⟨by omega, rfl⟩
   ·try simp only [qB, qN] at hc3
    refine ZP (ZR (ZH (ZO (Zc (Zd (Zd ?_))))))
    obtain rfl : k = p.who.length := by omega
    rw [wsK_all]
    refine Yp (Gh.cellL (l := (wsP p).map iW) 4 0 2 rfl rfl (by decide) rfl (YC (by simp [hwl])) (Nat.le_refl _)) ?_
    refine Za ?_
    refine Lo u76 (W6c rfl rfl rfl rfl rfl) ?_
    refine Zn rfl rfl rfl (by exact tpat_spec _ p) ?_
    rintro _ _ ⟨rfl, rfl⟩
    refine Le u76 ?_
    refine Zf (Zc (Zj ?_))
    refine ZC (mk 76 75557863721516276908007) (env' := u76) rfl ?_
    refine B_rangeJ (fvP p) 2 (fun _ => rfl) (ptP p) (fun l0 h => by cases h) rfl (fun l9 G9 K9 hI9 => tpat1_spec l9 p hp G9 K9 hI9) (σ := {q : List (BitVec 64) // q.length = p.who.length}) (fun k s => H ++ [.dead, .cells ((s.1).map iW) true, .dead, .cells [.slice (some (H.length + 1, 0)) p.who.length p.who.length true 1] true, .cells [.fsl ((wsP p).map iW) p.who.length 1 false] true, k]) ⟨(List.replicate p.who.length 0#64), List.length_replicate ..⟩ (fun k => by rw [List.append_assoc]; rfl) (fun k s => by simp) (fun k s => by rw [show (H ++ _ : Ze).length = H.length + 5 by simp]; exact ZB rfl rfl) (fun k k1 s => by rw [show (H ++ _ : Ze).length = H.length + 5 by simp]; exact ZF rfl) (fun pre s => ∀ z, ptP p = pre ++ z → liF (wsP p) (ptP p) (List.replicate p.who.length 0#64) = liF (wsP p) z s.1) ?_ (fun j pre c s => (j = Code.exit 2 ∧ (liF (wsP p) (ptP p) (List.replicate p.who.length 0#64) = s.1))) rfl ?_ ?_ ?_
    ·exact fun z hz => by rw [hz]; rfl
    ·intro pre c post s hx hI Lp kr kb hkr hkb
     obtain ⟨s9, hs9⟩ := s
     try dsimp only at hI ⊢
     have hs9 : s9.length = p.who.length := hs9
     have hc9 : c ∈ ptP p := by rw [hx]; simp
     obtain ⟨h0, hpc, hcl, _, _⟩ := Yt hc9
     have hbl := @YY (wsP p) c c.length
     have hz := @Y4 c c.length
     have hI9 := hI _ hx
     refine ZU (env' := u76) rfl ?_
     refine Zd (Za ?_)
     refine Lo u76 (Zb (.inr rfl) rfl) ?_
     refine Zf (Zc (Za ?_))
     refine Lo u76 (Zb (.inr rfl) rfl) ?_
     refine Zf ?_
     refine ⟨rfl, ⟨s9, hs9⟩, rfl, ?_⟩
     try dsimp only
     refine Zj (Zd (Zd (Za ?_)))
     refine Lo u76 (Zb (.inl rfl) rfl) ?_
     refine Lo u76 (rfl) ?_
     refine Lo u76 (Zg (VVal.int .i64 0) (.inl rfl) rfl) ?_
     refine Zf (Zc (Zj ?_))
     refine ZC (mk 76 75557863514808090885927) (env' := u76) rfl ?_
     refine ZJ (fun (b : Nat) => szP c c.length - b) (fun (b : Nat) => [(47, iI (b : Nat))]) (fun (b : Nat) G => (b ≤ szP c c.length) ∧ G = (H ++ [.dead, .cells (((liK (wsP p) c s9 b 0)).map iW) true, .dead, .cells [.slice (some (H.length + 1, 0)) p.who.length p.who.length true 1] true, .cells [.fsl ((wsP p).map iW) p.who.length 1 false] true, kb]) ++ Lp) 0 rfl ?_ ?_
     ·refine ⟨?_, (by rw [liK_0])⟩
      exact Nat.zero_le _
     rintro b _ ⟨hb9, rfl⟩
     refine ZU (env' := u76) rfl ?_
     refine Zd (Za ?_)
     refine Lo u76 (rfl) ?_
     refine Zf (Zc (Zd ?_))
     refine Zo _ rfl (fun hc4 => ?_) (fun hc4 => ?_)
     ·try simp only [qB, qN] at hc4
      refine Zk (Zc (Zd (Zj (Zd (Za ?_)))))
      refine Lo u76 (Zb (.inl rfl) rfl) ?_
      refine Lo u76 (Zb (.inr rfl) rfl) ?_
      refine Zf (Zc (Zd (Za ?_)))
      refine Lo u76 (Zb (.inl rfl) rfl) ?_
      refine Lo u76 (Zb (.inl rfl) rfl) ?_
      refine Zn rfl rfl rfl (by exact MM.Free_spec _ (Ya (wsP p) c c.length) ((b : Nat) : Int) (by omega)) ?_
      rintro _ _ ⟨rfl, rfl⟩; rw [fv_is (by omega) (by omega)]
      refine Le u76 ?_
      refine Lo u76 (Zb (.inr rfl) rfl) ?_
      refine Zf (Zc (Zd (Za ?_)))
      refine Lo u76 (Zb (.inl rfl) rfl) ?_
      refine Lo u76 (rfl) ?_
      refine Lo u76 (Zg (VVal.int .i64 0) (.inl rfl) rfl) ?_
      refine Zf (Zc (Zj ?_))
      refine ZC (mk 76 75557800464413307698215) (env' := u76) rfl ?_
      refine ZJ (fun (k : Nat) => c.length - k) (fun (k : Nat) => [(55, iI (k : Nat))]) (fun (k : Nat) G => (k ≤ c.length) ∧ G = (H ++ [.dead, .cells (((liK (wsP p) c s9 b k)).map iW) true, .dead, .cells [.slice (some (H.length + 1, 0)) p.who.length p.who.length true 1] true, .cells [.fsl ((wsP p).map iW) p.who.length 1 false] true, kb]) ++ Lp) 0 rfl ?_ ?_
      ·refine ⟨?_, rfl⟩
       exact Nat.zero_le _
      rintro k _ ⟨hk9, rfl⟩
      refine ZU (env' := u76) rfl ?_
      refine Zd (Za ?_)
      refine Lo u76 (rfl) ?_
      refine Zf (Zc (Zd ?_))
      refine Zo _ rfl (fun hc5 => ?_) (fun hc5 => ?_)
      ·try simp only [qB, qN] at hc5
       refine Zk (Zc (Zd (Zj (Zd (Za ?_)))))
       refine Lo u76 (Zb (.inl rfl) rfl) ?_
       refine Lo u76 (W18 rfl rfl rfl rfl rfl rfl rfl) ?_
       refine Lo u76 (W6f rfl rfl rfl rfl) ?_
       refine Lo u76 (Zb (.inr rfl) rfl) ?_
       refine Lo u76 (Zb (.inr rfl) rfl) ?_
       refine Zf (Zc (Zd (Za ?_)))
       refine Lo u76 (Zb (.inl rfl) rfl) ?_
       refine Lo u76 (Zb (.inl rfl) rfl) ?_
       refine Lo u76 (rfl) ?_
       refine Zf (Zc ?_)
       refine Zo _ rfl (fun hc6 => ?_) (fun hc6 => ?_)
       ·try simp only [qB, qN] at hc6
        refine Za ?_
        refine Lo u76 (W6j rfl rfl rfl rfl) ?_
        refine Lo u76 (Zb (.inl rfl) rfl) ?_
        refine Lo u76 (W6h rfl rfl rfl rfl rfl rfl rfl) ?_
        refine Lo u76 (W6j rfl rfl rfl rfl) ?_
        refine Lo u76 (Zb (.inl rfl) rfl) ?_
        refine Lo u76 (v_orW rfl rfl rfl) ?_
        refine Lo u76 (W6h rfl rfl rfl rfl rfl rfl rfl) ?_
        refine Lo u76 (W6k rfl rfl rfl rfl rfl rfl rfl) ?_
        refine Zf (Zu (Zc (Za ?_)))
        refine Lo u76 (W14 rfl rfl rfl) ?_
        refine Lo u76 (Zb (.inl rfl) rfl) ?_
        refine Zf ?_
        refine ZD (mk 76 75557800464413307698215) (env' := u76) rfl ⟨k + 1, ?_, rfl, ?_⟩
        ·first | omega | (simp only []; omega)
        ·first | exact ⟨by omega, rfl⟩ | exact ⟨by omega, by rw [liK_same (by omega)]⟩
       ·try simp only [qB, qN] at hc6
        refine Zk (Zu (Zc (Za ?_)))
        refine Lo u76 (W14 rfl rfl rfl) ?_
        refine Lo u76 (Zb (.inl rfl) rfl) ?_
        refine Zf ?_
        refine ZD (mk 76 75557800464413307698215) (env' := u76) rfl ⟨k + 1, ?_, rfl, ?_⟩
        ·first | omega | (simp only []; omega)
        ·first | exact ⟨by omega, rfl⟩ | exact ⟨by omega, by rw [liK_same (by omega)]⟩
      ·try simp only [qB, qN] at hc5
       refine ZP (ZR (ZH (ZO (Zu (Zc (Za ?_))))))
       refine Lo u76 (W14 rfl rfl rfl) ?_
       refine Lo u76 (Zb (.inl rfl) rfl) ?_
       refine Zf ?_
       obtain rfl : k = c.length := by omega
       refine ZD (mk 76 75557863514808090885927) (env' := u76) rfl ⟨b + 1, ?_, rfl, ?_⟩
       ·first | omega | (simp only []; omega)
       ·exact ⟨by omega, by rw [liK_next (by omega)]⟩
     ·try simp only [qB, qN] at hc4
      refine ZP (ZR (ZH (ZO (Zc (Zd ?_)))))
      obtain rfl : b = szP c c.length := by omega
      refine Za ?_
      refine Lo u76 (W6j rfl rfl rfl rfl) ?_
      refine Lo u76 (W6j rfl rfl rfl rfl) ?_
      refine Zn rfl rfl rfl (by exact EqualW_n _ (H.length + 1) _ _ true (liU (wsP p) c s9) (wsP p) (getB rfl rfl) (by omega) (by rw [liU_len]; exact hs9) hwl) ?_
      rintro _ _ ⟨rfl, rfl⟩
      refine Le u76 ?_
      refine Zf (Zc ?_)
      refine Zo _ rfl (fun hc7 => ?_) (fun hc7 => ?_)
      ·try simp only [qB, qN] at hc7
       refine ZP ?_
       refine K_blkO rfl ?_
       refine ⟨⟨liU (wsP p) c s9, by rw [liU_len]; exact hs9⟩, [], (by simp [liU]), .inr ⟨Code.exit 2, rfl, ⟨rfl, ?_⟩⟩⟩
       exact hI9.trans ((liF_hit (by assumption)).trans (show wsP p = liU (wsP p) c s9 from (show liU (wsP p) c s9 = wsP p by assumption).symm))
      ·try simp only [qB, qN] at hc7
       refine Zk (Zu ?_)
       refine ⟨⟨liU (wsP p) c s9, by rw [liU_len]; exact hs9⟩, [], (by simp [liU]), .inl ⟨rfl, ?_⟩⟩
       exact fun z hz9 => by rw [hx, List.append_assoc] at hz9; obtain rfl : post = z := (by simpa using hz9); exact hI9.trans (liF_on (by assumption))
    ·intro s k hk hI J9
     obtain ⟨s9, hs9⟩ := s
     try dsimp only at hI ⊢
     have hE : liF (wsP p) (ptP p) (List.replicate p.who.length 0#64) = s9 := (hI [] (List.append_nil _).symm)
     refine Zu (Zc (Zd ?_))
     have hsl : s9.length = p.who.length := by first | exact hs9 | assumption
     refine Yi (List.append_assoc _ _ _) ?_
     refine Za ?_
     refine Lo u76 (W6l rfl rfl rfl rfl) ?_
     refine Lo u76 (Zb (.inr rfl) rfl) ?_
     refine Zf (Zc ?_)
     refine Yp (Gh.freezeL (l := s9.map iW) 2 1 rfl rfl (YC (by simp [hsl])) (Nat.le_refl _) rfl) ?_
     refine Zl ?_
     refine W6d (.inr rfl) (Zi rfl rfl) ?_
     exact W6e
    ·rintro j pre c post s k hk hx (⟨rfl, hE⟩) J9
     obtain ⟨s9, hs9⟩ := s
     try dsimp only
     refine J_exit ?_
     refine ZO (Zc (Zd ?_))
     have hsl : s9.length = p.who.length := by first | exact hs9 | assumption
     refine Yi (List.append_assoc _ _ _) ?_
     refine Za ?_
     refine Lo u76 (W6l rfl rfl rfl rfl) ?_
     refine Lo u76 (Zb (.inr rfl) rfl) ?_
     refine Zf (Zc ?_)
     refine Yp (Gh.freezeL (l := s9.map iW) 2 1 rfl rfl (YC (by simp [hsl])) (Nat.le_refl _) rfl) ?_
     refine Zl ?_
     refine W6d (.inr rfl) (Zi rfl rfl) ?_
     exact W6e
def pt : Pb := (2, [3#64, 3#64], [-1, -1], [], ())
theorem pt_L : PbL pt := ⟨by decide, by decide, by decide, by decide, fun r hr => by cases hr⟩
theorem pt_n : sumP pt = 4 := by decide +kernel
theorem pt_l : liA pt = [3#64, 3#64] := by decide +kernel
theorem twakes_spec {x : SW} (H : Ze) : F (psys x) 31 [] H fun v G => v = .bool true ∧ G = H := by
 refine Zr Tryd.func31 rfl u22 rfl ?_
 refine Zd (Za ?_)
 refine Lo u22 (Zg (VVal.bool false) (.inr rfl) rfl) ?_
 refine Zf (Zc (Zd (Za ?_)))
 refine Lo u22 (Zx rfl rfl (by decide) rfl) ?_
 refine Lo u22 (Zx rfl rfl (by decide) rfl) ?_
 refine Lo u22 (rfl) ?_
 refine Lo u22 (ZA rfl rfl) ?_
 refine Lo u22 (W13 rfl rfl rfl rfl rfl rfl rfl) ?_
 refine Zf (Zc (Zd (Za ?_)))
 refine L_gh (Gh.cellL (l := [iW 3#64, iW 3#64]) 2 1 0 rfl rfl (by decide) rfl rfl (Nat.le_refl _)) ?_
 refine L_gh (Gh.cellL (l := [iI (-1), iI (-1)]) 2 2 1 rfl rfl (by decide) rfl rfl (Nat.le_refl _)) ?_
 refine L_gh (Gh.cellNilL 2 3 (es' := 3) rfl rfl) ?_
 refine Lo u22 (W11 rfl rfl rfl rfl rfl) ?_
 refine Zn rfl rfl rfl (by exact tLive_spec _ pt pt_L) ?_
 rintro v _ ⟨hv, rfl⟩; rw [pt_l] at hv; subst hv
 refine Le u22 ?_
 refine Lo u22 (Zb (.inr rfl) rfl) ?_
 refine Zf (Zc (Zd (Za ?_)))
 refine Lo u22 (W11 rfl rfl rfl rfl rfl) ?_
 refine Zn rfl rfl rfl (by exact tPlans_spec _ pt pt_L 9#64) ?_
 rintro v _ ⟨hv, rfl⟩; obtain rfl : v = iW 4#64 := hv.trans (congrArg iW (by rw [pt_n]; decide))
 refine Le u22 ?_
 refine Lo u22 (Yy true rfl rfl) ?_
 refine Lo u22 (Zb (.inl rfl) rfl) ?_
 refine Lo u22 (Zb (.inl rfl) rfl) ?_
 refine Lo u22 (rfl) ?_
 refine Lo u22 (Yy true rfl rfl) ?_
 refine Lo u22 (Zz rfl rfl rfl) ?_
 refine Lo u22 (Zb (.inl rfl) rfl) ?_
 refine Lo u22 (Zb (.inl rfl) rfl) ?_
 refine Lo u22 (W18 rfl rfl rfl rfl rfl rfl rfl) ?_
 refine Lo u22 (W12 rfl rfl rfl rfl) ?_
 refine Lo u22 (Yy true rfl rfl) ?_
 refine Lo u22 (Zz rfl rfl rfl) ?_
 refine Lo u22 (Zb (.inr rfl) rfl) ?_
 refine Zf (Zc (Zl ?_))
 refine W10 (.inr rfl) (Zi rfl rfl) ?_
 exact ⟨rfl, rfl⟩
abbrev Zh {a0 a1 a2 a3 a4 a5 a6 a7 a8 a9 a10 a11 a12 a13 a14 a15 a16 a17 a18 a19 a20 a21 a22 a23 a24 a25 a26 a27 a28 a29 a30 a31 a32 a33 a34 a35 a36 a37 a38 a39 a40 a41 a42 a43 a44 a45 a46 a47 a48 a49 a50 a51 a52 a53 a54 a55 a56 a57 a58 a59 a60 a61 a62 a63 a64 a65 a66 a67 a68 a69 a70 a71 a72 a73 a74 a75 a76 a77 a78 a79 a80 a81 a82 a83 a84 a85 a86 a87 a88 a89 a90 a91 a92 a93 a94 a95 a96 a97 a98 a99 a100 a101 a102 a103 a104 a105 a106 a107 a108 a109 a110 a111 a112 a113 a114 a115 a116 a117 a118 a119 a120 a121 a122 a123 a124 a125 a126 a127 a128 a129 a130 a131 a132 a133 a134 a135 a136 a137 a138 a139 a140 a141 a142 a143 a144 a145 a146 a147 a148 a149 a150 a151 a152 a153 a154 a155 a156 a157 a158 a159 a160 a161 a162 a163 a164 a165 a166 a167 a168 : VVal} : VEnv := a0 :: a1 :: a2 :: a3 :: a4 :: a5 :: a6 :: a7 :: a8 :: a9 :: a10 :: a11 :: a12 :: a13 :: a14 :: a15 :: a16 :: a17 :: a18 :: a19 :: a20 :: a21 :: a22 :: a23 :: a24 :: a25 :: a26 :: a27 :: a28 :: a29 :: a30 :: a31 :: a32 :: a33 :: a34 :: a35 :: a36 :: a37 :: a38 :: a39 :: a40 :: a41 :: a42 :: a43 :: a44 :: a45 :: a46 :: a47 :: a48 :: a49 :: a50 :: a51 :: a52 :: a53 :: a54 :: a55 :: a56 :: a57 :: a58 :: a59 :: a60 :: a61 :: a62 :: a63 :: a64 :: a65 :: a66 :: a67 :: a68 :: a69 :: a70 :: a71 :: a72 :: a73 :: a74 :: a75 :: a76 :: a77 :: a78 :: a79 :: a80 :: a81 :: a82 :: a83 :: a84 :: a85 :: a86 :: a87 :: a88 :: a89 :: a90 :: a91 :: a92 :: a93 :: a94 :: a95 :: a96 :: a97 :: a98 :: a99 :: a100 :: a101 :: a102 :: a103 :: a104 :: a105 :: a106 :: a107 :: a108 :: a109 :: a110 :: a111 :: a112 :: a113 :: a114 :: a115 :: a116 :: a117 :: a118 :: a119 :: a120 :: a121 :: a122 :: a123 :: a124 :: a125 :: a126 :: a127 :: a128 :: a129 :: a130 :: a131 :: a132 :: a133 :: a134 :: a135 :: a136 :: a137 :: a138 :: a139 :: a140 :: a141 :: a142 :: a143 :: a144 :: a145 :: a146 :: a147 :: a148 :: a149 :: a150 :: a151 :: a152 :: a153 :: a154 :: a155 :: a156 :: a157 :: a158 :: a159 :: a160 :: a161 :: a162 :: a163 :: a164 :: a165 :: a166 :: a167 :: a168 :: []
theorem can_E {q : Pb} (h : ptP q = []) : (leA q).isSome = false := by
  by_cases h0 : pck q = 0
  · rw [Bool.eq_false_iff]; intro e
    obtain ⟨a, ha⟩ := (leA_pt h0).1 e
    rw [h] at ha; cases ha
  · unfold leA; rw [if_neg h0]; rfl
theorem can_Y {q : Pb} (h : ptP q ≠ []) : (leA q).isSome = true := by
  obtain ⟨a, ha⟩ := List.exists_mem_of_ne_nil _ h
  exact (leA_pt (Yt ha).1).2 ⟨a, ha⟩
theorem tLoad_any {x : SW} (H : Ze) (p : Pb) (hp : PbL p) : F (psys x) 41 [.agg (pbB p)] H fun v G => v = .tuple [iI ((ldA (ptP p)).1 : Nat), .bool (ldA (ptP p)).2] ∧ G = H := by
  by_cases h : p.who.length = 0
  · exact tLoad_spec0 H p hp h
  · exact tLoad_spec1 H p hp (by omega)
theorem sz_Z {q : Pb} (h : ptP q ≠ []) (hn : q.who.length = 0) : szA (ptP q) = (0, 0, true) ∧ ldA (ptP q) = (0, true) := by
  obtain ⟨s1, s2⟩ := @szA_is (ptP q)
  obtain ⟨⟨⟨a, ha, ea⟩, _⟩, ⟨b, hb, eb⟩, _⟩ := s2 h
  obtain ⟨l1, l2⟩ := @ldA_is (ptP q)
  obtain ⟨⟨c, hc, ec⟩, _⟩ := l2 h
  have z : ∀ a, a ∈ ptP q → a = [] := fun a ha => List.eq_nil_of_length_eq_zero (by have := (Yt ha).2.2.1; omega)
  rw [z a ha] at ea; rw [z b hb] at eb; rw [z c hc] at ec
  rw [decide_eq_true h] at s1 l1
  have e1 : szP [] ([] : List Nat).length = 0 := rfl
  have e2 : mxB [] = 0 := rfl
  rw [e1] at ea eb; rw [e2] at ec
  exact ⟨Prod.ext ea.symm (Prod.ext eb.symm s1), Prod.ext ec.symm l1⟩
theorem Can_1 {x : SW} {H X : Ze} {a b : VBlk} (g : Gz) (q : Pb) (hq : PbL q) : F (psys x) 20 [.ptr (some (H.length + 2, 0)), .agg (pbB q)] (H ++ [a, b, gaB g]) fun v G => v = .bool (leA q).isSome ∧ G = H ++ [a, b, gaB (g + leG q)] := by
  have := Can_spec (x := x) (H ++ [a, b, gaB g]) (H.length + 2) g (ZB rfl rfl) q hq
  rw [ZF rfl] at this; exact this
theorem TallyBounds_E {x : SW} (H : Ze) (p : Pb) (hu : -9223372036854775808 ≤ p.users ∧ p.users < 9223372036854775808) (hE : ptP (ZG p 8) = []) : F (psys x) 13 [.agg (pbB p)] H fun v G => v = .bool true ∧ G = H := by
 have hL := fewP_L (m := 8) hu
 refine Zr Tryd.func13 rfl Zh rfl ?_
 refine Zd (Za ?_)
 refine Lo Zh (Zy rfl rfl rfl) ?_
 refine Lo Zh (Zg (VVal.bool false) (.inr rfl) rfl) ?_
 refine Zf (Zc (Zd ?_))
 refine Yp (Gh.freezePtrL (cs := pbB p) 1 0 rfl rfl rfl) ?_
 refine Za ?_
 refine Lo Zh (W24 rfl rfl rfl rfl rfl) ?_
 refine Zn rfl rfl rfl (by exact Few_spec _ p 8 hu) ?_
 rintro _ _ ⟨rfl, rfl⟩
 refine Le Zh ?_
 refine Lo Zh (ZA rfl rfl) ?_
 refine Lo Zh (W13 rfl rfl rfl rfl rfl rfl rfl) ?_
 refine Zf (Zc (Zd ?_))
 refine Yp (Gh.freezePtrL (cs := pbB (ZG p 8)) 3 1 rfl rfl rfl) ?_
 refine Za ?_
 refine Lo Zh (W24 rfl rfl rfl rfl rfl) ?_
 refine Zn rfl rfl rfl XH29 ?_
 rintro _ _ ⟨rfl, rfl⟩
 refine Le Zh ?_
 refine Zn rfl rfl rfl (by exact tSizes_spec _ (ZG p 8) hL) ?_
 rintro v _ ⟨hv, rfl⟩; rw [hE] at hv; obtain rfl : v = .tuple [iI 0, iI 0, .bool false] := hv
 refine Le Zh ?_
 refine Lo Zh (Zb (.inl rfl) rfl) ?_
 refine Lo Zh (rfl) ?_
 refine Lo Zh (rfl) ?_
 refine Lo Zh (rfl) ?_
 refine Lo Zh (Zb (.inr rfl) rfl) ?_
 refine Lo Zh (Zb (.inr rfl) rfl) ?_
 refine Lo Zh (Zb (.inr rfl) rfl) ?_
 refine Zf (Zc (Zd (Za ?_)))
 refine Lo Zh (W24 rfl rfl rfl rfl rfl) ?_
 refine Zn rfl rfl rfl XH29 ?_
 rintro _ _ ⟨rfl, rfl⟩
 refine Le Zh ?_
 refine Zn rfl rfl rfl (by exact tLoad_any _ (ZG p 8) hL) ?_
 rintro v _ ⟨hv, rfl⟩; rw [hE] at hv; obtain rfl : v = .tuple [iI 0, .bool false] := hv
 refine Le Zh ?_
 refine Lo Zh (Zb (.inl rfl) rfl) ?_
 refine Lo Zh (rfl) ?_
 refine Lo Zh (rfl) ?_
 refine Lo Zh (Zb (.inr rfl) rfl) ?_
 refine Lo Zh (Zb (.inr rfl) rfl) ?_
 refine Zf (Zc (Zd (Za ?_)))
 refine Zn rfl rfl rfl (by exact sNew_spec _) ?_
 rintro _ _ ⟨rfl, rfl⟩; rw [List.append_assoc, List.length_append]
 refine Le Zh ?_
 refine Lo Zh (Zb (.inr rfl) rfl) ?_
 refine Zf (Zc (Zd (Zd (Za ?_))))
 refine Lo Zh (Zb (.inl rfl) rfl) ?_
 refine Lo Zh (Yy false rfl rfl) ?_
 refine Lo Zh (Zb (.inl rfl) rfl) ?_
 refine Zn rfl rfl rfl (by exact twakes_spec _) ?_
 rintro _ _ ⟨rfl, rfl⟩
 refine Le Zh ?_
 refine Lo Zh (rfl) ?_
 refine Lo Zh (ZQ rfl rfl rfl) ?_
 refine Zf (Zc ?_)
 refine ZV rfl rfl ?_
 refine Zk (Zc (Zd (Zd (Za ?_))))
 refine Lo Zh (Zb (.inl rfl) rfl) ?_
 refine Lo Zh (Zb (.inl rfl) rfl) ?_
 refine Lo Zh (Yy false rfl rfl) ?_
 refine Lo Zh (Zb (.inl rfl) rfl) ?_
 refine Lo Zh (Zb (.inl rfl) rfl) ?_
 refine Lo Zh (Zb (.inl rfl) rfl) ?_
 refine Lo Zh (W24 rfl rfl rfl rfl rfl) ?_
 refine Zn rfl rfl rfl XH29 ?_
 rintro _ _ ⟨rfl, rfl⟩
 refine Le Zh ?_
 refine Zn rfl rfl rfl (by exact Can_1 (X := []) 0 (ZG p 8) hL) ?_
 rintro v _ ⟨hv, rfl⟩; rw [can_E hE] at hv; subst hv
 refine Le Zh ?_
 refine Lo Zh (Yy false rfl rfl) ?_
 refine Lo Zh (ZQ rfl rfl rfl) ?_
 refine Zf (Zc ?_)
 refine ZV rfl rfl ?_
 refine Zk (Zc (Zd (Zd (Za ?_))))
 refine Lo Zh (Zb (.inl rfl) rfl) ?_
 refine Lo Zh (rfl) ?_
 refine Lo Zh (Zb (.inl rfl) rfl) ?_
 refine Lf Zh ?_
 refine Lf Zh ?_
 refine Lf Zh ?_
 refine Lf Zh ?_
 refine Lo Zh (ZY (VVal.bool true) rfl rfl rfl) ?_
 refine Lo Zh (Zb (.inl rfl) rfl) ?_
 refine Lf Zh ?_
 refine Lf Zh ?_
 refine Lf Zh ?_
 refine Lf Zh ?_
 refine Lo Zh (ZY (VVal.bool true) rfl rfl rfl) ?_
 refine Zf (Zc ?_)
 refine Z0 rfl rfl ?_
 refine Zd (Za ?_)
 refine Lo Zh (Zb (.inl rfl) rfl) ?_
 refine Lo Zh (Zb (.inl rfl) rfl) ?_
 refine Lf Zh ?_
 refine Lf Zh ?_
 refine Lf Zh ?_
 refine Lf Zh ?_
 refine Lf Zh ?_
 refine Lf Zh ?_
 refine Lf Zh ?_
 refine Lf Zh ?_
 refine Lf Zh ?_
 refine Lf Zh ?_
 refine Lf Zh ?_
 refine Lf Zh ?_
 refine Lf Zh ?_
 refine Lf Zh ?_
 refine Lf Zh ?_
 refine Lf Zh ?_
 refine Lo Zh (ZN (VVal.bool false) rfl rfl rfl) ?_
 refine Lo Zh (Zb (.inl rfl) rfl) ?_
 refine Lo Zh (Zb (.inl rfl) rfl) ?_
 refine Lo Zh (Yy true rfl rfl) ?_
 refine Lo Zh (Zb (.inl rfl) rfl) ?_
 refine Lo Zh (Zb (.inl rfl) rfl) ?_
 refine Lo Zh (Yy true rfl rfl) ?_
 refine Lo Zh (Zz rfl rfl rfl) ?_
 refine Lo Zh (Zb (.inl rfl) rfl) ?_
 refine Lo Zh (Zb (.inl rfl) rfl) ?_
 refine Lo Zh (Yy true rfl rfl) ?_
 refine Lo Zh (Zz rfl rfl rfl) ?_
 refine Lo Zh (ZQ rfl rfl rfl) ?_
 refine Lo Zh (Zb (.inr rfl) rfl) ?_
 refine Zf (Zc ?_)
 try refine Yi (List.append_assoc _ _ _) ?_
 refine Zl (Zt ?_)
 refine W10 (.inr rfl) (Zi rfl rfl) ?_
 exact ⟨rfl, rfl⟩
theorem TallyBounds_Z {x : SW} (H : Ze) (p : Pb) (hu : -9223372036854775808 ≤ p.users ∧ p.users < 9223372036854775808) (hE : ptP (ZG p 8) ≠ []) (hn : (ZG p 8).who.length = 0) : F (psys x) 13 [.agg (pbB p)] H fun v G => v = .bool true ∧ G = H := by
 have hL := fewP_L (m := 8) hu
 refine Zr Tryd.func13 rfl Zh rfl ?_
 refine Zd (Za ?_)
 refine Lo Zh (Zy rfl rfl rfl) ?_
 refine Lo Zh (Zg (VVal.bool false) (.inr rfl) rfl) ?_
 refine Zf (Zc (Zd ?_))
 refine Yp (Gh.freezePtrL (cs := pbB p) 1 0 rfl rfl rfl) ?_
 refine Za ?_
 refine Lo Zh (W24 rfl rfl rfl rfl rfl) ?_
 refine Zn rfl rfl rfl (by exact Few_spec _ p 8 hu) ?_
 rintro _ _ ⟨rfl, rfl⟩
 refine Le Zh ?_
 refine Lo Zh (ZA rfl rfl) ?_
 refine Lo Zh (W13 rfl rfl rfl rfl rfl rfl rfl) ?_
 refine Zf (Zc (Zd ?_))
 refine Yp (Gh.freezePtrL (cs := pbB (ZG p 8)) 3 1 rfl rfl rfl) ?_
 refine Za ?_
 refine Lo Zh (W24 rfl rfl rfl rfl rfl) ?_
 refine Zn rfl rfl rfl XH29 ?_
 rintro _ _ ⟨rfl, rfl⟩
 refine Le Zh ?_
 refine Zn rfl rfl rfl (by exact tSizes_spec _ (ZG p 8) hL) ?_
 rintro v _ ⟨hv, rfl⟩; rw [(sz_Z hE hn).1] at hv; obtain rfl : v = .tuple [iI 0, iI 0, .bool true] := hv
 refine Le Zh ?_
 refine Lo Zh (Zb (.inl rfl) rfl) ?_
 refine Lo Zh (rfl) ?_
 refine Lo Zh (rfl) ?_
 refine Lo Zh (rfl) ?_
 refine Lo Zh (Zb (.inr rfl) rfl) ?_
 refine Lo Zh (Zb (.inr rfl) rfl) ?_
 refine Lo Zh (Zb (.inr rfl) rfl) ?_
 refine Zf (Zc (Zd (Za ?_)))
 refine Lo Zh (W24 rfl rfl rfl rfl rfl) ?_
 refine Zn rfl rfl rfl XH29 ?_
 rintro _ _ ⟨rfl, rfl⟩
 refine Le Zh ?_
 refine Zn rfl rfl rfl (by exact tLoad_any _ (ZG p 8) hL) ?_
 rintro v _ ⟨hv, rfl⟩; rw [(sz_Z hE hn).2] at hv; obtain rfl : v = .tuple [iI 0, .bool true] := hv
 refine Le Zh ?_
 refine Lo Zh (Zb (.inl rfl) rfl) ?_
 refine Lo Zh (rfl) ?_
 refine Lo Zh (rfl) ?_
 refine Lo Zh (Zb (.inr rfl) rfl) ?_
 refine Lo Zh (Zb (.inr rfl) rfl) ?_
 refine Zf (Zc (Zd (Za ?_)))
 refine Zn rfl rfl rfl (by exact sNew_spec _) ?_
 rintro _ _ ⟨rfl, rfl⟩; rw [List.append_assoc, List.length_append]
 refine Le Zh ?_
 refine Lo Zh (Zb (.inr rfl) rfl) ?_
 refine Zf (Zc (Zd (Zd (Za ?_))))
 refine Lo Zh (Zb (.inl rfl) rfl) ?_
 refine Lo Zh (Yy false rfl rfl) ?_
 refine Lo Zh (Zb (.inl rfl) rfl) ?_
 refine Zn rfl rfl rfl (by exact twakes_spec _) ?_
 rintro _ _ ⟨rfl, rfl⟩
 refine Le Zh ?_
 refine Lo Zh (rfl) ?_
 refine Lo Zh (ZQ rfl rfl rfl) ?_
 refine Zf (Zc ?_)
 refine ZV rfl rfl ?_
 refine Zk (Zc (Zd (Zd (Za ?_))))
 refine Lo Zh (Zb (.inl rfl) rfl) ?_
 refine Lo Zh (Zb (.inl rfl) rfl) ?_
 refine Lo Zh (Yy false rfl rfl) ?_
 refine Lo Zh (Zb (.inl rfl) rfl) ?_
 refine Lo Zh (Zb (.inl rfl) rfl) ?_
 refine Lo Zh (Zb (.inl rfl) rfl) ?_
 refine Lo Zh (W24 rfl rfl rfl rfl rfl) ?_
 refine Zn rfl rfl rfl XH29 ?_
 rintro _ _ ⟨rfl, rfl⟩
 refine Le Zh ?_
 refine Zn rfl rfl rfl (by exact Can_1 (X := []) 0 (ZG p 8) hL) ?_
 rintro v _ ⟨hv, rfl⟩; rw [can_Y hE] at hv; subst hv
 refine Le Zh ?_
 refine Lo Zh (Yy false rfl rfl) ?_
 refine Lo Zh (ZQ rfl rfl rfl) ?_
 refine Zf (Zc ?_)
 refine ZV rfl rfl ?_
 refine Zk (Zc (Zd (Zd (Za ?_))))
 refine Lo Zh (Zb (.inl rfl) rfl) ?_
 refine Lo Zh (rfl) ?_
 refine Lo Zh (Zb (.inl rfl) rfl) ?_
 refine Lo Zh (rfl) ?_
 refine Lo Zh (W26 rfl rfl rfl rfl) ?_
 refine Lo Zh (rfl) ?_
 refine Lo Zh (Yy true rfl (by rw [hn]; rfl)) ?_
 refine Lo Zh (ZQ rfl rfl rfl) ?_
 refine Lo Zh (Zb (.inl rfl) rfl) ?_
 refine Lf Zh ?_
 refine Lf Zh ?_
 refine Lf Zh ?_
 refine Lf Zh ?_
 refine Lo Zh (ZY (VVal.bool true) rfl rfl rfl) ?_
 refine Zf (Zc ?_)
 refine Z0 rfl rfl ?_
 refine Zd (Za ?_)
 refine Lo Zh (Zb (.inl rfl) rfl) ?_
 refine Lo Zh (Zb (.inl rfl) rfl) ?_
 refine Lo Zh (rfl) ?_
 refine Lo Zh (W26 rfl rfl rfl rfl) ?_
 refine Lo Zh (rfl) ?_
 refine Lo Zh (Yy false rfl (by rw [hn]; rfl)) ?_
 refine Lo Zh (Zb (.inl rfl) rfl) ?_
 refine Lo Zh (Zb (.inl rfl) rfl) ?_
 refine Lo Zh (Yy true rfl rfl) ?_
 refine Lo Zh (Zb (.inl rfl) rfl) ?_
 refine Lo Zh (Zb (.inl rfl) rfl) ?_
 refine Lo Zh (Yy true rfl rfl) ?_
 refine Lo Zh (Zz rfl rfl rfl) ?_
 refine Lo Zh (Zb (.inl rfl) rfl) ?_
 refine Lo Zh (Zb (.inl rfl) rfl) ?_
 refine Lo Zh (Yy true rfl rfl) ?_
 refine Lo Zh (Zz rfl rfl rfl) ?_
 refine Lo Zh (ZQ rfl rfl rfl) ?_
 refine Lo Zh (Zz rfl rfl rfl) ?_
 refine Lo Zh (Zb (.inl rfl) rfl) ?_
 refine Lf Zh ?_
 refine Lf Zh ?_
 refine Lf Zh ?_
 refine Lf Zh ?_
 refine Lf Zh ?_
 refine Lf Zh ?_
 refine Lf Zh ?_
 refine Lf Zh ?_
 refine Lf Zh ?_
 refine Lf Zh ?_
 refine Lo Zh (ZY (VVal.bool true) rfl rfl rfl) ?_
 refine Lo Zh (Zb (.inr rfl) rfl) ?_
 refine Zf (Zc ?_)
 try refine Yi (List.append_assoc _ _ _) ?_
 refine Zl (Zt ?_)
 refine W10 (.inr rfl) (Zi rfl rfl) ?_
 exact ⟨rfl, rfl⟩
theorem TallyBounds_R {x : SW} (H : Ze) (p : Pb) (hu : -9223372036854775808 ≤ p.users ∧ p.users < 9223372036854775808) (hE : ptP (ZG p 8) ≠ []) (hn : 0 < (ZG p 8).who.length) (hr : 32 ≤ (ZG p 8).rules.length) : F (psys x) 13 [.agg (pbB p)] H fun v G => v = .bool true ∧ G = H := by
 have hL := fewP_L (m := 8) hu
 refine Zr Tryd.func13 rfl Zh rfl ?_
 refine Zd (Za ?_)
 refine Lo Zh (Zy rfl rfl rfl) ?_
 refine Lo Zh (Zg (VVal.bool false) (.inr rfl) rfl) ?_
 refine Zf (Zc (Zd ?_))
 refine Yp (Gh.freezePtrL (cs := pbB p) 1 0 rfl rfl rfl) ?_
 refine Za ?_
 refine Lo Zh (W24 rfl rfl rfl rfl rfl) ?_
 refine Zn rfl rfl rfl (by exact Few_spec _ p 8 hu) ?_
 rintro _ _ ⟨rfl, rfl⟩
 refine Le Zh ?_
 refine Lo Zh (ZA rfl rfl) ?_
 refine Lo Zh (W13 rfl rfl rfl rfl rfl rfl rfl) ?_
 refine Zf (Zc (Zd ?_))
 refine Yp (Gh.freezePtrL (cs := pbB (ZG p 8)) 3 1 rfl rfl rfl) ?_
 refine Za ?_
 refine Lo Zh (W24 rfl rfl rfl rfl rfl) ?_
 refine Zn rfl rfl rfl XH29 ?_
 rintro _ _ ⟨rfl, rfl⟩
 refine Le Zh ?_
 refine Zn rfl rfl rfl (by exact tSizes_spec _ (ZG p 8) hL) ?_
 rintro v _ ⟨hv, rfl⟩; rw [(@szA_is (ptP (ZG p 8))).1, decide_eq_true hE] at hv; subst hv
 refine Le Zh ?_
 refine Lo Zh (Zb (.inl rfl) rfl) ?_
 refine Lo Zh (rfl) ?_
 refine Lo Zh (rfl) ?_
 refine Lo Zh (rfl) ?_
 refine Lo Zh (Zb (.inr rfl) rfl) ?_
 refine Lo Zh (Zb (.inr rfl) rfl) ?_
 refine Lo Zh (Zb (.inr rfl) rfl) ?_
 refine Zf (Zc (Zd (Za ?_)))
 refine Lo Zh (W24 rfl rfl rfl rfl rfl) ?_
 refine Zn rfl rfl rfl XH29 ?_
 rintro _ _ ⟨rfl, rfl⟩
 refine Le Zh ?_
 refine Zn rfl rfl rfl (by exact tLoad_any _ (ZG p 8) hL) ?_
 rintro v _ ⟨hv, rfl⟩; rw [(@ldA_is (ptP (ZG p 8))).1, decide_eq_true hE] at hv; subst hv
 refine Le Zh ?_
 refine Lo Zh (Zb (.inl rfl) rfl) ?_
 refine Lo Zh (rfl) ?_
 refine Lo Zh (rfl) ?_
 refine Lo Zh (Zb (.inr rfl) rfl) ?_
 refine Lo Zh (Zb (.inr rfl) rfl) ?_
 refine Zf (Zc (Zd (Za ?_)))
 refine Zn rfl rfl rfl (by exact sNew_spec _) ?_
 rintro _ _ ⟨rfl, rfl⟩; rw [List.append_assoc, List.length_append]
 refine Le Zh ?_
 refine Lo Zh (Zb (.inr rfl) rfl) ?_
 refine Zf (Zc (Zd (Zd (Za ?_))))
 refine Lo Zh (Zb (.inl rfl) rfl) ?_
 refine Lo Zh (Yy false rfl rfl) ?_
 refine Lo Zh (Zb (.inl rfl) rfl) ?_
 refine Zn rfl rfl rfl (by exact twakes_spec _) ?_
 rintro _ _ ⟨rfl, rfl⟩
 refine Le Zh ?_
 refine Lo Zh (rfl) ?_
 refine Lo Zh (ZQ rfl rfl rfl) ?_
 refine Zf (Zc ?_)
 refine ZV rfl rfl ?_
 refine Zk (Zc (Zd (Zd (Za ?_))))
 refine Lo Zh (Zb (.inl rfl) rfl) ?_
 refine Lo Zh (Zb (.inl rfl) rfl) ?_
 refine Lo Zh (Yy false rfl rfl) ?_
 refine Lo Zh (Zb (.inl rfl) rfl) ?_
 refine Lo Zh (Zb (.inl rfl) rfl) ?_
 refine Lo Zh (Zb (.inl rfl) rfl) ?_
 refine Lo Zh (W24 rfl rfl rfl rfl rfl) ?_
 refine Zn rfl rfl rfl XH29 ?_
 rintro _ _ ⟨rfl, rfl⟩
 refine Le Zh ?_
 refine Zn rfl rfl rfl (by exact Can_1 (X := []) 0 (ZG p 8) hL) ?_
 rintro v _ ⟨hv, rfl⟩; rw [can_Y hE] at hv; subst hv
 refine Le Zh ?_
 refine Lo Zh (Yy false rfl rfl) ?_
 refine Lo Zh (ZQ rfl rfl rfl) ?_
 refine Zf (Zc ?_)
 refine ZV rfl rfl ?_
 refine Zk (Zc (Zd (Zd (Za ?_))))
 refine Lo Zh (Zb (.inl rfl) rfl) ?_
 refine Lo Zh (rfl) ?_
 refine Lo Zh (Zb (.inl rfl) rfl) ?_
 refine Lo Zh (rfl) ?_
 refine Lo Zh (W26 rfl rfl rfl rfl) ?_
 refine Lo Zh (rfl) ?_
 refine Lo Zh (Yy false rfl (beq_eq_false_iff_ne.2 (by omega))) ?_
 refine Lo Zh (ZQ rfl rfl rfl) ?_
 refine Lo Zh (Zb (.inl rfl) rfl) ?_
 refine Lo Zh (rfl) ?_
 refine Lo Zh (W26 rfl rfl rfl rfl) ?_
 refine Lo Zh (rfl) ?_
 refine Lo Zh (Yy true rfl (by simp; omega)) ?_
 refine Lo Zh (ZQ rfl rfl rfl) ?_
 refine Zf (Zc ?_)
 refine Z0 rfl rfl ?_
 refine Zd (Za ?_)
 refine Lo Zh (Zb (.inl rfl) rfl) ?_
 refine Lo Zh (Zb (.inl rfl) rfl) ?_
 refine Lo Zh (rfl) ?_
 refine Lo Zh (W26 rfl rfl rfl rfl) ?_
 refine Lo Zh (rfl) ?_
 refine Lo Zh (Yy true rfl (by simp; omega)) ?_
 refine Lo Zh (Zb (.inl rfl) rfl) ?_
 refine Lf Zh ?_
 refine Lf Zh ?_
 refine Lf Zh ?_
 refine Lf Zh ?_
 refine Lf Zh ?_
 refine Lf Zh ?_
 refine Lf Zh ?_
 refine Lf Zh ?_
 refine Lf Zh ?_
 refine Lf Zh ?_
 refine Lo Zh (ZY (VVal.bool true) rfl rfl rfl) ?_
 refine Lo Zh (Zz rfl rfl rfl) ?_
 refine Lo Zh (Zb (.inl rfl) rfl) ?_
 refine Lf Zh ?_
 refine Lf Zh ?_
 refine Lf Zh ?_
 refine Lf Zh ?_
 refine Lf Zh ?_
 refine Lf Zh ?_
 refine Lf Zh ?_
 refine Lf Zh ?_
 refine Lf Zh ?_
 refine Lf Zh ?_
 refine Lo Zh (ZY (VVal.bool true) rfl rfl rfl) ?_
 refine Lo Zh (Zb (.inr rfl) rfl) ?_
 refine Zf (Zc ?_)
 try refine Yi (List.append_assoc _ _ _) ?_
 refine Zl (Zt ?_)
 refine W10 (.inr rfl) (Zi rfl rfl) ?_
 exact ⟨rfl, rfl⟩
theorem few_few {p : Pb} : ZG (ZG p 8) 8 = ZG p 8 := by
  show fewQ (cutP (ZG p 8)) 8 = _
  rw [fewP_cut]
  unfold ZG fewQ
  show ((cutP p).users, ((cutP p).who.take 8).take 8, ((cutP p).fixed.take 8).take 8, ((cutP p).rules.filter (fewR 8)).filter (fewR 8), ()) = _
  rw [List.take_take, List.take_take, List.filter_filter]
  simp only [Bool.and_self]; rfl
theorem with_any {x : SW} (H : Ze) (p : Pb) (kd k : Int) (hu : -9223372036854775808 ≤ p.users ∧ p.users < 9223372036854775808) (hn : (ZG p 8).who.length ≤ 1000) (hr : (ZG p 8).rules.length ≤ 1000) : F (psys x) 44 [.agg (pbB (ZG p 8)), iI kd, iI k] H fun v G => v = .agg (pbB (wtR (ZG p 8) (kd, k, Yv (ZG p 8).who.length, ()))) ∧ G = H := by
  have e : wtP (ZG p 8) kd k = wtR (ZG p 8) (kd, k, Yv (ZG p 8).who.length, ()) := by unfold wtP wtR; rw [few_few]
  have hu2 : -9223372036854775808 ≤ (ZG p 8).users ∧ (ZG p 8).users < 9223372036854775808 := hu
  rw [← e]
  by_cases h : (ZG (ZG p 8) 8).rules = []
  · exact with_R0 H (ZG p 8) kd k hu2 hn (by rw [few_few]; exact hr) h
  · exact with_R1 H (ZG p 8) kd k hu2 hn (by rw [few_few]; exact hr) h
theorem bF {q : Pb} (hE : ptP q ≠ []) (hn : 0 < q.who.length) (h32 : q.rules.length < 32) : (1 ≤ (szA (ptP q)).1 ∧ (szA (ptP q)).1 ≤ (szA (ptP q)).2.1 ∧ (szA (ptP q)).2.1 ≤ q.who.length ∧ 1 ≤ (ldA (ptP q)).1 ∧ (ldA (ptP q)).1 ≤ 12) ∧
    ((leA (wtR q (4, ((szA (ptP q)).1 : Nat), Yv q.who.length, ()))).isSome = true ∧ (leA (wtR q (5, ((szA (ptP q)).2.1 : Nat), Yv q.who.length, ()))).isSome = true ∧ (leA (wtR q (3, ((ldA (ptP q)).1 : Nat), Yv q.who.length, ()))).isSome = true) ∧
    (¬ (((szA (ptP q)).1 : Nat) : Int) = 1 → (leA (wtR q (4, (((szA (ptP q)).1 : Nat) : Int) - 1, Yv q.who.length, ()))).isSome = false) ∧ (¬ (((szA (ptP q)).2.1 : Nat) : Int) = (q.who.length : Nat) → (leA (wtR q (5, (((szA (ptP q)).2.1 : Nat) : Int) + 1, Yv q.who.length, ()))).isSome = false) ∧ (¬ (((ldA (ptP q)).1 : Nat) : Int) = 1 → (leA (wtR q (3, (((ldA (ptP q)).1 : Nat) : Int) - 1, Yv q.who.length, ()))).isSome = false) := by
  obtain ⟨a0, ha0⟩ := List.exists_mem_of_ne_nil _ hE
  have g := pck_good.1 (Yt ha0).1
  have g12 := g.n12
  obtain ⟨⟨⟨a, ha, ea⟩, ma⟩, ⟨b, hb, eb⟩, mb⟩ := (@szA_is (ptP q)).2 hE
  obtain ⟨⟨c, hc, ec⟩, mc⟩ := (@ldA_is (ptP q)).2 hE
  have pa := Yt ha; have pb := Yt hb; have pc := Yt hc
  have hsa := @Y4 a a.length; have hsb := @Y4 b b.length
  have pos : ∀ x, x ∈ ptP q → 1 ≤ szP x x.length := fun x hx => by
    have := (Yt hx).2.1.lt (Nat.le_refl x.length) (i := 0) (by have := (Yt hx).2.2.1; omega)
    omega
  have po := pos a ha
  have hab := ma b hb
  have hk1 : 1 ≤ mxB c := by
    have hpc := pc.2.1
    rw [mxB_is hpc]
    have h0 : c.getD 0 0 ∈ c := by rw [List.getD_eq_getElem?_getD, List.getElem?_eq_getElem (by have := pc.2.2.1; omega)]; exact List.getElem_mem _
    have h1 := oft_le.1 (Nat.le_refl (oft (zI c))) _ (zI_mem.2 h0)
    rw [cnt_zI] at h1
    have := List.count_pos_iff.2 h0
    omega
  have hk2 : mxB c ≤ 12 := by
    rw [mxB_is pc.2.1]
    refine oft_le.2 fun y _ => ?_
    have : (zI c).count y ≤ (zI c).length := List.count_le_length
    rw [zI_len] at this
    have := pc.2.2.1; omega
  have n12 : 1 ≤ q.who.length ∧ q.who.length ≤ 12 := ⟨hn, g12⟩
  have hla := pa.2.2.1; have hlb := pb.2.2.1; have hlc := pc.2.2.1
  have rf : ∀ k : Int, 1 ≤ k ∧ k ≤ 999999999 → rck q.who.length (4, k, Yv q.who.length, ()) = true ∧ rck q.who.length (3, k, Yv q.who.length, ()) = true := fun k hk => rck_few n12 hk
  refine ⟨⟨by omega, by omega, by omega, by omega, by omega⟩, ⟨?_, ?_, ?_⟩, fun h => ?_, fun h => ?_, fun h => ?_⟩
  · exact (can_wt g h32 (rf _ (by omega)).1).2 ⟨a, ha, by rw [erl_few n12 (by omega) pa.2.1 hla, ea, decide_eq_true (Int.le_refl _)]⟩
  · exact (can_wt g h32 (rck_many n12 (by omega))).2 ⟨b, hb, by rw [erl_many n12 (by omega) pb.2.1 hlb, eb, decide_eq_true (Int.le_refl _)]⟩
  · exact (can_wt g h32 (rf _ (by omega)).2).2 ⟨c, hc, by rw [erl_most n12 (by omega) hlc, ← mxB_is pc.2.1, ec, decide_eq_true (Int.le_refl _)]⟩
  · rw [Bool.eq_false_iff]; intro e
    obtain ⟨x, hx, ex⟩ := (can_wt g h32 (rf _ (by omega)).1).1 e
    rw [erl_few n12 (by omega) (Yt hx).2.1 (Yt hx).2.2.1, decide_eq_true_eq] at ex
    have := ma x hx; omega
  · rw [Bool.eq_false_iff]; intro e
    obtain ⟨x, hx, ex⟩ := (can_wt g h32 (rck_many n12 (by omega))).1 e
    rw [erl_many n12 (by omega) (Yt hx).2.1 (Yt hx).2.2.1, decide_eq_true_eq] at ex
    have := mb x hx; omega
  · rw [Bool.eq_false_iff]; intro e
    obtain ⟨x, hx, ex⟩ := (can_wt g h32 (rf _ (by omega)).2).1 e
    rw [erl_most n12 (by omega) (Yt hx).2.2.1, ← mxB_is (Yt hx).2.1, decide_eq_true_eq] at ex
    have := mc x hx; omega
theorem wtR_L {q : Pb} {kd k : Int} (h : PbL q) (h32 : q.rules.length < 32) (hn : q.who.length ≤ 12) : PbL (wtR q (kd, k, Yv q.who.length, ())) := ⟨h.u, h.w, h.f, by show (q.rules ++ [_]).length ≤ _; rw [List.length_append]; show q.rules.length + 1 ≤ _; omega, fun r hr => by
  rcases List.mem_append.1 hr with hr | hr
  · exact h.s r hr
  · rw [List.mem_singleton] at hr; subst hr; show (Yv _).length ≤ _; rw [allS_len]; omega⟩
end Go.Proofs.YtenkjadobkjaeaaDoor.VT
