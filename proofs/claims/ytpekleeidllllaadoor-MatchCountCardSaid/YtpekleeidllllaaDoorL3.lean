/- MatchCount: the law -/
import Derived.Test.YtpekleeidllllaaDoorS9
import Derived.Test.YtpekleeidllllaaDoorP17
import Derived.Test.YtpekleeidllllaaDoorR1
set_option autoImplicit false
set_option linter.unusedVariables false
set_option linter.unusedSimpArgs false
set_option maxHeartbeats 4000000
set_option maxRecDepth 100000
namespace Go.Proofs.YtpekleeidllllaaDoor.VT
open Go Go.V Go.RowKit

abbrev uL3n21 {a0 a1 a2 a3 a4 a5 a6 a7 a8 a9 a10 a11 a12 a13 a14 a15 a16 a17 a18 a19 a20 : VVal} : VEnv := a0 :: a1 :: a2 :: a3 :: a4 :: a5 :: a6 :: a7 :: a8 :: a9 :: a10 :: a11 :: a12 :: a13 :: a14 :: a15 :: a16 :: a17 :: a18 :: a19 :: a20 :: []
abbrev uL3n43 {a0 a1 a2 a3 a4 a5 a6 a7 a8 a9 a10 a11 a12 a13 a14 a15 a16 a17 a18 a19 a20 a21 a22 a23 a24 a25 a26 a27 a28 a29 a30 a31 a32 a33 a34 a35 a36 a37 a38 a39 a40 a41 a42 : VVal} : VEnv := a0 :: a1 :: a2 :: a3 :: a4 :: a5 :: a6 :: a7 :: a8 :: a9 :: a10 :: a11 :: a12 :: a13 :: a14 :: a15 :: a16 :: a17 :: a18 :: a19 :: a20 :: a21 :: a22 :: a23 :: a24 :: a25 :: a26 :: a27 :: a28 :: a29 :: a30 :: a31 :: a32 :: a33 :: a34 :: a35 :: a36 :: a37 :: a38 :: a39 :: a40 :: a41 :: a42 :: []
abbrev uL3n77 {a0 a1 a2 a3 a4 a5 a6 a7 a8 a9 a10 a11 a12 a13 a14 a15 a16 a17 a18 a19 a20 a21 a22 a23 a24 a25 a26 a27 a28 a29 a30 a31 a32 a33 a34 a35 a36 a37 a38 a39 a40 a41 a42 a43 a44 a45 a46 a47 a48 a49 a50 a51 a52 a53 a54 a55 a56 a57 a58 a59 a60 a61 a62 a63 a64 a65 a66 a67 a68 a69 a70 a71 a72 a73 a74 a75 a76 : VVal} : VEnv := a0 :: a1 :: a2 :: a3 :: a4 :: a5 :: a6 :: a7 :: a8 :: a9 :: a10 :: a11 :: a12 :: a13 :: a14 :: a15 :: a16 :: a17 :: a18 :: a19 :: a20 :: a21 :: a22 :: a23 :: a24 :: a25 :: a26 :: a27 :: a28 :: a29 :: a30 :: a31 :: a32 :: a33 :: a34 :: a35 :: a36 :: a37 :: a38 :: a39 :: a40 :: a41 :: a42 :: a43 :: a44 :: a45 :: a46 :: a47 :: a48 :: a49 :: a50 :: a51 :: a52 :: a53 :: a54 :: a55 :: a56 :: a57 :: a58 :: a59 :: a60 :: a61 :: a62 :: a63 :: a64 :: a65 :: a66 :: a67 :: a68 :: a69 :: a70 :: a71 :: a72 :: a73 :: a74 :: a75 :: a76 :: []

theorem minW {a b : BitVec 64} : (if (b.toNat : Int) < (a.toNat : Int) then (b.toNat : Int) else (a.toNat : Int)) = ((satW a b.toNat).toNat : Int) := by
  rw [satW_nat]; split <;> omega
theorem rep_w : ∀ {n : Nat}, repeatCells [VVal.int .u64 0] n = (List.replicate n 0#64).map iW
  | 0 => rfl
  | n + 1 => by rw [repeatCells, rep_w, List.replicate_succ]; rfl
section
variable {T : TypeId → Option VTy} {ρ : Operand → VVal} {H : VHeap} {op : Op}
theorem pow12 {i : Nat} (h : i ≤ 12) : 2 ^ i ≤ 4096 := Nat.pow_le_pow_right (by decide) h
theorem v_shlI1 {t ty : TypeId} {y : Operand} {k : IntKind} {i : Nat} (ho : op = .binOp .shl t (.const (.int .i64 1)) y ty) (hy : ρ y = .int k (i : Nat)) (hr : ρ (.const (.int .i64 1)) = .int .i64 1) (h : i ≤ 12) : vop T ρ H op = some (.int .i64 ((2 ^ i : Nat) : Int), H) := by
  rw [ho]; simp only [vop, hr, hy, vbin, vshift]
  rw [if_neg (by omega), show min (i : Int).toNat IntKind.i64.bits = i from by show min (i : Int).toNat 64 = i; omega, Int.one_mul]
  have e : (2 : Int) ^ i = ((2 ^ i : Nat) : Int) := by rw [Int.natCast_pow]; rfl
  have := pow12 h
  rw [e]
  generalize 2 ^ i = p at this ⊢
  rw [wrap_i _ (by omega)]; rfl
theorem v_shrI {t ty : TypeId} {x y : Operand} {k : IntKind} {s i : Nat} (ho : op = .binOp .shr t x y ty) (hx : ρ x = .int .i64 (s : Nat)) (hy : ρ y = .int k (i : Nat)) (h : i ≤ 12) : vop T ρ H op = some (.int .i64 ((s / 2 ^ i : Nat) : Int), H) := by
  rw [ho]; simp only [vop, hx, hy, vbin, vshift]
  rw [if_neg (by omega), show min (i : Int).toNat IntKind.i64.bits = i from by show min (i : Int).toNat 64 = i; omega]
  have e : (2 : Int) ^ i = ((2 ^ i : Nat) : Int) := by rw [Int.natCast_pow]; rfl
  rw [e, ← Int.ofNat_fdiv]; rfl
end
theorem and1 {n : Nat} (h : n < 2 ^ 63) : vbits .and .i64 (n : Int) 1 = ((n % 2 : Nat) : Int) := by
  show IntKind.i64.wrap ((BitVec.ofInt 64 (n : Int) &&& BitVec.ofInt 64 ((1 : Nat) : Int)).toNat : Int) = _
  rw [BitVec.ofInt_natCast, BitVec.ofInt_natCast, BitVec.toNat_and, BitVec.toNat_ofNat, BitVec.toNat_ofNat, Nat.mod_eq_of_lt (Nat.lt_trans h (by decide)), Nat.mod_eq_of_lt (by decide : 1 < 2 ^ 64), show (1 : Nat) = 2 ^ 1 - 1 from rfl, Nat.and_two_pow_sub_one_eq_mod]
  exact wrap_i _ (by have : n % 2 ^ 1 < 2 := Nat.mod_lt _ (by decide); omega)
theorem tb_is {s i : Nat} (hs : s < 4096) : (vbits .and .i64 ((s / 2 ^ i : Nat) : Int) 1 == 1) = s.testBit i := by
  have h1 : s / 2 ^ i ≤ s := Nat.div_le_self _ _
  rw [and1 (by omega), Nat.testBit_eq_decide_div_mod_eq, Bool.eq_iff_iff, beq_iff_eq, decide_eq_true_eq]; omega
theorem andNot_less {s i : Nat} (hs : s < 4096) (hi : i ≤ 12) (h : s.testBit i = true) : vbits .andNot .i64 (s : Int) ((2 ^ i : Nat) : Int) = ((less s i : Nat) : Int) := by
  have hl := less_lt h
  have hp := pow12 hi
  show IntKind.i64.wrap ((BitVec.ofInt 64 (s : Int) &&& ~~~(BitVec.ofInt 64 ((2 ^ i : Nat) : Int))).toNat : Int) = _
  have e : (BitVec.ofInt 64 (s : Int) &&& ~~~(BitVec.ofInt 64 ((2 ^ i : Nat) : Int))).toNat = less s i := by
    rw [BitVec.ofInt_natCast, BitVec.ofInt_natCast]
    apply Nat.eq_of_testBit_eq
    intro j
    rw [less_bit h]
    by_cases hj : j < 64
    · have : (BitVec.ofNat 64 s &&& ~~~BitVec.ofNat 64 (2 ^ i)).getLsbD j = (s.testBit j && decide (j ≠ i)) := by
        rw [BitVec.getLsbD_and, BitVec.getLsbD_not, BitVec.getLsbD_ofNat, BitVec.getLsbD_ofNat, Nat.testBit_two_pow, decide_eq_true hj]
        by_cases e : j = i
        · subst e; simp
        · have : ¬ i = j := fun x => e x.symm
          simp [e, this]
      exact this
    · have h1 : s.testBit j = false := Nat.testBit_lt_two_pow (Nat.lt_of_lt_of_le (show s < 2 ^ 12 from hs) (Nat.pow_le_pow_right (by decide) (by omega)))
      rw [h1, Bool.false_and]
      exact Nat.testBit_lt_two_pow (Nat.lt_of_lt_of_le (BitVec.isLt _) (Nat.pow_le_pow_right (by decide) (by omega)))
  rw [e]
  exact wrap_i _ (by omega)
theorem way_start {rows : List (BitVec 64)} {most : BitVec 64} : (List.replicate (2 ^ rows.length) 0#64).set 0 (satW most 1) = wayL rows.length (wU rows most 0) := by
  have h0 : List.replicate (2 ^ rows.length) 0#64 = wayL rows.length fun _ => 0#64 := by
    unfold wayL
    rw [List.map_const', List.length_range]
  rw [h0]
  refine wayL_set ?_ fun s hs hne => ?_
  · unfold wU; rw [wS_0]
  · unfold wU; rw [wS_start hs, if_neg hne, satW_0]
theorem way_top {rows : List (BitVec 64)} {most : BitVec 64} {u : Nat} : wayL rows.length (wU rows most u) = wayL rows.length (wF rows most u (2 ^ rows.length - 1) 0) := wayL_congr fun s hs => by
  unfold wU wF; rw [if_neg (by omega)]; split
  · rename_i h; subst h; rfl
  · rfl
theorem way_down {rows : List (BitVec 64)} {most : BitVec 64} {u s : Nat} (hu : u < 64) (hs : 0 < s) : wayL rows.length (wF rows most u s rows.length) = wayL rows.length (wF rows most u (s - 1) 0) := wayL_congr fun s' hs' => by
  unfold wF
  by_cases h1 : s < s'
  · rw [if_pos h1, if_pos (by omega)]
  · by_cases h2 : s' = s
    · subst h2; rw [if_neg h1, if_pos rfl, if_pos (by omega), wP_all hu]
    · rw [if_neg h1, if_neg h2, if_neg (by omega)]
      by_cases h3 : s' = s - 1
      · rw [if_pos h3, h3]; rfl
      · rw [if_neg h3]
theorem way_end {rows : List (BitVec 64)} {most : BitVec 64} {u : Nat} : wayL rows.length (wF rows most u 0 0) = wayL rows.length (wU rows most (u + 1)) := wayL_congr fun s' _ => by
  unfold wF wU
  by_cases h : s' = 0
  · subst h; rw [if_neg (by omega), if_pos rfl, wS_0]; show satW most (wS rows u 0) = _; rw [wS_0]
  · rw [if_pos (by omega)]
theorem way_set {rows : List (BitVec 64)} {most : BitVec 64} {u s k : Nat} (hm : most.toNat ≤ 65536) (hs : s < 2 ^ rows.length) (h1 : s.testBit k = true) (h2 : (rows.getD k 0).getLsbD u = true) :
    (wayL rows.length (wF rows most u s k)).set s (satW most (wP rows u s k + wS rows u (less s k))) = wayL rows.length (wF rows most u s (k + 1)) := by
  refine wayL_set ?_ fun s' hs' hne => ?_
  · unfold wF; rw [if_neg (by omega), if_pos rfl, wP, if_pos ⟨h1, h2⟩]
  · unfold wF; rw [if_neg hne, if_neg hne]
theorem way_same {rows : List (BitVec 64)} {most : BitVec 64} {u s k : Nat} (h : ¬ (s.testBit k = true ∧ (rows.getD k 0).getLsbD u = true)) : wF rows most u s k = wF rows most u s (k + 1) := by
  funext s'
  unfold wF; rw [wP, if_neg h]
theorem way_at {rows : List (BitVec 64)} {most : BitVec 64} {u s k : Nat} (hs : s < 2 ^ rows.length) : (wayL rows.length (wF rows most u s k)).getD s 0 = satW most (wP rows u s k) := by
  rw [wayL_get hs]; unfold wF; rw [if_neg (by omega), if_pos rfl]
theorem way_less {rows : List (BitVec 64)} {most : BitVec 64} {u s k i : Nat} (hs : s < 2 ^ rows.length) (h : s.testBit i = true) : (wayL rows.length (wF rows most u s k)).getD (less s i) 0 = satW most (wS rows u (less s i)) := by
  have hl := less_lt h
  rw [wayL_get (by omega)]; unfold wF; rw [if_neg (by omega), if_neg (by omega)]
def coV (rows : List (BitVec 64)) (m : BitVec 64) : BitVec 64 := if rows.length ≤ 12 then satW m (cnT rows 0#64) else 0#64

theorem mCount_spec {x : SW} (H : VHeap) (rows : List (BitVec 64)) (most : BitVec 64) (hl : rows.length ≤ 1000000) : F (psys x) 18 [fzW rows, iW most] H fun v G => v = iW (coV rows (satW most 65536)) ∧ G = H := by
  refine F_body Tryd.func18 rfl uL3n77 rfl ?_
  refine B_seq ?_
  refine B_region ?_
  refine L_op (env' := uL3n77) rfl rfl (v_const (VVal.int .u64 0) (.inr rfl) rfl) rfl ?_
  refine L_nil ?_
  refine K_seq ?_
  refine B_seq ?_
  refine B_seq ?_
  refine B_region ?_
  refine L_op (env' := uL3n77) rfl rfl (v_move (.inl rfl) rfl) rfl ?_
  refine L_call rfl rfl rfl (by exact fits_spec _ _) ?_
  rintro _ _ ⟨rfl, rfl⟩
  refine L_env (env' := uL3n77) rfl ?_
  refine L_op (env' := uL3n77) rfl rfl (rfl) rfl ?_
  refine L_nil ?_
  refine K_seq ?_
  refine B_cond _ rfl (fun hc1 => ?_) (fun hc1 => ?_)
  · try simp only [decide_eq_true_eq, decide_eq_false_iff_not, Bool.not_eq_true', Bool.not_eq_false', bne_iff_ne, beq_iff_eq, Bool.and_eq_true, Bool.or_eq_true, Bool.not_eq_true, ge_iff_le, gt_iff_lt, Int.not_le, Int.not_lt, beq_eq_false_iff_ne, bne_eq_false_iff_eq, ne_eq, Decidable.not_not, wd_zero, wd_one, wd_inj] at hc1
    refine B_seq ?_
    refine B_region ?_
    refine L_op (env' := uL3n77) rfl rfl (v_const (VVal.int .u64 0) (.inr rfl) rfl) rfl ?_
    refine L_nil ?_
    refine K_seq ?_
    refine B_ret ?_
    refine K_seqR ?_
    refine E_app (.inr rfl) (vres_tmp rfl rfl) (by first | exact BaseOk.refl _ | exact BaseOk.set (BaseOk.refl _) _ rfl) (by first | rfl | simp [VVal.under, VVal.underL, *]) ?_
    first
      | exact ⟨by rw [coV, if_neg (by omega)]; rfl, rfl⟩
      | (obtain rfl : u = 64 := by omega); exact ⟨by rw [coV, if_pos (by omega), show (wayL rows.length (wU rows (satW most 65536) 64)).getD ((2 ^ rows.length - 1 : Nat) : Int).toNat 0 = _ from wayL_get (by omega)]; unfold wU; rw [Int.toNat_natCast, wS_end], rfl⟩
  · try simp only [decide_eq_true_eq, decide_eq_false_iff_not, Bool.not_eq_true', Bool.not_eq_false', bne_iff_ne, beq_iff_eq, Bool.and_eq_true, Bool.or_eq_true, Bool.not_eq_true, ge_iff_le, gt_iff_lt, Int.not_le, Int.not_lt, beq_eq_false_iff_ne, bne_eq_false_iff_eq, ne_eq, Decidable.not_not, wd_zero, wd_one, wd_inj] at hc1
    refine B_skip ?_
    refine K_seq ?_
    refine B_seq ?_
    refine B_region ?_
    have hm : (satW most 65536).toNat ≤ 65536 := by rw [satW_nat]; omega
    have hp := pow12 (i := rows.length) (by omega)
    have hp0 : 0 < 2 ^ rows.length := Nat.two_pow_pos _
    refine L_op (env' := uL3n77) rfl rfl (v_move (.inl rfl) rfl) rfl ?_
    refine L_op (env' := uL3n77) rfl rfl (v_val rfl ((congrArg (VVal.int .u64) (minW (a := most) (b := 65536#64))).trans rfl)) rfl ?_
    refine L_op (env' := uL3n77) rfl rfl (v_move (.inr rfl) rfl) rfl ?_
    refine L_nil ?_
    refine K_seq ?_
    refine B_seq ?_
    refine B_region ?_
    refine L_op (env' := uL3n77) rfl rfl (v_move (.inl rfl) rfl) rfl ?_
    refine L_op (env' := uL3n77) rfl rfl (rfl) rfl ?_
    refine L_op (env' := uL3n77) rfl rfl (v_shlI1 rfl rfl rfl (by omega)) rfl ?_
    refine L_op (env' := uL3n77) rfl rfl (v_makeSlice rfl rfl rfl rfl rfl (by decide) ⟨by omega, Int.le_refl _, by show ((2 ^ rows.length : Nat) : Int) * (8 : Nat) ≤ _; omega, by omega⟩) rfl ?_
    refine L_heap (H' := H ++ [.cells ((List.replicate (2 ^ rows.length) 0#64).map iW) true]) (by show _ ++ [VBlk.cells (repeatCells [VVal.int .u64 0] _) true] = _; rw [rep_w]; rfl) ?_
    refine L_op (env' := uL3n77) rfl rfl (v_move (.inr rfl) rfl) rfl ?_
    refine L_nil ?_
    refine K_seq ?_
    refine B_seq ?_
    refine B_region ?_
    refine L_op (env' := uL3n77) rfl rfl (v_move (.inl rfl) rfl) rfl ?_
    refine L_op (env' := uL3n77) rfl rfl (v_move (.inl rfl) rfl) rfl ?_
    refine L_op (env' := uL3n77) rfl rfl (v_val rfl ((congrArg (VVal.int .u64) (minW (a := 1#64) (b := (satW most 65536)))).trans (by rw [show satW 1#64 (satW most 65536).toNat = satW (satW most 65536) 1 from by apply BitVec.eq_of_toNat_eq; rw [satW_nat, satW_nat (most := (satW most 65536)) (n := 1)]; exact Nat.min_comm _ _]))) rfl ?_
    refine L_op (env' := uL3n77) rfl rfl (by first | exact v_idxF rfl rfl rfl rfl rfl rfl rfl (by show (0 : Int) ≤ 0 ∧ (0 : Int) < ((2 ^ rows.length : Nat) : Int); omega) | exact v_idx rfl rfl rfl rfl rfl rfl rfl (by show (0 : Int) ≤ 0 ∧ (0 : Int) < ((2 ^ rows.length : Nat) : Int); omega)) rfl ?_
    refine L_op (env' := uL3n77) rfl rfl (v_storeT rfl rfl rfl rfl rfl rfl rfl (by first | exact get_app rfl rfl | exact get_out (by assumption) | assumption | (simp [*]; done)) (by rw [List.length_map, List.length_replicate]; show 0 + 0 * 1 + 1 ≤ _; omega) (by exact (set_app rfl).trans (congrArg (fun c => H ++ [VBlk.cells c true]) ((splice_w (l := List.replicate (2 ^ rows.length) 0#64) (k := 0) (w := satW (satW most 65536) 1) (by rw [List.length_replicate]; omega)).trans (by rw [way_start]))))) rfl ?_
    refine L_nil ?_
    refine K_seq ?_
    refine B_seq ?_
    refine B_seq ?_
    refine B_region ?_
    refine L_op (env' := uL3n77) rfl rfl (v_const (VVal.int .i64 0) (.inl rfl) rfl) rfl ?_
    refine L_nil ?_
    refine K_seq ?_
    refine B_block ?_
    refine B_clear (false :: false :: true :: true :: true :: false :: true :: true :: true :: true :: true :: true :: true :: true :: true :: true :: true :: true :: true :: true :: true :: true :: true :: false :: true :: true :: true :: true :: true :: true :: true :: true :: true :: true :: true :: true :: true :: true :: true :: true :: true :: true :: true :: true :: true :: true :: true :: true :: true :: true :: true :: true :: true :: true :: true :: true :: true :: true :: true :: true :: true :: true :: true :: true :: true :: true :: true :: true :: true :: true :: true :: true :: true :: true :: true :: true :: true :: []) (env' := uL3n77) rfl ?_
    refine B_loopE (fun (u : Nat) => 64 - u) (fun (u : Nat) => [(23, iI (u : Nat))]) (fun (u : Nat) G => (u ≤ 64) ∧ G = H ++ [.cells ((wayL rows.length (wU rows (satW most 65536) u)).map iW) true]) 0 rfl ?_ ?_
    · refine ⟨?_, rfl⟩
      exact Nat.zero_le _
    rintro u _ ⟨hu, rfl⟩
    refine B_env (env' := uL3n77) rfl ?_
    refine B_seq ?_
    refine B_region ?_
    refine L_op (env' := uL3n77) rfl rfl (rfl) rfl ?_
    refine L_nil ?_
    refine K_seq ?_
    refine B_seq ?_
    refine B_cond _ rfl (fun hc2 => ?_) (fun hc2 => ?_)
    · try simp only [decide_eq_true_eq, decide_eq_false_iff_not, Bool.not_eq_true', Bool.not_eq_false', bne_iff_ne, beq_iff_eq, Bool.and_eq_true, Bool.or_eq_true, Bool.not_eq_true, ge_iff_le, gt_iff_lt, Int.not_le, Int.not_lt, beq_eq_false_iff_ne, bne_eq_false_iff_eq, ne_eq, Decidable.not_not, wd_zero, wd_one, wd_inj] at hc2
      refine B_skip ?_
      refine K_seq ?_
      refine B_seq ?_
      refine B_block ?_
      refine B_seq ?_
      refine B_region ?_
      refine L_op (env' := uL3n77) rfl rfl (v_move (.inl rfl) rfl) rfl ?_
      refine L_op (env' := uL3n77) rfl rfl (v_move (.inr rfl) rfl) rfl ?_
      refine L_nil ?_
      refine K_seq ?_
      refine B_seq ?_
      refine B_region ?_
      refine L_op (env' := uL3n77) rfl rfl (v_move (.inl rfl) rfl) rfl ?_
      refine L_op (env' := uL3n77) rfl rfl (rfl) rfl ?_
      refine L_op (env' := uL3n77) rfl rfl (v_val (v_subI rfl rfl rfl (by show -9223372036854775808 ≤ ((2 ^ rows.length : Nat) : Int) - 1 ∧ ((2 ^ rows.length : Nat) : Int) - 1 < 9223372036854775808; omega)) (congrArg iI (show ((2 ^ rows.length : Nat) : Int) - 1 = ((2 ^ rows.length - 1 : Nat) : Int) by omega))) rfl ?_
      refine L_op (env' := uL3n77) rfl rfl (v_move (.inr rfl) rfl) rfl ?_
      refine L_nil ?_
      refine K_seq ?_
      refine B_block ?_
      refine B_clear (false :: false :: true :: true :: true :: false :: false :: false :: true :: true :: true :: true :: true :: true :: true :: true :: true :: true :: true :: true :: true :: true :: true :: false :: true :: true :: true :: true :: true :: true :: true :: true :: true :: true :: true :: true :: true :: true :: true :: true :: true :: true :: true :: true :: true :: true :: true :: true :: true :: true :: true :: true :: true :: true :: true :: true :: true :: true :: true :: true :: true :: true :: true :: true :: true :: true :: true :: true :: true :: true :: true :: true :: true :: true :: true :: true :: true :: []) (env' := uL3n77) rfl ?_
      refine B_loopE (fun (s : Nat) => s) (fun (s : Nat) => [(7, iI (s : Nat))]) (fun (s : Nat) G => (s < 2 ^ rows.length) ∧ G = H ++ [.cells ((wayL rows.length (wF rows (satW most 65536) u s 0)).map iW) true]) (2 ^ rows.length - 1) rfl ?_ ?_
      · refine ⟨?_, (by rw [way_top])⟩
        omega
      rintro s _ ⟨hs, rfl⟩
      refine B_env (env' := uL3n77) rfl ?_
      refine B_seq ?_
      refine B_seq ?_
      refine B_region ?_
      refine L_op (env' := uL3n77) rfl rfl (v_move (.inl rfl) rfl) rfl ?_
      refine L_op (env' := uL3n77) rfl rfl (rfl) rfl ?_
      refine L_nil ?_
      refine K_seq ?_
      refine B_cond _ rfl (fun hc3 => ?_) (fun hc3 => ?_)
      · try simp only [decide_eq_true_eq, decide_eq_false_iff_not, Bool.not_eq_true', Bool.not_eq_false', bne_iff_ne, beq_iff_eq, Bool.and_eq_true, Bool.or_eq_true, Bool.not_eq_true, ge_iff_le, gt_iff_lt, Int.not_le, Int.not_lt, beq_eq_false_iff_ne, bne_eq_false_iff_eq, ne_eq, Decidable.not_not, wd_zero, wd_one, wd_inj] at hc3
        refine B_skip ?_
        refine K_seq ?_
        refine B_seq ?_
        refine B_block ?_
        refine B_seq ?_
        refine B_region ?_
        refine L_op (env' := uL3n77) rfl rfl (v_move (.inl rfl) rfl) rfl ?_
        refine L_op (env' := uL3n77) rfl rfl (rfl) rfl ?_
        refine L_op (env' := uL3n77) rfl rfl (v_const (VVal.int .i64 0) (.inl rfl) rfl) rfl ?_
        refine L_nil ?_
        refine K_seq ?_
        refine B_block ?_
        refine B_clear (false :: false :: true :: true :: true :: false :: false :: false :: true :: true :: true :: true :: true :: true :: true :: true :: true :: true :: true :: true :: true :: true :: true :: false :: true :: true :: true :: true :: true :: true :: true :: true :: true :: false :: false :: false :: true :: true :: true :: true :: true :: true :: true :: true :: true :: true :: true :: true :: true :: true :: true :: true :: true :: true :: true :: true :: true :: true :: true :: true :: true :: true :: true :: true :: true :: true :: true :: true :: true :: true :: true :: true :: true :: true :: true :: true :: true :: []) (env' := uL3n77) rfl ?_
        refine B_loopE (fun (k : Nat) => rows.length - k) (fun (k : Nat) => [(35, iI (k : Nat))]) (fun (k : Nat) G => (k ≤ rows.length) ∧ G = H ++ [.cells ((wayL rows.length (wF rows (satW most 65536) u s k)).map iW) true]) 0 rfl ?_ ?_
        · refine ⟨?_, rfl⟩
          exact Nat.zero_le _
        rintro k _ ⟨hk, rfl⟩
        refine B_env (env' := uL3n77) rfl ?_
        refine B_seq ?_
        refine B_region ?_
        refine L_op (env' := uL3n77) rfl rfl (rfl) rfl ?_
        refine L_nil ?_
        refine K_seq ?_
        refine B_seq ?_
        refine B_cond _ rfl (fun hc4 => ?_) (fun hc4 => ?_)
        · try simp only [decide_eq_true_eq, decide_eq_false_iff_not, Bool.not_eq_true', Bool.not_eq_false', bne_iff_ne, beq_iff_eq, Bool.and_eq_true, Bool.or_eq_true, Bool.not_eq_true, ge_iff_le, gt_iff_lt, Int.not_le, Int.not_lt, beq_eq_false_iff_ne, bne_eq_false_iff_eq, ne_eq, Decidable.not_not, wd_zero, wd_one, wd_inj] at hc4
          refine B_skip ?_
          refine K_seq ?_
          refine B_seq ?_
          refine B_block ?_
          refine B_seq ?_
          refine B_region ?_
          refine L_op (env' := uL3n77) rfl rfl (v_move (.inl rfl) rfl) rfl ?_
          refine L_op (env' := uL3n77) rfl rfl (by first | exact v_idxF rfl rfl rfl rfl rfl rfl rfl (by first | assumption | omega | (simp [*]; done) | (simp at *; omega)) | exact v_idx rfl rfl rfl rfl rfl rfl rfl (by first | assumption | omega | (simp [*]; done) | (simp at *; omega))) rfl ?_
          refine L_op (env' := uL3n77) rfl rfl (by first | exact v_loadF rfl rfl rfl rfl (by first | exact fget (α := BitVec 64) 0 (by omega) | exact fget0 (α := BitVec 64) 0 (by omega) | rfl) | exact v_load rfl rfl rfl rfl (by first | exact get_app rfl rfl | exact get_out (by assumption) | assumption | (simp [*]; done)) (by first | exact fget (α := BitVec 64) 0 (by omega) | exact fget0 (α := BitVec 64) 0 (by omega) | rfl)) rfl ?_
          refine L_op (env' := uL3n77) rfl rfl (v_move (.inr rfl) rfl) rfl ?_
          refine L_op (env' := uL3n77) rfl rfl (v_move (.inr rfl) rfl) rfl ?_
          refine L_nil ?_
          refine K_seq ?_
          refine B_seq ?_
          refine B_region ?_
          refine L_op (env' := uL3n77) rfl rfl (v_move (.inl rfl) rfl) rfl ?_
          refine L_op (env' := uL3n77) rfl rfl (v_move (.inl rfl) rfl) rfl ?_
          refine L_op (env' := uL3n77) rfl rfl (v_shrI rfl rfl rfl (by omega)) rfl ?_
          refine L_op (env' := uL3n77) rfl rfl (rfl) rfl ?_
          refine L_op (env' := uL3n77) rfl rfl (v_is (s.testBit k) rfl (tb_is (by omega))) rfl ?_
          refine L_op (env' := uL3n77) rfl rfl (v_move (.inl rfl) rfl) rfl ?_
          refine L_split 45 (env1 := uL3n77) (env2 := uL3n77) rfl rfl rfl (fun hg5 => ?_) (fun hg5 => ?_)
          · try simp only [decide_eq_true_eq, decide_eq_false_iff_not, Bool.not_eq_true', Bool.not_eq_false', bne_iff_ne, beq_iff_eq, Bool.and_eq_true, Bool.or_eq_true, Bool.not_eq_true, ge_iff_le, gt_iff_lt, Int.not_le, Int.not_lt, beq_eq_false_iff_ne, bne_eq_false_iff_eq, ne_eq, Decidable.not_not, wd_zero, wd_one, wd_inj] at hg5
            refine L_op (env' := uL3n77) rfl rfl (v_move (.inl rfl) rfl) rfl ?_
            refine L_op (env' := uL3n77) rfl rfl (v_move (.inl rfl) rfl) rfl ?_
            refine L_op (env' := uL3n77) rfl rfl (v_shrW rfl rfl rfl (by first | assumption | omega | (simp [*]; done) | (simp at *; omega))) rfl ?_
            refine L_op (env' := uL3n77) rfl rfl (v_andW (b := 1#64) rfl rfl rfl) rfl ?_
            refine L_op (env' := uL3n77) rfl rfl (rfl) rfl ?_
            refine L_op (env' := uL3n77) rfl rfl (v_pickT rfl rfl rfl) rfl ?_
            refine L_nil ?_
            refine K_seq ?_
            refine B_cond _ rfl (fun hc6 => ?_) (fun hc6 => ?_)
            · try simp only [decide_eq_true_eq, decide_eq_false_iff_not, Bool.not_eq_true', Bool.not_eq_false', bne_iff_ne, beq_iff_eq, Bool.and_eq_true, Bool.or_eq_true, Bool.not_eq_true, ge_iff_le, gt_iff_lt, Int.not_le, Int.not_lt, beq_eq_false_iff_ne, bne_eq_false_iff_eq, ne_eq, Decidable.not_not, wd_zero, wd_one, wd_inj] at hc6
              refine B_draw [0, 1, 2, 3, 4, 5, 6, 7, 8, 9, 10, 11, 12, 13, 14, 15, 16, 17] #[0, 0, 0, 0, 12, 28, 0, 0, 0, 256, 896, 1984, 4032, 8188, 0, 32764, 65535, 131071] (by kernel_rfl) (by kernel_rfl) (by kernel_rfl) ?_
              refine O_op (env' := uL3n77) (c := .calm) rfl rfl rfl (v_move (.inl rfl) rfl) rfl rfl rfl ?_
              refine O_op (env' := uL3n77) (c := .calm) rfl rfl rfl (v_move (.inl rfl) rfl) rfl rfl rfl ?_
              refine O_op (env' := uL3n77) (c := .calm) rfl rfl rfl (v_move (.inl rfl) rfl) rfl rfl rfl ?_
              refine O_op (env' := uL3n77) (c := .calm) rfl rfl rfl (v_move (.inl rfl) rfl) rfl rfl rfl ?_
              refine O_op (env' := uL3n77) (c := .calm) rfl rfl rfl (by first | exact v_idxF rfl rfl rfl rfl rfl rfl rfl (by first | assumption | omega | (simp [*]; done) | (simp at *; omega)) | exact v_idx rfl rfl rfl rfl rfl rfl rfl (by first | assumption | omega | (simp [*]; done) | (simp at *; omega))) rfl rfl rfl ?_
              refine O_op (env' := uL3n77) (c := .look) rfl rfl rfl (by first | exact v_loadF rfl rfl rfl rfl (by exact fget0 (α := BitVec 64) (l := wayL rows.length (wF rows (satW most 65536) u s k)) (n := (s : Nat)) 0 (by rw [wayL_len]; omega)) | exact v_load rfl rfl rfl rfl (by first | exact get_app rfl rfl | exact get_out (by assumption) | assumption | (simp [*]; done)) (by exact fget0 (α := BitVec 64) (l := wayL rows.length (wF rows (satW most 65536) u s k)) (n := (s : Nat)) 0 (by rw [wayL_len]; omega))) rfl rfl rfl ?_
              refine O_op (env' := uL3n77) (c := .calm) rfl rfl rfl (v_move (.inl rfl) rfl) rfl rfl rfl ?_
              refine O_op (env' := uL3n77) (c := .calm) rfl rfl rfl (v_move (.inl rfl) rfl) rfl rfl rfl ?_
              refine O_op (env' := uL3n77) (c := .calm) rfl rfl rfl (v_move (.inl rfl) rfl) rfl rfl rfl ?_
              refine O_op (env' := uL3n77) (c := .calm) rfl rfl rfl (v_shlI1 rfl rfl rfl (by omega)) rfl rfl rfl ?_
              refine O_op (env' := uL3n77) (c := .calm) rfl rfl rfl (v_val rfl (congrArg (VVal.int .i64) (andNot_less (by omega) (by omega) (by assumption)))) rfl rfl rfl ?_
              refine O_op (env' := uL3n77) (c := .calm) rfl rfl rfl (by first | exact v_idxF rfl rfl rfl rfl rfl rfl rfl (by have h9 := less_lt (s := s) (i := k) (by assumption); show (0 : Int) ≤ (less s k : Nat) ∧ ((less s k : Nat) : Int) < ((2 ^ rows.length : Nat) : Int); omega) | exact v_idx rfl rfl rfl rfl rfl rfl rfl (by have h9 := less_lt (s := s) (i := k) (by assumption); show (0 : Int) ≤ (less s k : Nat) ∧ ((less s k : Nat) : Int) < ((2 ^ rows.length : Nat) : Int); omega)) rfl rfl rfl ?_
              refine O_op (env' := uL3n77) (c := .look) rfl rfl rfl (by first | exact v_loadF rfl rfl rfl rfl (by exact fget0 (α := BitVec 64) (l := wayL rows.length (wF rows (satW most 65536) u s k)) (n := (less s k : Nat)) 0 (by rw [wayL_len]; have h9 := less_lt (s := s) (i := k) (by assumption); omega)) | exact v_load rfl rfl rfl rfl (by first | exact get_app rfl rfl | exact get_out (by assumption) | assumption | (simp [*]; done)) (by exact fget0 (α := BitVec 64) (l := wayL rows.length (wF rows (satW most 65536) u s k)) (n := (less s k : Nat)) 0 (by rw [wayL_len]; have h9 := less_lt (s := s) (i := k) (by assumption); omega))) rfl rfl rfl ?_
              refine O_op (env' := uL3n77) (c := .calm) rfl rfl rfl (v_addW rfl rfl rfl) rfl rfl rfl ?_
              refine O_op (env' := uL3n77) (c := .calm) rfl rfl rfl (v_move (.inl rfl) rfl) rfl rfl rfl ?_
              refine O_op (env' := uL3n77) (c := .calm) rfl rfl rfl (v_val rfl ((congrArg (VVal.int .u64) (by rw [show (wayL rows.length (wF rows (satW most 65536) u s k)).getD (s : Int).toNat 0 = satW (satW most 65536) (wP rows u s k) from way_at hs, show (wayL rows.length (wF rows (satW most 65536) u s k)).getD ((less s k : Nat) : Int).toNat 0 = satW (satW most 65536) (wS rows u (less s k)) from way_less hs (by assumption)]; exact sat_add hm) : _ = VVal.int .u64 ((satW (satW most 65536) (wP rows u s k + wS rows u (less s k))).toNat : Int)))) rfl rfl rfl ?_
              refine O_op (env' := uL3n77) (c := .calm) rfl rfl rfl (by first | exact v_idxF rfl rfl rfl rfl rfl rfl rfl (by first | assumption | omega | (simp [*]; done) | (simp at *; omega)) | exact v_idx rfl rfl rfl rfl rfl rfl rfl (by first | assumption | omega | (simp [*]; done) | (simp at *; omega))) rfl rfl rfl ?_
              refine O_op (env' := uL3n77) (c := .turn) rfl rfl rfl (v_storeT rfl rfl rfl rfl rfl rfl rfl (by first | exact get_app rfl rfl | exact get_out (by assumption) | assumption | (simp [*]; done)) (by rw [List.length_map, wayL_len]; show 0 + s * 1 + 1 ≤ _; omega) (by exact (set_app rfl).trans (congrArg (fun c => H ++ [VBlk.cells c true]) ((splice_w (l := wayL rows.length (wF rows (satW most 65536) u s k)) (k := s) (w := satW (satW most 65536) (wP rows u s k + wS rows u (less s k))) (by rw [wayL_len]; exact hs)).trans (by rw [way_set hm hs (by assumption) (sh1.1 (by assumption))]))))) rfl rfl rfl ?_
              refine O_nil [] (by kernel_rfl) (trivial) ?_
              refine K_blk ?_
              refine K_seq ?_
              refine B_region ?_
              refine L_op (env' := uL3n77) rfl rfl (v_addI rfl rfl rfl (by first | assumption | omega | (simp [*]; done) | (simp at *; omega))) rfl ?_
              refine L_op (env' := uL3n77) rfl rfl (v_move (.inl rfl) rfl) rfl ?_
              refine L_nil ?_
              refine K_loop (false :: false :: true :: true :: true :: false :: false :: false :: true :: true :: true :: true :: true :: true :: true :: true :: true :: true :: true :: true :: true :: true :: true :: false :: true :: true :: true :: true :: true :: true :: true :: true :: true :: false :: false :: false :: true :: true :: true :: true :: true :: true :: true :: true :: true :: true :: true :: true :: true :: true :: true :: true :: true :: true :: true :: true :: true :: true :: true :: true :: true :: true :: true :: true :: true :: true :: true :: true :: true :: true :: true :: true :: true :: true :: true :: true :: true :: []) (env' := uL3n77) rfl ⟨k + 1, ?_, rfl, ?_⟩
              · first | omega | (simp only []; omega)
              · first | exact ⟨by omega, rfl⟩ | exact ⟨by omega, by rw [way_same (fun e => absurd e.1 (not_of_f (by assumption)))]⟩ | exact ⟨by omega, by rw [way_same (fun e => absurd (sh1.2 e.2) (by assumption))]⟩
            · try simp only [decide_eq_true_eq, decide_eq_false_iff_not, Bool.not_eq_true', Bool.not_eq_false', bne_iff_ne, beq_iff_eq, Bool.and_eq_true, Bool.or_eq_true, Bool.not_eq_true, ge_iff_le, gt_iff_lt, Int.not_le, Int.not_lt, beq_eq_false_iff_ne, bne_eq_false_iff_eq, ne_eq, Decidable.not_not, wd_zero, wd_one, wd_inj] at hc6
              refine B_skip ?_
              refine K_blk ?_
              refine K_seq ?_
              refine B_region ?_
              refine L_op (env' := uL3n77) rfl rfl (v_addI rfl rfl rfl (by first | assumption | omega | (simp [*]; done) | (simp at *; omega))) rfl ?_
              refine L_op (env' := uL3n77) rfl rfl (v_move (.inl rfl) rfl) rfl ?_
              refine L_nil ?_
              refine K_loop (false :: false :: true :: true :: true :: false :: false :: false :: true :: true :: true :: true :: true :: true :: true :: true :: true :: true :: true :: true :: true :: true :: true :: false :: true :: true :: true :: true :: true :: true :: true :: true :: true :: false :: false :: false :: true :: true :: true :: true :: true :: true :: true :: true :: true :: true :: true :: true :: true :: true :: true :: true :: true :: true :: true :: true :: true :: true :: true :: true :: true :: true :: true :: true :: true :: true :: true :: true :: true :: true :: true :: true :: true :: true :: true :: true :: true :: []) (env' := uL3n77) rfl ⟨k + 1, ?_, rfl, ?_⟩
              · first | omega | (simp only []; omega)
              · first | exact ⟨by omega, rfl⟩ | exact ⟨by omega, by rw [way_same (fun e => absurd e.1 (not_of_f (by assumption)))]⟩ | exact ⟨by omega, by rw [way_same (fun e => absurd (sh1.2 e.2) (by assumption))]⟩
          · try simp only [decide_eq_true_eq, decide_eq_false_iff_not, Bool.not_eq_true', Bool.not_eq_false', bne_iff_ne, beq_iff_eq, Bool.and_eq_true, Bool.or_eq_true, Bool.not_eq_true, ge_iff_le, gt_iff_lt, Int.not_le, Int.not_lt, beq_eq_false_iff_ne, bne_eq_false_iff_eq, ne_eq, Decidable.not_not, wd_zero, wd_one, wd_inj] at hg5
            refine L_off (env' := uL3n77) rfl rfl ?_
            refine L_off (env' := uL3n77) rfl rfl ?_
            refine L_off (env' := uL3n77) rfl rfl ?_
            refine L_off (env' := uL3n77) rfl rfl ?_
            refine L_off (env' := uL3n77) rfl rfl ?_
            refine L_op (env' := uL3n77) rfl rfl (v_pickFC (VVal.bool false) rfl rfl rfl) rfl ?_
            refine L_nil ?_
            refine K_seq ?_
            refine B_false rfl rfl ?_
            refine B_skip ?_
            refine K_blk ?_
            refine K_seq ?_
            refine B_region ?_
            refine L_op (env' := uL3n77) rfl rfl (v_addI rfl rfl rfl (by first | assumption | omega | (simp [*]; done) | (simp at *; omega))) rfl ?_
            refine L_op (env' := uL3n77) rfl rfl (v_move (.inl rfl) rfl) rfl ?_
            refine L_nil ?_
            refine K_loop (false :: false :: true :: true :: true :: false :: false :: false :: true :: true :: true :: true :: true :: true :: true :: true :: true :: true :: true :: true :: true :: true :: true :: false :: true :: true :: true :: true :: true :: true :: true :: true :: true :: false :: false :: false :: true :: true :: true :: true :: true :: true :: true :: true :: true :: true :: true :: true :: true :: true :: true :: true :: true :: true :: true :: true :: true :: true :: true :: true :: true :: true :: true :: true :: true :: true :: true :: true :: true :: true :: true :: true :: true :: true :: true :: true :: true :: []) (env' := uL3n77) rfl ⟨k + 1, ?_, rfl, ?_⟩
            · first | omega | (simp only []; omega)
            · first | exact ⟨by omega, rfl⟩ | exact ⟨by omega, by rw [way_same (fun e => absurd e.1 (not_of_f (by assumption)))]⟩ | exact ⟨by omega, by rw [way_same (fun e => absurd (sh1.2 e.2) (by assumption))]⟩
        · try simp only [decide_eq_true_eq, decide_eq_false_iff_not, Bool.not_eq_true', Bool.not_eq_false', bne_iff_ne, beq_iff_eq, Bool.and_eq_true, Bool.or_eq_true, Bool.not_eq_true, ge_iff_le, gt_iff_lt, Int.not_le, Int.not_lt, beq_eq_false_iff_ne, bne_eq_false_iff_eq, ne_eq, Decidable.not_not, wd_zero, wd_one, wd_inj] at hc4
          refine B_exit ?_
          refine K_seqX ?_
          refine K_loopX ?_
          refine K_blkX ?_
          refine K_blk ?_
          refine K_seq ?_
          refine B_region ?_
          refine L_op (env' := uL3n77) rfl rfl (v_move (.inl rfl) rfl) rfl ?_
          refine L_op (env' := uL3n77) rfl rfl (v_subI rfl rfl rfl (by first | assumption | omega | (simp [*]; done) | (simp at *; omega))) rfl ?_
          refine L_op (env' := uL3n77) rfl rfl (v_move (.inr rfl) rfl) rfl ?_
          refine L_nil ?_
          obtain rfl : k = rows.length := by omega
          rw [show (s : Int) - 1 = ((s - 1 : Nat) : Int) by omega]
          refine K_loop (false :: false :: true :: true :: true :: false :: false :: false :: true :: true :: true :: true :: true :: true :: true :: true :: true :: true :: true :: true :: true :: true :: true :: false :: true :: true :: true :: true :: true :: true :: true :: true :: true :: true :: true :: true :: true :: true :: true :: true :: true :: true :: true :: true :: true :: true :: true :: true :: true :: true :: true :: true :: true :: true :: true :: true :: true :: true :: true :: true :: true :: true :: true :: true :: true :: true :: true :: true :: true :: true :: true :: true :: true :: true :: true :: true :: true :: []) (env' := uL3n77) rfl ⟨(s - 1), ?_, rfl, ?_⟩
          · first | omega | (simp only []; omega)
          · exact ⟨by omega, by rw [way_down (by omega) (by omega)]⟩
      · try simp only [decide_eq_true_eq, decide_eq_false_iff_not, Bool.not_eq_true', Bool.not_eq_false', bne_iff_ne, beq_iff_eq, Bool.and_eq_true, Bool.or_eq_true, Bool.not_eq_true, ge_iff_le, gt_iff_lt, Int.not_le, Int.not_lt, beq_eq_false_iff_ne, bne_eq_false_iff_eq, ne_eq, Decidable.not_not, wd_zero, wd_one, wd_inj] at hc3
        refine B_exit ?_
        refine K_seqX ?_
        refine K_loopX ?_
        refine K_blkX ?_
        refine K_blk ?_
        refine K_seq ?_
        refine B_region ?_
        refine L_op (env' := uL3n77) rfl rfl (v_addI rfl rfl rfl (by first | assumption | omega | (simp [*]; done) | (simp at *; omega))) rfl ?_
        refine L_op (env' := uL3n77) rfl rfl (v_move (.inl rfl) rfl) rfl ?_
        refine L_nil ?_
        refine K_loop (false :: false :: true :: true :: true :: false :: true :: true :: true :: true :: true :: true :: true :: true :: true :: true :: true :: true :: true :: true :: true :: true :: true :: false :: true :: true :: true :: true :: true :: true :: true :: true :: true :: true :: true :: true :: true :: true :: true :: true :: true :: true :: true :: true :: true :: true :: true :: true :: true :: true :: true :: true :: true :: true :: true :: true :: true :: true :: true :: true :: true :: true :: true :: true :: true :: true :: true :: true :: true :: true :: true :: true :: true :: true :: true :: true :: true :: []) (env' := uL3n77) rfl ⟨u + 1, ?_, rfl, ?_⟩
        · first | omega | (simp only []; omega)
        · exact ⟨by omega, by rw [← way_end, show s = 0 by omega]⟩
    · try simp only [decide_eq_true_eq, decide_eq_false_iff_not, Bool.not_eq_true', Bool.not_eq_false', bne_iff_ne, beq_iff_eq, Bool.and_eq_true, Bool.or_eq_true, Bool.not_eq_true, ge_iff_le, gt_iff_lt, Int.not_le, Int.not_lt, beq_eq_false_iff_ne, bne_eq_false_iff_eq, ne_eq, Decidable.not_not, wd_zero, wd_one, wd_inj] at hc2
      refine B_exit ?_
      refine K_seqX ?_
      refine K_loopX ?_
      refine K_blkX ?_
      refine K_seq ?_
      refine B_seq ?_
      refine B_region ?_
      refine L_op (env' := uL3n77) rfl rfl (v_move (.inl rfl) rfl) rfl ?_
      refine L_op (env' := uL3n77) rfl rfl (v_move (.inl rfl) rfl) rfl ?_
      refine L_op (env' := uL3n77) rfl rfl (rfl) rfl ?_
      refine L_op (env' := uL3n77) rfl rfl (v_val (v_subI rfl rfl rfl (by show -9223372036854775808 ≤ ((2 ^ rows.length : Nat) : Int) - 1 ∧ ((2 ^ rows.length : Nat) : Int) - 1 < 9223372036854775808; omega)) (congrArg iI (show ((2 ^ rows.length : Nat) : Int) - 1 = ((2 ^ rows.length - 1 : Nat) : Int) by omega))) rfl ?_
      refine L_op (env' := uL3n77) rfl rfl (by first | exact v_idxF rfl rfl rfl rfl rfl rfl rfl (by first | assumption | omega | (simp [*]; done) | (simp at *; omega)) | exact v_idx rfl rfl rfl rfl rfl rfl rfl (by first | assumption | omega | (simp [*]; done) | (simp at *; omega))) rfl ?_
      refine L_op (env' := uL3n77) rfl rfl (by first | exact v_loadF rfl rfl rfl rfl (by exact fget0 (α := BitVec 64) (l := wayL rows.length (wU rows (satW most 65536) u)) (n := ((2 ^ rows.length - 1 : Nat) : Int)) 0 (by rw [wayL_len]; omega)) | exact v_load rfl rfl rfl rfl (by first | exact get_app rfl rfl | exact get_out (by assumption) | assumption | (simp [*]; done)) (by exact fget0 (α := BitVec 64) (l := wayL rows.length (wU rows (satW most 65536) u)) (n := ((2 ^ rows.length - 1 : Nat) : Int)) 0 (by rw [wayL_len]; omega))) rfl ?_
      refine L_op (env' := uL3n77) rfl rfl (v_move (.inr rfl) rfl) rfl ?_
      refine L_nil ?_
      refine K_seq ?_
      refine B_ret ?_
      refine E_app (.inr rfl) (vres_tmp rfl rfl) (by first | exact BaseOk.refl _ | exact BaseOk.set (BaseOk.refl _) _ rfl) (by first | rfl | simp [VVal.under, VVal.underL, *]) ?_
      first
        | exact ⟨by rw [coV, if_neg (by omega)]; rfl, rfl⟩
        | (obtain rfl : u = 64 := by omega); exact ⟨by rw [coV, if_pos (by omega), show (wayL rows.length (wU rows (satW most 65536) 64)).getD ((2 ^ rows.length - 1 : Nat) : Int).toNat 0 = _ from wayL_get (by omega)]; unfold wU; rw [Int.toNat_natCast, wS_end], rfl⟩

/-- .. up to place u -/
def cnS (w : BitVec 64) (m : List (BitVec 64)) (u : Nat) : Nat := ((plTo w u).map fun v => cnT (msk m (1#64 <<< v)) 0#64).sum
theorem cnS_yes {w : BitVec 64} {m : List (BitVec 64)} {u : Nat} (h : w.getLsbD u = true) : cnS w m (u + 1) = cnS w m u + cnT (msk m (1#64 <<< u)) 0#64 := by
  unfold cnS; rw [plTo_yes h, List.map_append, List.sum_append]; simp
theorem cnS_no {w : BitVec 64} {m : List (BitVec 64)} {u : Nat} (h : w.getLsbD u = false) : cnS w m (u + 1) = cnS w m u := by unfold cnS; rw [plTo_no h]
theorem cnS_all {w : BitVec 64} {m : List (BitVec 64)} : cnS w m 64 = cnT (w :: m) 0#64 := by
  unfold cnS
  rw [plTo_all (Nat.le_refl _) (fun a h => BitVec.lt_of_getLsbD h), cnT]
  have e : w &&& ~~~0#64 = w := word_ext fun i hi => by rw [BitVec.getLsbD_and, BitVec.getLsbD_not, BitVec.getLsbD_zero, decide_eq_true hi]; simp
  rw [e]
  congr 1
  apply List.map_congr_left
  intro u _
  rw [cnT_msk]; congr 1; simp
theorem cnS_le {w : BitVec 64} {m : List (BitVec 64)} : ∀ {u k : Nat}, cnS w m u ≤ cnS w m (u + k)
  | u, 0 => Nat.le_refl _
  | u, k + 1 => by
    have := @cnS_le w m u k
    show cnS w m u ≤ cnS w m (u + k + 1)
    cases h : w.getLsbD (u + k) with
    | true => rw [cnS_yes h]; omega
    | false => rw [cnS_no h]; exact this
theorem wd_le_not {a b : BitVec 64} (h : (a.toNat : Int) ≤ (b.toNat : Int)) : ¬ b.toNat < a.toNat := by omega

theorem rCount_big {x : SW} (H : VHeap) (rows : List (BitVec 64)) (most : BitVec 64) (hl : rows.length ≤ 1000000) (hb : ¬ rows.length ≤ 12) : F (psys x) 19 [fzW rows, iW most] H fun v G => v = iW (coV rows most) ∧ G = H := by
  refine F_body Tryd.func19 rfl uL3n43 rfl ?_
  refine B_seq ?_
  refine B_region ?_
  refine L_op (env' := uL3n43) rfl rfl (v_const (VVal.int .u64 0) (.inr rfl) rfl) rfl ?_
  refine L_nil ?_
  refine K_seq ?_
  refine B_seq ?_
  refine B_seq ?_
  refine B_region ?_
  refine L_op (env' := uL3n43) rfl rfl (v_move (.inl rfl) rfl) rfl ?_
  refine L_op (env' := uL3n43) rfl rfl (rfl) rfl ?_
  refine L_op (env' := uL3n43) rfl rfl (v_move (.inl rfl) rfl) rfl ?_
  refine L_split 9 (env1 := uL3n43) (env2 := uL3n43) rfl rfl rfl (fun hg1 => ?_) (fun hg1 => ?_)
  · try simp only [decide_eq_true_eq, decide_eq_false_iff_not, Bool.not_eq_true', Bool.not_eq_false', bne_iff_ne, beq_iff_eq, Bool.and_eq_true, Bool.or_eq_true, Bool.not_eq_true, ge_iff_le, gt_iff_lt, Int.not_le, Int.not_lt, beq_eq_false_iff_ne, bne_eq_false_iff_eq, ne_eq, Decidable.not_not, wd_zero, wd_one, wd_inj] at hg1
    refine L_off (env' := uL3n43) rfl rfl ?_
    refine L_off (env' := uL3n43) rfl rfl ?_
    refine L_off (env' := uL3n43) rfl rfl ?_
    refine L_op (env' := uL3n43) rfl rfl (v_pickTC (VVal.bool true) rfl rfl rfl) rfl ?_
    refine L_nil ?_
    refine K_seq ?_
    refine B_true rfl rfl ?_
    refine B_seq ?_
    refine B_region ?_
    refine L_op (env' := uL3n43) rfl rfl (v_const (VVal.int .u64 0) (.inr rfl) rfl) rfl ?_
    refine L_nil ?_
    refine K_seq ?_
    refine B_ret ?_
    refine K_seqR ?_
    refine E_app (.inr rfl) (vres_tmp rfl rfl) (by first | exact BaseOk.refl _ | exact BaseOk.set (BaseOk.refl _) _ rfl) (by first | rfl | simp [VVal.under, VVal.underL, *]) ?_
    exact ⟨by rw [coV, if_neg hb]; rfl, rfl⟩
  · try simp only [decide_eq_true_eq, decide_eq_false_iff_not, Bool.not_eq_true', Bool.not_eq_false', bne_iff_ne, beq_iff_eq, Bool.and_eq_true, Bool.or_eq_true, Bool.not_eq_true, ge_iff_le, gt_iff_lt, Int.not_le, Int.not_lt, beq_eq_false_iff_ne, bne_eq_false_iff_eq, ne_eq, Decidable.not_not, wd_zero, wd_one, wd_inj] at hg1
    refine L_op (env' := uL3n43) rfl rfl (v_move (.inl rfl) rfl) rfl ?_
    refine L_call rfl rfl rfl (by exact refFull_spec _ _ (by omega)) ?_
    rintro v _ ⟨hv, rfl⟩; obtain rfl : v = .bool false := hv.trans (by rw [decide_eq_false hb, Bool.false_and])
    refine L_env (env' := uL3n43) rfl ?_
    refine L_op (env' := uL3n43) rfl rfl (rfl) rfl ?_
    refine L_op (env' := uL3n43) rfl rfl (v_pickF rfl rfl rfl) rfl ?_
    refine L_nil ?_
    refine K_seq ?_
    refine B_true rfl rfl ?_
    refine B_seq ?_
    refine B_region ?_
    refine L_op (env' := uL3n43) rfl rfl (v_const (VVal.int .u64 0) (.inr rfl) rfl) rfl ?_
    refine L_nil ?_
    refine K_seq ?_
    refine B_ret ?_
    refine K_seqR ?_
    refine E_app (.inr rfl) (vres_tmp rfl rfl) (by first | exact BaseOk.refl _ | exact BaseOk.set (BaseOk.refl _) _ rfl) (by first | rfl | simp [VVal.under, VVal.underL, *]) ?_
    exact ⟨by rw [coV, if_neg hb]; rfl, rfl⟩

theorem rCount_0 {x : SW} (H : VHeap) (most : BitVec 64) : F (psys x) 19 [fzW [], iW most] H fun v G => v = iW (coV [] most) ∧ G = H := by
  refine F_body Tryd.func19 rfl uL3n43 rfl ?_
  refine B_seq ?_
  refine B_region ?_
  refine L_op (env' := uL3n43) rfl rfl (v_const (VVal.int .u64 0) (.inr rfl) rfl) rfl ?_
  refine L_nil ?_
  refine K_seq ?_
  refine B_seq ?_
  refine B_seq ?_
  refine B_region ?_
  refine L_op (env' := uL3n43) rfl rfl (v_move (.inl rfl) rfl) rfl ?_
  refine L_op (env' := uL3n43) rfl rfl (rfl) rfl ?_
  refine L_op (env' := uL3n43) rfl rfl (v_move (.inl rfl) rfl) rfl ?_
  refine L_split 9 (env1 := uL3n43) (env2 := uL3n43) rfl rfl rfl (fun hg1 => ?_) (fun hg1 => ?_)
  · try simp only [decide_eq_true_eq, decide_eq_false_iff_not, Bool.not_eq_true', Bool.not_eq_false', bne_iff_ne, beq_iff_eq, Bool.and_eq_true, Bool.or_eq_true, Bool.not_eq_true, ge_iff_le, gt_iff_lt, Int.not_le, Int.not_lt, beq_eq_false_iff_ne, bne_eq_false_iff_eq, ne_eq, Decidable.not_not, wd_zero, wd_one, wd_inj] at hg1
    refine L_off (env' := uL3n43) rfl rfl ?_
    refine L_off (env' := uL3n43) rfl rfl ?_
    refine L_off (env' := uL3n43) rfl rfl ?_
    refine L_op (env' := uL3n43) rfl rfl (v_pickTC (VVal.bool true) rfl rfl rfl) rfl ?_
    refine L_nil ?_
    refine K_seq ?_
    refine B_true rfl rfl ?_
    refine B_seq ?_
    refine B_region ?_
    refine L_op (env' := uL3n43) rfl rfl (v_const (VVal.int .u64 0) (.inr rfl) rfl) rfl ?_
    refine L_nil ?_
    refine K_seq ?_
    refine B_ret ?_
    refine K_seqR ?_
    refine E_app (.inr rfl) (vres_tmp rfl rfl) (by first | exact BaseOk.refl _ | exact BaseOk.set (BaseOk.refl _) _ rfl) (by first | rfl | simp [VVal.under, VVal.underL, *]) ?_
    first
      | exact ⟨by rw [coV, if_pos (by decide), show most = 0#64 from by assumption, satW_none]; rfl, rfl⟩
      | exact ⟨by rw [coV, if_pos (by decide), show cnT [] 0#64 = 1 from rfl, satW_one (by assumption)]; rfl, rfl⟩
  · try simp only [decide_eq_true_eq, decide_eq_false_iff_not, Bool.not_eq_true', Bool.not_eq_false', bne_iff_ne, beq_iff_eq, Bool.and_eq_true, Bool.or_eq_true, Bool.not_eq_true, ge_iff_le, gt_iff_lt, Int.not_le, Int.not_lt, beq_eq_false_iff_ne, bne_eq_false_iff_eq, ne_eq, Decidable.not_not, wd_zero, wd_one, wd_inj] at hg1
    refine L_op (env' := uL3n43) rfl rfl (v_move (.inl rfl) rfl) rfl ?_
    refine L_call rfl rfl rfl (by exact refFull_12 _ [] (by decide)) ?_
    rintro v _ ⟨hv, rfl⟩; obtain rfl : v = .bool true := hv.trans (congrArg VVal.bool (full0.2 ⟨[], matU_nil.2 rfl⟩))
    refine L_env (env' := uL3n43) rfl ?_
    refine L_op (env' := uL3n43) rfl rfl (rfl) rfl ?_
    refine L_op (env' := uL3n43) rfl rfl (v_pickF rfl rfl rfl) rfl ?_
    refine L_nil ?_
    refine K_seq ?_
    refine B_false rfl rfl ?_
    refine B_skip ?_
    refine K_seq ?_
    refine B_seq ?_
    refine B_seq ?_
    refine B_region ?_
    refine L_op (env' := uL3n43) rfl rfl (v_move (.inl rfl) rfl) rfl ?_
    refine L_op (env' := uL3n43) rfl rfl (rfl) rfl ?_
    refine L_op (env' := uL3n43) rfl rfl (rfl) rfl ?_
    refine L_nil ?_
    refine K_seq ?_
    refine B_true rfl rfl ?_
    refine B_seq ?_
    refine B_region ?_
    refine L_op (env' := uL3n43) rfl rfl (v_const (VVal.int .u64 1) (.inr rfl) rfl) rfl ?_
    refine L_nil ?_
    refine K_seq ?_
    refine B_ret ?_
    refine K_seqR ?_
    refine E_app (.inr rfl) (vres_tmp rfl rfl) (by first | exact BaseOk.refl _ | exact BaseOk.set (BaseOk.refl _) _ rfl) (by first | rfl | simp [VVal.under, VVal.underL, *]) ?_
    first
      | exact ⟨by rw [coV, if_pos (by decide), show most = 0#64 from by assumption, satW_none]; rfl, rfl⟩
      | exact ⟨by rw [coV, if_pos (by decide), show cnT [] 0#64 = 1 from rfl, satW_one (by assumption)]; rfl, rfl⟩

theorem rCount_s {x : SW} (H : VHeap) (w : BitVec 64) (m : List (BitVec 64)) (h12 : (w :: m).length ≤ 12) (ih : ∀ (H : VHeap) (r : List (BitVec 64)) (most : BitVec 64), r.length = m.length → F (psys x) 19 [fzW r, iW most] H fun v G => v = iW (satW most (cnT r 0#64)) ∧ G = H) (most : BitVec 64) : F (psys x) 19 [fzW (w :: m), iW most] H fun v G => v = iW (satW most (cnT (w :: m) 0#64)) ∧ G = H := by
  have hml : m.length + 1 ≤ 12 := h12
  refine F_body Tryd.func19 rfl uL3n43 rfl ?_
  refine B_seq ?_
  refine B_region ?_
  refine L_op (env' := uL3n43) rfl rfl (v_const (VVal.int .u64 0) (.inr rfl) rfl) rfl ?_
  refine L_nil ?_
  refine K_seq ?_
  refine B_seq ?_
  refine B_seq ?_
  refine B_region ?_
  refine L_op (env' := uL3n43) rfl rfl (v_move (.inl rfl) rfl) rfl ?_
  refine L_op (env' := uL3n43) rfl rfl (rfl) rfl ?_
  refine L_op (env' := uL3n43) rfl rfl (v_move (.inl rfl) rfl) rfl ?_
  refine L_split 9 (env1 := uL3n43) (env2 := uL3n43) rfl rfl rfl (fun hg1 => ?_) (fun hg1 => ?_)
  · try simp only [decide_eq_true_eq, decide_eq_false_iff_not, Bool.not_eq_true', Bool.not_eq_false', bne_iff_ne, beq_iff_eq, Bool.and_eq_true, Bool.or_eq_true, Bool.not_eq_true, ge_iff_le, gt_iff_lt, Int.not_le, Int.not_lt, beq_eq_false_iff_ne, bne_eq_false_iff_eq, ne_eq, Decidable.not_not, wd_zero, wd_one, wd_inj] at hg1
    refine L_off (env' := uL3n43) rfl rfl ?_
    refine L_off (env' := uL3n43) rfl rfl ?_
    refine L_off (env' := uL3n43) rfl rfl ?_
    refine L_op (env' := uL3n43) rfl rfl (v_pickTC (VVal.bool true) rfl rfl rfl) rfl ?_
    refine L_nil ?_
    refine K_seq ?_
    refine B_true rfl rfl ?_
    refine B_seq ?_
    refine B_region ?_
    refine L_op (env' := uL3n43) rfl rfl (v_const (VVal.int .u64 0) (.inr rfl) rfl) rfl ?_
    refine L_nil ?_
    refine K_seq ?_
    refine B_ret ?_
    refine K_seqR ?_
    refine E_app (.inr rfl) (vres_tmp rfl rfl) (by first | exact BaseOk.refl _ | exact BaseOk.set (BaseOk.refl _) _ rfl) (by first | rfl | simp [VVal.under, VVal.underL, *]) ?_
    first
      | exact ⟨by rw [show most = 0#64 from by assumption, satW_none]; rfl, rfl⟩
      | exact ⟨by rw [cnT_none (by assumption), satW_0]; rfl, rfl⟩
      | (have hf := satW_ge (wd_le_not (by assumption))); exact ⟨by rw [hf, ← cnS_all, satW_full hf (by have := @cnS_le w m u (64 - u); rw [show u + (64 - u) = 64 by omega] at this; exact this)], rfl⟩
      | (obtain rfl : u = 64 := by omega); exact ⟨by rw [cnS_all], rfl⟩
  · try simp only [decide_eq_true_eq, decide_eq_false_iff_not, Bool.not_eq_true', Bool.not_eq_false', bne_iff_ne, beq_iff_eq, Bool.and_eq_true, Bool.or_eq_true, Bool.not_eq_true, ge_iff_le, gt_iff_lt, Int.not_le, Int.not_lt, beq_eq_false_iff_ne, bne_eq_false_iff_eq, ne_eq, Decidable.not_not, wd_zero, wd_one, wd_inj] at hg1
    refine L_op (env' := uL3n43) rfl rfl (v_move (.inl rfl) rfl) rfl ?_
    refine L_call rfl rfl rfl (by exact refFull_12 _ (w :: m) h12) ?_
    rintro _ _ ⟨rfl, rfl⟩
    refine L_env (env' := uL3n43) rfl ?_
    refine L_op (env' := uL3n43) rfl rfl (rfl) rfl ?_
    refine L_op (env' := uL3n43) rfl rfl (v_pickF rfl rfl rfl) rfl ?_
    refine L_nil ?_
    refine K_seq ?_
    refine B_cond _ rfl (fun hc2 => ?_) (fun hc2 => ?_)
    · try simp only [decide_eq_true_eq, decide_eq_false_iff_not, Bool.not_eq_true', Bool.not_eq_false', bne_iff_ne, beq_iff_eq, Bool.and_eq_true, Bool.or_eq_true, Bool.not_eq_true, ge_iff_le, gt_iff_lt, Int.not_le, Int.not_lt, beq_eq_false_iff_ne, bne_eq_false_iff_eq, ne_eq, Decidable.not_not, wd_zero, wd_one, wd_inj] at hc2
      refine B_seq ?_
      refine B_region ?_
      refine L_op (env' := uL3n43) rfl rfl (v_const (VVal.int .u64 0) (.inr rfl) rfl) rfl ?_
      refine L_nil ?_
      refine K_seq ?_
      refine B_ret ?_
      refine K_seqR ?_
      refine E_app (.inr rfl) (vres_tmp rfl rfl) (by first | exact BaseOk.refl _ | exact BaseOk.set (BaseOk.refl _) _ rfl) (by first | rfl | simp [VVal.under, VVal.underL, *]) ?_
      first
        | exact ⟨by rw [show most = 0#64 from by assumption, satW_none]; rfl, rfl⟩
        | exact ⟨by rw [cnT_none (by assumption), satW_0]; rfl, rfl⟩
        | (have hf := satW_ge (wd_le_not (by assumption))); exact ⟨by rw [hf, ← cnS_all, satW_full hf (by have := @cnS_le w m u (64 - u); rw [show u + (64 - u) = 64 by omega] at this; exact this)], rfl⟩
        | (obtain rfl : u = 64 := by omega); exact ⟨by rw [cnS_all], rfl⟩
    · try simp only [decide_eq_true_eq, decide_eq_false_iff_not, Bool.not_eq_true', Bool.not_eq_false', bne_iff_ne, beq_iff_eq, Bool.and_eq_true, Bool.or_eq_true, Bool.not_eq_true, ge_iff_le, gt_iff_lt, Int.not_le, Int.not_lt, beq_eq_false_iff_ne, bne_eq_false_iff_eq, ne_eq, Decidable.not_not, wd_zero, wd_one, wd_inj] at hc2
      refine B_skip ?_
      refine K_seq ?_
      refine B_seq ?_
      refine B_seq ?_
      refine B_region ?_
      refine L_op (env' := uL3n43) rfl rfl (v_move (.inl rfl) rfl) rfl ?_
      refine L_op (env' := uL3n43) rfl rfl (rfl) rfl ?_
      refine L_op (env' := uL3n43) rfl rfl (v_is false rfl (by rw [beq_eq_false_iff_ne]; show ¬ ((m.length + 1 : Nat) : Int) = 0; omega)) rfl ?_
      refine L_nil ?_
      refine K_seq ?_
      refine B_false rfl rfl ?_
      refine B_skip ?_
      refine K_seq ?_
      refine B_seq ?_
      refine B_region ?_
      refine L_op (env' := uL3n43) rfl rfl (v_const (VVal.int .u64 0) (.inr rfl) rfl) rfl ?_
      refine L_nil ?_
      refine K_seq ?_
      refine B_seq ?_
      refine B_seq ?_
      refine B_region ?_
      refine L_op (env' := uL3n43) rfl rfl (v_const (VVal.int .i64 0) (.inr rfl) rfl) rfl ?_
      refine L_nil ?_
      refine K_seq ?_
      refine B_block ?_
      refine B_clear [false,false,true,true,true,false,false,true,true,true,true,true,true,true,true,true,true,true,true,true,true,true,true,true,true,true,true,true,true,true,true,true,true,true,true,true,true,true,true,true,true,true,true] (env' := uL3n43) rfl ?_
      refine B_loopE (fun (u : Nat) => 64 - u) (fun (u : Nat) => [(5, iW (satW most (cnS w m u))), (6, iI (u : Nat))]) (fun (u : Nat) G => (u ≤ 64) ∧ G = H ++ []) 0 (by rw [show cnS w m 0 = 0 from rfl, satW_0]; rfl) ?_ ?_
      · refine ⟨?_, rfl⟩
        exact Nat.zero_le _
      rintro u _ ⟨hu, rfl⟩
      refine B_env (env' := uL3n43) rfl ?_
      refine B_seq ?_
      refine B_seq ?_
      refine B_region ?_
      refine L_op (env' := uL3n43) rfl rfl (v_move (.inl rfl) rfl) rfl ?_
      refine L_op (env' := uL3n43) rfl rfl (rfl) rfl ?_
      refine L_op (env' := uL3n43) rfl rfl (v_move (.inl rfl) rfl) rfl ?_
      refine L_split 19 (env1 := uL3n43) (env2 := uL3n43) rfl rfl rfl (fun hg3 => ?_) (fun hg3 => ?_)
      · try simp only [decide_eq_true_eq, decide_eq_false_iff_not, Bool.not_eq_true', Bool.not_eq_false', bne_iff_ne, beq_iff_eq, Bool.and_eq_true, Bool.or_eq_true, Bool.not_eq_true, ge_iff_le, gt_iff_lt, Int.not_le, Int.not_lt, beq_eq_false_iff_ne, bne_eq_false_iff_eq, ne_eq, Decidable.not_not, wd_zero, wd_one, wd_inj] at hg3
        refine L_op (env' := uL3n43) rfl rfl (v_move (.inl rfl) rfl) rfl ?_
        refine L_op (env' := uL3n43) rfl rfl (v_move (.inl rfl) rfl) rfl ?_
        refine L_op (env' := uL3n43) rfl rfl (rfl) rfl ?_
        refine L_op (env' := uL3n43) rfl rfl (v_pickT rfl rfl rfl) rfl ?_
        refine L_nil ?_
        refine K_seq ?_
        refine B_cond _ rfl (fun hc4 => ?_) (fun hc4 => ?_)
        · try simp only [decide_eq_true_eq, decide_eq_false_iff_not, Bool.not_eq_true', Bool.not_eq_false', bne_iff_ne, beq_iff_eq, Bool.and_eq_true, Bool.or_eq_true, Bool.not_eq_true, ge_iff_le, gt_iff_lt, Int.not_le, Int.not_lt, beq_eq_false_iff_ne, bne_eq_false_iff_eq, ne_eq, Decidable.not_not, wd_zero, wd_one, wd_inj] at hc4
          refine B_skip ?_
          refine K_seq ?_
          refine B_seq ?_
          refine B_block ?_
          refine B_seq ?_
          refine B_region ?_
          refine L_op (env' := uL3n43) rfl rfl (v_move (.inl rfl) rfl) rfl ?_
          refine L_op (env' := uL3n43) rfl rfl (by first | exact v_idxF rfl rfl rfl rfl rfl rfl rfl (by first | assumption | omega | (simp [*]; done) | (simp at *; omega)) | exact v_idx rfl rfl rfl rfl rfl rfl rfl (by first | assumption | omega | (simp [*]; done) | (simp at *; omega))) rfl ?_
          refine L_op (env' := uL3n43) rfl rfl (by first | exact v_loadF rfl rfl rfl rfl (by first | rfl | exact fget (α := BitVec 64) (n := 0) 0 (by omega)) | exact v_load rfl rfl rfl rfl (by first | exact get_app rfl rfl | exact get_out (by assumption) | assumption | (simp [*]; done)) (by first | rfl | exact fget (α := BitVec 64) (n := 0) 0 (by omega))) rfl ?_
          refine L_op (env' := uL3n43) rfl rfl (v_move (.inl rfl) rfl) rfl ?_
          refine L_op (env' := uL3n43) rfl rfl (v_shrW rfl rfl rfl (by first | assumption | omega | (simp [*]; done) | (simp at *; omega))) rfl ?_
          refine L_op (env' := uL3n43) rfl rfl (v_andW (b := 1#64) rfl rfl rfl) rfl ?_
          refine L_op (env' := uL3n43) rfl rfl (rfl) rfl ?_
          refine L_nil ?_
          refine K_seq ?_
          refine B_cond _ rfl (fun hc5 => ?_) (fun hc5 => ?_)
          · try simp only [decide_eq_true_eq, decide_eq_false_iff_not, Bool.not_eq_true', Bool.not_eq_false', bne_iff_ne, beq_iff_eq, Bool.and_eq_true, Bool.or_eq_true, Bool.not_eq_true, ge_iff_le, gt_iff_lt, Int.not_le, Int.not_lt, beq_eq_false_iff_ne, bne_eq_false_iff_eq, ne_eq, Decidable.not_not, wd_zero, wd_one, wd_inj] at hc5
            refine B_region ?_
            refine L_op (env' := uL3n43) rfl rfl (v_move (.inl rfl) rfl) rfl ?_
            refine L_op (env' := uL3n43) rfl rfl (v_move (.inl rfl) rfl) rfl ?_
            refine L_op (env' := uL3n43) rfl rfl (v_move (.inl rfl) rfl) rfl ?_
            refine L_call rfl rfl rfl (by exact given_spec _ (w :: m) u (Nat.le_trans h12 (by decide))) ?_
            rintro _ _ ⟨rfl, rfl⟩
            refine L_env (env' := uL3n43) rfl ?_
            refine L_op (env' := uL3n43) rfl rfl (v_move (.inl rfl) rfl) rfl ?_
            refine L_op (env' := uL3n43) rfl rfl (v_move (.inl rfl) rfl) rfl ?_
            refine L_op (env' := uL3n43) rfl rfl (v_subW rfl rfl rfl) rfl ?_
            refine L_call rfl rfl rfl (by exact ih _ (msk m (1#64 <<< u)) _ msk_len) ?_
            rintro _ _ ⟨rfl, rfl⟩
            refine L_env (env' := uL3n43) rfl ?_
            refine L_op (env' := uL3n43) rfl rfl (v_addW rfl rfl rfl) rfl ?_
            refine L_op (env' := uL3n43) rfl rfl (v_move (.inr rfl) rfl) rfl ?_
            refine L_nil ?_
            refine K_blk ?_
            refine K_seq ?_
            refine B_region ?_
            refine L_op (env' := uL3n43) rfl rfl (v_move (.inl rfl) rfl) rfl ?_
            refine L_op (env' := uL3n43) rfl rfl (v_addI rfl rfl rfl (by first | assumption | omega | (simp [*]; done) | (simp at *; omega))) rfl ?_
            refine L_op (env' := uL3n43) rfl rfl (v_move (.inr rfl) rfl) rfl ?_
            refine L_nil ?_
            first
              | (have hE : satW most (cnS w m u) + satW (most - satW most (cnS w m u)) (cnT (msk m (1#64 <<< u)) 0#64) = satW most (cnS w m (u + 1)) := by rw [satW_step, cnS_yes (sh1.1 (by assumption))]); rw [hE]
              | (have hE : satW most (cnS w m u) = satW most (cnS w m (u + 1)) := by rw [cnS_no (sh1n.1 (by assumption))]); rw [hE]
            refine K_loop [false,false,true,true,true,false,false,true,true,true,true,true,true,true,true,true,true,true,true,true,true,true,true,true,true,true,true,true,true,true,true,true,true,true,true,true,true,true,true,true,true,true,true] (env' := uL3n43) rfl ⟨u + 1, ?_, rfl, ?_⟩
            · first | omega | (simp only []; omega)
            · exact ⟨by omega, rfl⟩
          · try simp only [decide_eq_true_eq, decide_eq_false_iff_not, Bool.not_eq_true', Bool.not_eq_false', bne_iff_ne, beq_iff_eq, Bool.and_eq_true, Bool.or_eq_true, Bool.not_eq_true, ge_iff_le, gt_iff_lt, Int.not_le, Int.not_lt, beq_eq_false_iff_ne, bne_eq_false_iff_eq, ne_eq, Decidable.not_not, wd_zero, wd_one, wd_inj] at hc5
            refine B_skip ?_
            refine K_blk ?_
            refine K_seq ?_
            refine B_region ?_
            refine L_op (env' := uL3n43) rfl rfl (v_move (.inl rfl) rfl) rfl ?_
            refine L_op (env' := uL3n43) rfl rfl (v_addI rfl rfl rfl (by first | assumption | omega | (simp [*]; done) | (simp at *; omega))) rfl ?_
            refine L_op (env' := uL3n43) rfl rfl (v_move (.inr rfl) rfl) rfl ?_
            refine L_nil ?_
            first
              | (have hE : satW most (cnS w m u) + satW (most - satW most (cnS w m u)) (cnT (msk m (1#64 <<< u)) 0#64) = satW most (cnS w m (u + 1)) := by rw [satW_step, cnS_yes (sh1.1 (by assumption))]); rw [hE]
              | (have hE : satW most (cnS w m u) = satW most (cnS w m (u + 1)) := by rw [cnS_no (sh1n.1 (by assumption))]); rw [hE]
            refine K_loop [false,false,true,true,true,false,false,true,true,true,true,true,true,true,true,true,true,true,true,true,true,true,true,true,true,true,true,true,true,true,true,true,true,true,true,true,true,true,true,true,true,true,true] (env' := uL3n43) rfl ⟨u + 1, ?_, rfl, ?_⟩
            · first | omega | (simp only []; omega)
            · exact ⟨by omega, rfl⟩
        · try simp only [decide_eq_true_eq, decide_eq_false_iff_not, Bool.not_eq_true', Bool.not_eq_false', bne_iff_ne, beq_iff_eq, Bool.and_eq_true, Bool.or_eq_true, Bool.not_eq_true, ge_iff_le, gt_iff_lt, Int.not_le, Int.not_lt, beq_eq_false_iff_ne, bne_eq_false_iff_eq, ne_eq, Decidable.not_not, wd_zero, wd_one, wd_inj] at hc4
          refine B_exit ?_
          refine K_seqX ?_
          refine K_loopX ?_
          refine K_blkX ?_
          refine K_seq ?_
          refine B_seq ?_
          refine B_region ?_
          refine L_op (env' := uL3n43) rfl rfl (v_move (.inl rfl) rfl) rfl ?_
          refine L_op (env' := uL3n43) rfl rfl (v_move (.inr rfl) rfl) rfl ?_
          refine L_nil ?_
          refine K_seq ?_
          refine B_ret ?_
          refine E_app (.inr rfl) (vres_tmp rfl rfl) (by first | exact BaseOk.refl _ | exact BaseOk.set (BaseOk.refl _) _ rfl) (by first | rfl | simp [VVal.under, VVal.underL, *]) ?_
          first
            | exact ⟨by rw [show most = 0#64 from by assumption, satW_none]; rfl, rfl⟩
            | exact ⟨by rw [cnT_none (by assumption), satW_0]; rfl, rfl⟩
            | (have hf := satW_ge (wd_le_not (by assumption))); exact ⟨by rw [hf, ← cnS_all, satW_full hf (by have := @cnS_le w m u (64 - u); rw [show u + (64 - u) = 64 by omega] at this; exact this)], rfl⟩
            | (obtain rfl : u = 64 := by omega); exact ⟨by rw [cnS_all], rfl⟩
      · try simp only [decide_eq_true_eq, decide_eq_false_iff_not, Bool.not_eq_true', Bool.not_eq_false', bne_iff_ne, beq_iff_eq, Bool.and_eq_true, Bool.or_eq_true, Bool.not_eq_true, ge_iff_le, gt_iff_lt, Int.not_le, Int.not_lt, beq_eq_false_iff_ne, bne_eq_false_iff_eq, ne_eq, Decidable.not_not, wd_zero, wd_one, wd_inj] at hg3
        refine L_off (env' := uL3n43) rfl rfl ?_
        refine L_off (env' := uL3n43) rfl rfl ?_
        refine L_off (env' := uL3n43) rfl rfl ?_
        refine L_op (env' := uL3n43) rfl rfl (v_pickFC (VVal.bool false) rfl rfl rfl) rfl ?_
        refine L_nil ?_
        refine K_seq ?_
        refine B_false rfl rfl ?_
        refine B_exit ?_
        refine K_seqX ?_
        refine K_loopX ?_
        refine K_blkX ?_
        refine K_seq ?_
        refine B_seq ?_
        refine B_region ?_
        refine L_op (env' := uL3n43) rfl rfl (v_move (.inl rfl) rfl) rfl ?_
        refine L_op (env' := uL3n43) rfl rfl (v_move (.inr rfl) rfl) rfl ?_
        refine L_nil ?_
        refine K_seq ?_
        refine B_ret ?_
        refine E_app (.inr rfl) (vres_tmp rfl rfl) (by first | exact BaseOk.refl _ | exact BaseOk.set (BaseOk.refl _) _ rfl) (by first | rfl | simp [VVal.under, VVal.underL, *]) ?_
        first
          | exact ⟨by rw [show most = 0#64 from by assumption, satW_none]; rfl, rfl⟩
          | exact ⟨by rw [cnT_none (by assumption), satW_0]; rfl, rfl⟩
          | (have hf := satW_ge (wd_le_not (by assumption))); exact ⟨by rw [hf, ← cnS_all, satW_full hf (by have := @cnS_le w m u (64 - u); rw [show u + (64 - u) = 64 by omega] at this; exact this)], rfl⟩
          | (obtain rfl : u = 64 := by omega); exact ⟨by rw [cnS_all], rfl⟩

theorem rCount_all {x : SW} : ∀ (n : Nat) (H : VHeap) (r : List (BitVec 64)) (most : BitVec 64), r.length = n → n ≤ 12 → F (psys x) 19 [fzW r, iW most] H fun v G => v = iW (satW most (cnT r 0#64)) ∧ G = H
  | 0, H, r, most, h, _ => by
    obtain rfl : r = [] := List.eq_nil_of_length_eq_zero h
    exact rCount_0 H most
  | n + 1, H, [], most, h, _ => by simp at h
  | n + 1, H, w :: m, most, h, h12 => rCount_s H w m (by rw [h]; exact h12) (fun H r most hr => rCount_all n H r most (hr.trans (by simpa using h)) (by omega)) most
theorem rCount_spec {x : SW} (H : VHeap) (rows : List (BitVec 64)) (most : BitVec 64) (hl : rows.length ≤ 1000000) : F (psys x) 19 [fzW rows, iW most] H fun v G => v = iW (coV rows most) ∧ G = H := by
  by_cases h : rows.length ≤ 12
  · have := rCount_all (x := x) rows.length H rows most rfl h
    unfold coV; rw [if_pos h]; exact this
  · exact rCount_big H rows most hl h

theorem MatchCount_walk {x : SW} (H : VHeap) (rows : List (BitVec 64)) (most : BitVec 64) : F (psys x) 5 [fzW rows, iW most] H fun v G => v = .bool true ∧ G = H := by
  have h20 : (rows.take 20).length ≤ 20 := by rw [List.length_take]; omega
  refine F_body Tryd.func5 rfl uL3n21 rfl ?_
  refine B_seq ?_
  refine B_region ?_
  refine L_op (env' := uL3n21) rfl rfl (v_const (VVal.bool false) (.inr rfl) rfl) rfl ?_
  refine L_nil ?_
  refine K_seq ?_
  refine B_seq ?_
  refine B_region ?_
  refine L_op (env' := uL3n21) rfl rfl (v_move (.inl rfl) rfl) rfl ?_
  refine L_op (env' := uL3n21) rfl rfl (v_move (.inr rfl) rfl) rfl ?_
  refine L_nil ?_
  refine K_seq ?_
  refine B_seqJ [false,false,true,true,true,false,true,true,true,true,true,true,true,true,true,true,true,true,true,true,true] (fun (mm : BitVec 64) => [(5, iW mm)]) (fun (mm : BitVec 64) G => (mm = satW most 65536) ∧ G = H ++ []) ?_ ?_
  · skip
    refine B_seq ?_
    refine B_region ?_
    refine L_op (env' := uL3n21) rfl rfl (v_move (.inl rfl) rfl) rfl ?_
    refine L_op (env' := uL3n21) rfl rfl (rfl) rfl ?_
    refine L_nil ?_
    refine K_seq ?_
    refine B_cond _ rfl (fun hc1 => ?_) (fun hc1 => ?_)
    · try simp only [decide_eq_true_eq, decide_eq_false_iff_not, Bool.not_eq_true', Bool.not_eq_false', bne_iff_ne, beq_iff_eq, Bool.and_eq_true, Bool.or_eq_true, Bool.not_eq_true, ge_iff_le, gt_iff_lt, Int.not_le, Int.not_lt, beq_eq_false_iff_ne, bne_eq_false_iff_eq, ne_eq, Decidable.not_not, wd_zero, wd_one, wd_inj] at hc1
      refine B_region ?_
      refine L_op (env' := uL3n21) rfl rfl (v_const (iW 65536#64) (.inr rfl) rfl) rfl ?_
      refine L_nil ?_
      refine K_loop [false,false,true,true,true,false,true,true,true,true,true,true,true,true,true,true,true,true,true,true,true] (env' := uL3n21) rfl ⟨_, rfl, ?_⟩
      first
        | exact ⟨(by apply BitVec.eq_of_toNat_eq; rw [satW_nat]; show (65536#64 : BitVec 64).toNat = _; show 65536 = _; omega), rfl⟩
        | exact ⟨(by apply BitVec.eq_of_toNat_eq; rw [satW_nat]; omega), rfl⟩
    · try simp only [decide_eq_true_eq, decide_eq_false_iff_not, Bool.not_eq_true', Bool.not_eq_false', bne_iff_ne, beq_iff_eq, Bool.and_eq_true, Bool.or_eq_true, Bool.not_eq_true, ge_iff_le, gt_iff_lt, Int.not_le, Int.not_lt, beq_eq_false_iff_ne, bne_eq_false_iff_eq, ne_eq, Decidable.not_not, wd_zero, wd_one, wd_inj] at hc1
      refine B_skip ?_
      refine K_loop [false,false,true,true,true,false,true,true,true,true,true,true,true,true,true,true,true,true,true,true,true] (env' := uL3n21) rfl ⟨_, rfl, ?_⟩
      first
        | exact ⟨(by apply BitVec.eq_of_toNat_eq; rw [satW_nat]; show (65536#64 : BitVec 64).toNat = _; show 65536 = _; omega), rfl⟩
        | exact ⟨(by apply BitVec.eq_of_toNat_eq; rw [satW_nat]; omega), rfl⟩
  · rintro mm _ ⟨hmm, rfl⟩
    refine B_env (env' := uL3n21) rfl ?_
    refine B_seq ?_
    refine B_region ?_
    refine L_op (env' := uL3n21) rfl rfl (v_move (.inl rfl) rfl) rfl ?_
    refine L_call rfl rfl rfl (by exact few_spec _ _) ?_
    rintro _ _ ⟨rfl, rfl⟩
    refine L_env (env' := uL3n21) rfl ?_
    refine L_op (env' := uL3n21) rfl rfl (v_move (.inl rfl) rfl) rfl ?_
    refine L_call rfl rfl rfl (by exact mCount_spec _ (rows.take 20) most (by omega)) ?_
    rintro _ _ ⟨rfl, rfl⟩
    refine L_env (env' := uL3n21) rfl ?_
    refine L_op (env' := uL3n21) rfl rfl (v_move (.inl rfl) rfl) rfl ?_
    refine L_call rfl rfl rfl (by exact few_spec _ _) ?_
    rintro _ _ ⟨rfl, rfl⟩
    refine L_env (env' := uL3n21) rfl ?_
    refine L_op (env' := uL3n21) rfl rfl (v_move (.inl rfl) rfl) rfl ?_
    refine L_call rfl rfl rfl (by exact rCount_spec _ (rows.take 20) mm (by omega)) ?_
    rintro _ _ ⟨rfl, rfl⟩
    refine L_env (env' := uL3n21) rfl ?_
    refine L_op (env' := uL3n21) rfl rfl (v_is true rfl (by rw [hmm]; simp)) rfl ?_
    refine L_op (env' := uL3n21) rfl rfl (v_move (.inl rfl) rfl) rfl ?_
    refine L_call rfl rfl rfl (by exact mWakes_spec _) ?_
    rintro _ _ ⟨rfl, rfl⟩
    refine L_env (env' := uL3n21) rfl ?_
    refine L_op (env' := uL3n21) rfl rfl (v_pickT rfl rfl rfl) rfl ?_
    refine L_op (env' := uL3n21) rfl rfl (v_move (.inr rfl) rfl) rfl ?_
    refine L_nil ?_
    refine K_seq ?_
    refine B_ret ?_
    refine E_app (.inr rfl) (vres_tmp rfl rfl) (by first | exact BaseOk.refl _ | exact BaseOk.set (BaseOk.refl _) _ rfl) (by first | rfl | simp [VVal.under, VVal.underL, *]) ?_
    exact ⟨rfl, rfl⟩

theorem MatchCount_law {x : SW} (rows : List (BitVec 64)) (most : BitVec 64) : F (psys x) 5 [fzW rows, iW most] [] fun v G => v = .bool true := (MatchCount_walk [] rows most).mono fun v G h => h.1
end Go.Proofs.YtpekleeidllllaaDoor.VT
