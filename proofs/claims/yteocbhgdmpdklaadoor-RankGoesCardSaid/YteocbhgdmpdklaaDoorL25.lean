/- RankGoes: the law -/
import Derived.Test.YteocbhgdmpdklaaDoorR1
import Derived.Test.YteocbhgdmpdklaaDoorS24
import Derived.Test.YteocbhgdmpdklaaDoorS31
import Derived.Test.YteocbhgdmpdklaaDoorV24
set_option autoImplicit false
set_option linter.unusedVariables false
set_option linter.unusedSimpArgs false
set_option maxHeartbeats 4000000
set_option maxRecDepth 100000
namespace Go.Proofs.YteocbhgdmpdklaaDoor.VT
open Go Go.V Go.RowKit

abbrev uL25n133 {a0 a1 a2 a3 a4 a5 a6 a7 a8 a9 a10 a11 a12 a13 a14 a15 a16 a17 a18 a19 a20 a21 a22 a23 a24 a25 a26 a27 a28 a29 a30 a31 a32 a33 a34 a35 a36 a37 a38 a39 a40 a41 a42 a43 a44 a45 a46 a47 a48 a49 a50 a51 a52 a53 a54 a55 a56 a57 a58 a59 a60 a61 a62 a63 a64 a65 a66 a67 a68 a69 a70 a71 a72 a73 a74 a75 a76 a77 a78 a79 a80 a81 a82 a83 a84 a85 a86 a87 a88 a89 a90 a91 a92 a93 a94 a95 a96 a97 a98 a99 a100 a101 a102 a103 a104 a105 a106 a107 a108 a109 a110 a111 a112 a113 a114 a115 a116 a117 a118 a119 a120 a121 a122 a123 a124 a125 a126 a127 a128 a129 a130 a131 a132 : VVal} : VEnv := a0 :: a1 :: a2 :: a3 :: a4 :: a5 :: a6 :: a7 :: a8 :: a9 :: a10 :: a11 :: a12 :: a13 :: a14 :: a15 :: a16 :: a17 :: a18 :: a19 :: a20 :: a21 :: a22 :: a23 :: a24 :: a25 :: a26 :: a27 :: a28 :: a29 :: a30 :: a31 :: a32 :: a33 :: a34 :: a35 :: a36 :: a37 :: a38 :: a39 :: a40 :: a41 :: a42 :: a43 :: a44 :: a45 :: a46 :: a47 :: a48 :: a49 :: a50 :: a51 :: a52 :: a53 :: a54 :: a55 :: a56 :: a57 :: a58 :: a59 :: a60 :: a61 :: a62 :: a63 :: a64 :: a65 :: a66 :: a67 :: a68 :: a69 :: a70 :: a71 :: a72 :: a73 :: a74 :: a75 :: a76 :: a77 :: a78 :: a79 :: a80 :: a81 :: a82 :: a83 :: a84 :: a85 :: a86 :: a87 :: a88 :: a89 :: a90 :: a91 :: a92 :: a93 :: a94 :: a95 :: a96 :: a97 :: a98 :: a99 :: a100 :: a101 :: a102 :: a103 :: a104 :: a105 :: a106 :: a107 :: a108 :: a109 :: a110 :: a111 :: a112 :: a113 :: a114 :: a115 :: a116 :: a117 :: a118 :: a119 :: a120 :: a121 :: a122 :: a123 :: a124 :: a125 :: a126 :: a127 :: a128 :: a129 :: a130 :: a131 :: a132 :: []

theorem B_ghLV {S : V.Sys} {H0 H X : VHeap} {rd : Option Nat} {c : Code} {env env' : VEnv} {Q : V.Post} {es : Nat} {v : VVal} {cs : List VVal} {len : Nat} (i : Nat) (l : LV H.length es X v cs len) (hv : env[i]? = some v) (he : env.set i (.fsl cs len es false) = env')
    (h : ∀ X', X'.length = X.length → (∀ j, vidx v ≠ some (H.length + j) → X'[j]? = X[j]?) → B S H0 rd c env' (H ++ X') Q) : B S H0 rd c env (H ++ X) Q := by
  obtain ⟨X', g, h1, h2⟩ := Gh.freezeLV i l hv he
  exact B_gh g (h X' h1 h2)
theorem Drop_at {x : SW} (H L : VHeap) {i : Nat} {J : List (BitVec 64)} (hL : L[i]? = some (rkB J)) (hJ : J.length = 64) (a : Int) : F (psys x) 35 [.ptr (some (H.length + i, 0)), iI a] (H ++ L) fun v G => v = iI (drN J a) ∧ G = H ++ L.set i (rkB (drJ J a)) := by
  have := Drop_spec (x := x) (H ++ L) (H.length + i) J (get_app rfl hL) hJ a
  rw [set_app rfl] at this; exact this
theorem ov_no {J : List (BitVec 64)} {s j : Int} (h : ¬ ovE J s j = 0) : ovJ J s j = J := if_neg h
theorem ov_zero {J : List (BitVec 64)} {s j : Int} (h : ovE J s j = 0) : ((0 ≤ s ∧ s < 64) ∧ 0 ≤ j ∧ j < 64) ∧ hasB J s j = false := by
  by_cases h1 : (0 ≤ s ∧ s < 64) ∧ 0 ≤ j ∧ j < 64
  · refine ⟨h1, ?_⟩
    cases h2 : hasB J s j with
    | false => rfl
    | true => rw [(ov5 h1 h2).1] at h; exact absurd h (by decide)
  · rw [(ov1 h1).1] at h; exact absurd h (by decide)
theorem hasB_in {J : List (BitVec 64)} {s j : Int} (h : (0 ≤ s ∧ s < 64) ∧ 0 ≤ j ∧ j < 64) : hasB J s j = lk J s.toNat j.toNat := by
  unfold hasB; rw [decide_eq_true h.1, decide_eq_true h.2, Bool.true_and, Bool.true_and]
/-- a link laid and cut again -/
structure Laid (J : List (BitVec 64)) (s j : Int) : Prop where
  a : ovJ J s j = lay J s.toNat j.toNat
  b : hasB (lay J s.toNat j.toNat) s j = true
  c : (lkL (lay J s.toNat j.toNat)).length = (lkL J).length + 1
  d : ovE (lay J s.toNat j.toNat) s j = 5 ∧ ovJ (lay J s.toNat j.toNat) s j = lay J s.toNat j.toNat
  e : ctE (lay J s.toNat j.toNat) s j = 0 ∧ ctJ (lay J s.toNat j.toNat) s j = J
  f : ctE J s j = 26 ∧ ctJ J s j = J
  l : (lay J s.toNat j.toNat).length = 64
theorem laid_of {J : List (BitVec 64)} (r : Rk J) {s j : Int} (h : ovE J s j = 0) : Laid J s j := by
  obtain ⟨h1, h2⟩ := ov_zero h
  have hs : s.toNat < J.length := by rw [r.len]; omega
  have hj : j.toNat < 64 := by omega
  have h3 : lk J s.toNat j.toNat = false := by rw [← hasB_in h1]; exact h2
  have hb : hasB (lay J s.toNat j.toNat) s j = true := by rw [hasB_in h1, lk_lay hs hj]; simp
  refine ⟨by unfold ovJ; rw [if_pos h], hb, ?_, ov5 h1 hb, ⟨(ct0 h1 hb).1, by rw [(ct0 h1 hb).2]; exact lay_unl hs h3⟩, ct26 h1 h2, by unfold lay; rw [List.length_set]; exact r.len⟩
  have := lkTo_lay hs hj h3 (n := 64)
  rw [if_pos (by omega)] at this; exact this
def isA (a : Int) (p : Int × Int) : Bool := decide (p.1 = a) || decide (p.2 = a)
theorem isA1 {a : Int} {p : Int × Int} (h : p.1 = a) : isA a p = true := by simp [isA, h]
theorem isA2 {a : Int} {p : Int × Int} (h : p.2 = a) : isA a p = true := by simp [isA, h]
theorem isA0 {a : Int} {p : Int × Int} (h : ¬ p.1 = a) (h2 : ¬ p.2 = a) : isA a p = false := by simp [isA, h, h2]
theorem goA {l : List (Int × Int)} {i : Nat} (hi : i < l.length) : l.take (i + 1) = l.take i ++ [l.getD (i : Int).toNat (0, 0)] := by
  rw [List.take_succ_eq_append_getElem hi, Int.toNat_natCast, List.getD_eq_getElem?_getD, List.getElem?_eq_getElem hi]; rfl
theorem goA_yes {l : List (Int × Int)} {a : Int} {i : Nat} (hi : i < l.length) (h : isA a (l.getD (i : Int).toNat (0, 0)) = true) : (((l.take i).countP (isA a) : Nat) : Int) + 1 = (((l.take (i + 1)).countP (isA a) : Nat) : Int) ∧ (l.take (i + 1)).filter (fun p => !isA a p) = (l.take i).filter (fun p => !isA a p) := by
  rw [goA hi, List.countP_append, List.filter_append, List.countP_singleton]
  generalize l.getD (i : Int).toNat (0, 0) = q at h ⊢
  simp [h]
theorem goA_no {l : List (Int × Int)} {a : Int} {i : Nat} (hi : i < l.length) (h : isA a (l.getD (i : Int).toNat (0, 0)) = false) : (l.take i).countP (isA a) = (l.take (i + 1)).countP (isA a) ∧ (l.take (i + 1)).filter (fun p => !isA a p) = (l.take i).filter (fun p => !isA a p) ++ [l.getD (i : Int).toNat (0, 0)] := by
  rw [goA hi, List.countP_append, List.filter_append, List.countP_singleton]
  generalize l.getD (i : Int).toNat (0, 0) = q at h ⊢
  simp [h]
theorem drop_is {J : List (BitVec 64)} (r : Rk J) (a : Int) : drN J a = ((lkL J).countP (isA a) : Nat) ∧ lkL (drJ J a) = (lkL J).filter fun p => !isA a p := by
  by_cases h : 0 ≤ a ∧ a < 64
  · have e : ((a.toNat : Nat) : Int) = a := by omega
    have he : isA a = isP a.toNat := by funext p; unfold isA isP; rw [e]
    have h1 : drC J a 64 = come 64 (J.getD a.toNat 0) + cntO J a.toNat 64 := by
      have := drC_cnt (J := J) (a := a.toNat) r.len (by omega) (Nat.le_refl 64); rw [e] at this; exact this
    have h2 : ∀ x y, lk (drL J a 64) x y = (lk J x y && decide (x ≠ a.toNat) && decide (y ≠ a.toNat)) := fun x y => by
      have := lk_drL (J := J) (a := a.toNat) r.len (by omega) (Nat.le_refl 64) x y
      rw [e] at this
      rw [this]
      cases hl : lk J x y with
      | false => rfl
      | true =>
        have := lk_lt' hl
        rw [r.len] at this
        rw [decide_eq_true this]; simp
    constructor
    · unfold drN; rw [if_pos h, h1, he]
      have := lkTo_count (J := J) (a := a.toNat) (by omega) (n := 64)
      rw [if_pos (by omega)] at this
      rw [show (lkL J).countP (isP a.toNat) = _ from this]; omega
    · unfold drJ; rw [if_pos h, he]
      exact lkTo_filter h2
  · have hn : ∀ p, p ∈ lkL J → isA a p = false := fun p hp => by
      have := r.lnk_lt hp
      exact isA0 (by omega) (by omega)
    constructor
    · unfold drN; rw [if_neg h, List.countP_eq_zero.2 fun p hp => by rw [hn p hp]; decide]; rfl
    · unfold drJ; rw [if_neg h]
      exact (List.filter_eq_self.2 fun p hp => by rw [hn p hp]; rfl).symm

theorem RankGoes_walk {x : SW} (H : VHeap) (ops : List OpT) (hl : ops.length * 40 ≤ 140737488355328) (a b : Int) : F (psys x) 8 [fzO ops, iI a, iI b] H fun v G => v = .bool true ∧ G = H := by
  refine F_body Tryd.func8 rfl uL25n133 rfl ?_
  refine B_seq ?_
  refine B_region ?_
  refine L_op (env' := uL25n133) rfl rfl (v_const (VVal.bool false) (.inr rfl) rfl) rfl ?_
  refine L_nil ?_
  refine K_seq ?_
  refine B_seq ?_
  refine B_region ?_
  refine L_call rfl rfl rfl (by exact rkNew_loc _ _) ?_
  rintro _ _ ⟨rfl, rfl⟩
  refine L_env (env' := uL25n133) rfl ?_
  refine L_op (env' := uL25n133) rfl rfl (v_move (.inr rfl) rfl) rfl ?_
  refine L_nil ?_
  refine K_seq ?_
  refine B_seq ?_
  refine B_seq ?_
  refine B_region ?_
  refine L_op (env' := uL25n133) rfl rfl (v_move (.inl rfl) rfl) rfl ?_
  refine L_op (env' := uL25n133) rfl rfl (rfl) rfl ?_
  refine L_op (env' := uL25n133) rfl rfl (v_move (.inl rfl) rfl) rfl ?_
  refine L_call rfl rfl rfl (by exact rkWakes_spec _) ?_
  rintro _ _ ⟨rfl, rfl⟩
  refine L_env (env' := uL25n133) rfl ?_
  refine L_op (env' := uL25n133) rfl rfl (rfl) rfl ?_
  refine L_op (env' := uL25n133) rfl rfl (v_pickF rfl rfl rfl) rfl ?_
  refine L_nil ?_
  refine K_seq ?_
  refine B_false rfl rfl ?_
  refine B_skip ?_
  refine K_seq ?_
  refine B_seq ?_
  refine B_seq ?_
  refine B_region ?_
  refine L_op (env' := uL25n133) rfl rfl (v_const (VVal.int .i64 0) (.inr rfl) rfl) rfl ?_
  refine L_nil ?_
  refine K_seq ?_
  refine B_block ?_
  refine B_clear (false :: false :: false :: true :: true :: true :: true :: false :: false :: true :: true :: true :: true :: true :: true :: true :: true :: true :: true :: true :: true :: true :: true :: true :: true :: true :: true :: true :: true :: true :: true :: true :: true :: true :: true :: true :: true :: true :: true :: true :: true :: true :: true :: true :: true :: true :: true :: true :: true :: true :: true :: true :: true :: true :: true :: true :: true :: true :: true :: true :: true :: true :: true :: true :: true :: true :: true :: true :: true :: true :: true :: true :: true :: true :: true :: true :: true :: true :: true :: true :: true :: true :: true :: true :: true :: true :: true :: true :: true :: true :: true :: true :: true :: true :: true :: true :: true :: true :: true :: true :: true :: true :: true :: true :: true :: true :: true :: true :: true :: true :: true :: true :: true :: true :: true :: true :: true :: true :: true :: true :: true :: true :: true :: true :: true :: true :: true :: true :: true :: true :: true :: true :: true :: []) (env' := uL25n133) rfl ?_
  refine B_loopE (fun (⟨J, k⟩ : List (BitVec 64) × Nat) => 120 - k) (fun (⟨J, k⟩ : List (BitVec 64) × Nat) => [(8, iI (k : Nat))]) (fun (⟨J, k⟩ : List (BitVec 64) × Nat) G => (Rk J ∧ k ≤ 120) ∧ G = H ++ [rkB J]) ⟨rk0, 0⟩ rfl ?_ ?_
  · refine ⟨?_, rfl⟩
    exact ⟨Rk.zero, Nat.zero_le _⟩
  rintro ⟨J, k⟩ _ ⟨⟨hR, hk⟩, rfl⟩
  refine B_env (env' := uL25n133) rfl ?_
  have hll : (lkL J).length ≤ 4096 := @lkTo_len J 64
  refine B_seq ?_
  refine B_seq ?_
  refine B_region ?_
  refine L_op (env' := uL25n133) rfl rfl (v_move (.inl rfl) rfl) rfl ?_
  refine L_op (env' := uL25n133) rfl rfl (v_move (.inl rfl) rfl) rfl ?_
  refine L_op (env' := uL25n133) rfl rfl (rfl) rfl ?_
  refine L_op (env' := uL25n133) rfl rfl (rfl) rfl ?_
  refine L_op (env' := uL25n133) rfl rfl (v_move (.inl rfl) rfl) rfl ?_
  refine L_split 25 (env1 := uL25n133) (env2 := uL25n133) rfl rfl rfl (fun hg1 => ?_) (fun hg1 => ?_)
  · try simp only [decide_eq_true_eq, decide_eq_false_iff_not, Bool.not_eq_true', Bool.not_eq_false', bne_iff_ne, beq_iff_eq, Bool.and_eq_true, Bool.or_eq_true, Bool.not_eq_true, ge_iff_le, gt_iff_lt, Int.not_le, Int.not_lt, beq_eq_false_iff_ne, bne_eq_false_iff_eq, ne_eq, Decidable.not_not, wd_zero, wd_one, wd_inj] at hg1
    refine L_op (env' := uL25n133) rfl rfl (v_move (.inl rfl) rfl) rfl ?_
    refine L_op (env' := uL25n133) rfl rfl (rfl) rfl ?_
    refine L_op (env' := uL25n133) rfl rfl (v_pickT rfl rfl rfl) rfl ?_
    refine L_nil ?_
    refine K_seq ?_
    refine B_cond _ rfl (fun hc2 => ?_) (fun hc2 => ?_)
    · try simp only [decide_eq_true_eq, decide_eq_false_iff_not, Bool.not_eq_true', Bool.not_eq_false', bne_iff_ne, beq_iff_eq, Bool.and_eq_true, Bool.or_eq_true, Bool.not_eq_true, ge_iff_le, gt_iff_lt, Int.not_le, Int.not_lt, beq_eq_false_iff_ne, bne_eq_false_iff_eq, ne_eq, Decidable.not_not, wd_zero, wd_one, wd_inj] at hc2
      refine B_skip ?_
      refine K_seq ?_
      refine B_seq ?_
      refine B_block ?_
      refine B_draw [0, 1, 2, 3, 4, 5, 6, 7, 8, 9, 10, 11] #[0, 0, 0, 6, 14, 30, 0, 0, 192, 448, 960, 2047] (by kernel_rfl) (by kernel_rfl) (by kernel_rfl) ?_
      refine O_op (env' := uL25n133) (c := .calm) rfl rfl rfl (v_move (.inl rfl) rfl) rfl rfl rfl ?_
      refine O_op (env' := uL25n133) (c := .calm) rfl rfl rfl (v_move (.inl rfl) rfl) rfl rfl rfl ?_
      refine O_op (env' := uL25n133) (c := .calm) rfl rfl rfl (v_move (.inl rfl) rfl) rfl rfl rfl ?_
      refine O_op (env' := uL25n133) (c := .calm) rfl rfl rfl (by first | exact v_idxF rfl rfl rfl rfl rfl rfl rfl (by first | assumption | omega | (simp [*]; done) | (simp at *; omega)) | exact v_idx rfl rfl rfl rfl rfl rfl rfl (by first | assumption | omega | (simp [*]; done) | (simp at *; omega))) rfl rfl rfl ?_
      refine O_op (env' := uL25n133) (c := .calm) rfl rfl rfl (rfl) rfl rfl rfl ?_
      refine O_op (env' := uL25n133) (c := .look) rfl rfl rfl (by first | exact v_loadF rfl rfl rfl rfl (by first | exact op_c0 (by omega) | exact op_c1 (by omega) | exact op_c2 (by omega) | exact op_c3 (by omega) | exact op_c4 (by omega) | exact pair_c0 (by omega) | exact pair_c1 (by omega) | rfl) | exact v_load rfl rfl rfl rfl (by first | exact get_app rfl rfl | exact get_out (by assumption) | assumption | (simp [*]; done)) (by first | exact op_c0 (by omega) | exact op_c1 (by omega) | exact op_c2 (by omega) | exact op_c3 (by omega) | exact op_c4 (by omega) | exact pair_c0 (by omega) | exact pair_c1 (by omega) | rfl)) rfl rfl rfl ?_
      refine O_op (env' := uL25n133) (c := .calm) rfl rfl rfl (v_move (.inl rfl) rfl) rfl rfl rfl ?_
      refine O_op (env' := uL25n133) (c := .calm) rfl rfl rfl (v_move (.inl rfl) rfl) rfl rfl rfl ?_
      refine O_op (env' := uL25n133) (c := .calm) rfl rfl rfl (by first | exact v_idxF rfl rfl rfl rfl rfl rfl rfl (by first | assumption | omega | (simp [*]; done) | (simp at *; omega)) | exact v_idx rfl rfl rfl rfl rfl rfl rfl (by first | assumption | omega | (simp [*]; done) | (simp at *; omega))) rfl rfl rfl ?_
      refine O_op (env' := uL25n133) (c := .calm) rfl rfl rfl (rfl) rfl rfl rfl ?_
      refine O_op (env' := uL25n133) (c := .look) rfl rfl rfl (by first | exact v_loadF rfl rfl rfl rfl (by first | exact op_c0 (by omega) | exact op_c1 (by omega) | exact op_c2 (by omega) | exact op_c3 (by omega) | exact op_c4 (by omega) | exact pair_c0 (by omega) | exact pair_c1 (by omega) | rfl) | exact v_load rfl rfl rfl rfl (by first | exact get_app rfl rfl | exact get_out (by assumption) | assumption | (simp [*]; done)) (by first | exact op_c0 (by omega) | exact op_c1 (by omega) | exact op_c2 (by omega) | exact op_c3 (by omega) | exact op_c4 (by omega) | exact pair_c0 (by omega) | exact pair_c1 (by omega) | rfl)) rfl rfl rfl ?_
      refine O_call (env' := uL25n133) rfl rfl rfl rfl rfl (by exact Over_loc _ _ rfl hR.len _ _) (by first | exact Nat.le_refl _ | simp) rfl rfl ?_
      refine O_nil [] (by kernel_rfl) (trivial) ?_
      refine K_blk ?_
      refine K_seq ?_
      refine B_region ?_
      refine L_op (env' := uL25n133) rfl rfl (v_move (.inl rfl) rfl) rfl ?_
      refine L_op (env' := uL25n133) rfl rfl (v_addI rfl rfl rfl (by first | assumption | omega | (simp [*]; done) | (simp at *; omega))) rfl ?_
      refine L_op (env' := uL25n133) rfl rfl (v_move (.inr rfl) rfl) rfl ?_
      refine L_nil ?_
      refine K_loop (false :: false :: false :: true :: true :: true :: true :: false :: false :: true :: true :: true :: true :: true :: true :: true :: true :: true :: true :: true :: true :: true :: true :: true :: true :: true :: true :: true :: true :: true :: true :: true :: true :: true :: true :: true :: true :: true :: true :: true :: true :: true :: true :: true :: true :: true :: true :: true :: true :: true :: true :: true :: true :: true :: true :: true :: true :: true :: true :: true :: true :: true :: true :: true :: true :: true :: true :: true :: true :: true :: true :: true :: true :: true :: true :: true :: true :: true :: true :: true :: true :: true :: true :: true :: true :: true :: true :: true :: true :: true :: true :: true :: true :: true :: true :: true :: true :: true :: true :: true :: true :: true :: true :: true :: true :: true :: true :: true :: true :: true :: true :: true :: true :: true :: true :: true :: true :: true :: true :: true :: true :: true :: true :: true :: true :: true :: true :: true :: true :: true :: true :: true :: true :: []) (env' := uL25n133) rfl ⟨⟨ovJ J (ops.getD k dOp).2.2.1 (ops.getD k dOp).2.2.2.1, k + 1⟩, ?_, rfl, ?_⟩
      · first | omega | (simp only []; omega)
      · exact ⟨⟨hR.ovJ, by omega⟩, rfl⟩
    · try simp only [decide_eq_true_eq, decide_eq_false_iff_not, Bool.not_eq_true', Bool.not_eq_false', bne_iff_ne, beq_iff_eq, Bool.and_eq_true, Bool.or_eq_true, Bool.not_eq_true, ge_iff_le, gt_iff_lt, Int.not_le, Int.not_lt, beq_eq_false_iff_ne, bne_eq_false_iff_eq, ne_eq, Decidable.not_not, wd_zero, wd_one, wd_inj] at hc2
      refine B_exit ?_
      refine K_seqX ?_
      refine K_loopX ?_
      refine K_blkX ?_
      refine K_seq ?_
      refine B_seq ?_
      refine B_region ?_
      refine L_op (env' := uL25n133) rfl rfl (v_move (.inl rfl) rfl) rfl ?_
      refine L_call rfl rfl rfl (by exact Links_spec _ _ J (get_app rfl rfl) hR.len) ?_
      rintro _ _ ⟨rfl, rfl⟩
      refine L_env (env' := uL25n133) rfl ?_
      refine L_op (env' := uL25n133) rfl rfl (v_move (.inr rfl) rfl) rfl ?_
      refine L_nil ?_
      refine K_seq ?_
      refine B_seq ?_
      refine B_region ?_
      refine L_op (env' := uL25n133) rfl rfl (v_move (.inl rfl) rfl) rfl ?_
      refine L_op (env' := uL25n133) rfl rfl (v_move (.inl rfl) rfl) rfl ?_
      refine L_op (env' := uL25n133) rfl rfl (v_move (.inl rfl) rfl) rfl ?_
      refine L_call rfl rfl rfl (by exact Over_loc _ _ rfl hR.len _ _) ?_
      rintro _ _ ⟨rfl, rfl⟩
      refine L_env (env' := uL25n133) rfl ?_
      refine L_op (env' := uL25n133) rfl rfl (v_move (.inr rfl) rfl) rfl ?_
      refine L_nil ?_
      refine K_seq ?_
      refine B_seq ?_
      refine B_seq ?_
      refine B_region ?_
      refine L_op (env' := uL25n133) rfl rfl (v_move (.inl rfl) rfl) rfl ?_
      refine L_op (env' := uL25n133) rfl rfl (rfl) rfl ?_
      refine L_nil ?_
      refine K_seq ?_
      refine B_cond _ rfl (fun hc3 => ?_) (fun hc3 => ?_)
      · try simp only [decide_eq_true_eq, decide_eq_false_iff_not, Bool.not_eq_true', Bool.not_eq_false', bne_iff_ne, beq_iff_eq, Bool.and_eq_true, Bool.or_eq_true, Bool.not_eq_true, ge_iff_le, gt_iff_lt, Int.not_le, Int.not_lt, beq_eq_false_iff_ne, bne_eq_false_iff_eq, ne_eq, Decidable.not_not, wd_zero, wd_one, wd_inj] at hc3
        refine B_seq ?_
        refine B_region ?_
        have hld := laid_of hR (by assumption)
        refine L_heap (H' := H ++ [rkB (lay J a.toNat b.toNat)]) (by rw [hld.a]; rfl) ?_
        refine L_op (env' := uL25n133) rfl rfl (v_move (.inl rfl) rfl) rfl ?_
        refine L_op (env' := uL25n133) rfl rfl (v_move (.inl rfl) rfl) rfl ?_
        refine L_op (env' := uL25n133) rfl rfl (v_move (.inl rfl) rfl) rfl ?_
        refine L_call rfl rfl rfl (by exact rkHas_spec _ _ (lay J a.toNat b.toNat) (get_app rfl rfl) hld.l _ _) ?_
        rintro _ _ ⟨rfl, rfl⟩
        refine L_env (env' := uL25n133) rfl ?_
        refine L_op (env' := uL25n133) rfl rfl (v_is false rfl (by rw [hld.b]; rfl)) rfl ?_
        refine L_op (env' := uL25n133) rfl rfl (v_move (.inl rfl) rfl) rfl ?_
        refine L_op (env' := uL25n133) rfl rfl (v_move (.inl rfl) rfl) rfl ?_
        refine L_call rfl rfl rfl (by exact Links_spec _ _ (lay J a.toNat b.toNat) (get_app rfl rfl) hld.l) ?_
        rintro _ _ ⟨rfl, rfl⟩
        refine L_env (env' := uL25n133) rfl ?_
        refine L_op (env' := uL25n133) rfl rfl (rfl) rfl ?_
        refine L_op (env' := uL25n133) rfl rfl (v_move (.inl rfl) rfl) rfl ?_
        refine L_op (env' := uL25n133) rfl rfl (rfl) rfl ?_
        refine L_op (env' := uL25n133) rfl rfl (v_addI rfl rfl rfl (by omega)) rfl ?_
        refine L_op (env' := uL25n133) rfl rfl (v_is false rfl (by rw [hld.c]; simp)) rfl ?_
        refine L_op (env' := uL25n133) rfl rfl (v_pickF rfl rfl rfl) rfl ?_
        refine L_op (env' := uL25n133) rfl rfl (v_move (.inl rfl) rfl) rfl ?_
        refine L_op (env' := uL25n133) rfl rfl (v_move (.inl rfl) rfl) rfl ?_
        refine L_op (env' := uL25n133) rfl rfl (v_move (.inl rfl) rfl) rfl ?_
        refine L_op (env' := uL25n133) rfl rfl (v_move (.inl rfl) rfl) rfl ?_
        refine L_call rfl rfl rfl (by exact Over_loc (J := lay J a.toNat b.toNat) _ _ rfl hld.l _ _) ?_
        rintro v G ⟨hv, hG⟩; rw [hld.d.1] at hv; rw [hld.d.2] at hG; subst hv; subst hG
        refine L_env (env' := uL25n133) rfl ?_
        refine L_op (env' := uL25n133) rfl rfl (rfl) rfl ?_
        refine L_op (env' := uL25n133) rfl rfl (v_pickF rfl rfl rfl) rfl ?_
        refine L_op (env' := uL25n133) rfl rfl (v_move (.inl rfl) rfl) rfl ?_
        refine L_op (env' := uL25n133) rfl rfl (v_move (.inl rfl) rfl) rfl ?_
        refine L_op (env' := uL25n133) rfl rfl (v_move (.inl rfl) rfl) rfl ?_
        refine L_op (env' := uL25n133) rfl rfl (v_move (.inl rfl) rfl) rfl ?_
        refine L_call rfl rfl rfl (by exact Cut_loc (J := lay J a.toNat b.toNat) _ _ rfl hld.l _ _) ?_
        rintro v G ⟨hv, hG⟩; rw [hld.e.1] at hv; rw [hld.e.2] at hG; subst hv; subst hG
        refine L_env (env' := uL25n133) rfl ?_
        refine L_op (env' := uL25n133) rfl rfl (rfl) rfl ?_
        refine L_op (env' := uL25n133) rfl rfl (v_pickF rfl rfl rfl) rfl ?_
        refine L_op (env' := uL25n133) rfl rfl (v_move (.inl rfl) rfl) rfl ?_
        refine L_op (env' := uL25n133) rfl rfl (v_move (.inl rfl) rfl) rfl ?_
        refine L_op (env' := uL25n133) rfl rfl (v_move (.inl rfl) rfl) rfl ?_
        refine L_op (env' := uL25n133) rfl rfl (v_move (.inl rfl) rfl) rfl ?_
        refine L_call rfl rfl rfl (by exact Cut_loc (J := J) _ _ rfl hR.len _ _) ?_
        rintro v G ⟨hv, hG⟩; rw [hld.f.1] at hv; rw [hld.f.2] at hG; subst hv; subst hG
        refine L_env (env' := uL25n133) rfl ?_
        refine L_op (env' := uL25n133) rfl rfl (rfl) rfl ?_
        refine L_op (env' := uL25n133) rfl rfl (v_pickF rfl rfl rfl) rfl ?_
        refine L_nil ?_
        refine K_seq ?_
        refine B_false rfl rfl ?_
        refine B_skip ?_
        refine K_seq ?_
        refine B_seq ?_
        refine B_seq ?_
        try rw [show ovJ J a b = J from ov_no (by assumption)]
        refine B_region ?_
        refine L_op (env' := uL25n133) rfl rfl (v_move (.inl rfl) rfl) rfl ?_
        refine L_call rfl rfl rfl (by exact Links_spec _ _ J (get_app rfl rfl) hR.len) ?_
        rintro _ _ ⟨rfl, rfl⟩
        refine L_env (env' := uL25n133) rfl ?_
        refine L_op (env' := uL25n133) rfl rfl (v_move (.inl rfl) rfl) rfl ?_
        refine L_call rfl rfl rfl (by exact Pairs_spec _ _ _ (by omega)) ?_
        rintro _ _ ⟨rfl, rfl⟩
        refine L_env (env' := uL25n133) rfl ?_
        refine L_op (env' := uL25n133) rfl rfl (v_is false rfl (by simp)) rfl ?_
        refine L_nil ?_
        refine K_seq ?_
        refine B_false rfl rfl ?_
        refine B_skip ?_
        refine K_seq ?_
        refine B_seq ?_
        refine B_region ?_
        refine L_op (env' := uL25n133) rfl rfl (v_const (VVal.int .i64 0) (.inr rfl) rfl) rfl ?_
        refine L_nil ?_
        refine K_seq ?_
        refine B_seq ?_
        refine B_region ?_
        refine L_op (env' := uL25n133) rfl rfl (v_const (VVal.slice none 0 0 true 0) (.inr rfl) rfl) rfl ?_
        refine L_nil ?_
        refine K_seq ?_
        refine B_seq ?_
        refine B_seq ?_
        refine B_region ?_
        refine L_op (env' := uL25n133) rfl rfl (v_const (VVal.int .i64 0) (.inr rfl) rfl) rfl ?_
        refine L_nil ?_
        refine K_seq ?_
        refine B_block ?_
        refine B_clear (true :: false :: true :: true :: true :: true :: true :: false :: true :: false :: true :: false :: false :: false :: true :: true :: true :: true :: true :: true :: true :: true :: true :: true :: true :: true :: true :: true :: true :: true :: true :: true :: true :: true :: true :: true :: true :: true :: true :: true :: true :: true :: true :: true :: true :: true :: true :: true :: true :: true :: true :: true :: true :: true :: true :: true :: true :: true :: true :: true :: true :: true :: true :: true :: true :: true :: true :: true :: true :: true :: true :: true :: true :: true :: true :: true :: true :: true :: true :: true :: true :: true :: true :: true :: true :: true :: true :: true :: true :: true :: true :: true :: true :: true :: true :: true :: true :: true :: true :: true :: true :: true :: true :: true :: true :: true :: true :: true :: true :: true :: true :: true :: true :: true :: true :: true :: true :: true :: true :: true :: true :: true :: true :: true :: true :: true :: true :: true :: true :: true :: true :: true :: true :: []) (env' := uL25n133) rfl ?_
        refine B_loopE (fun (⟨i, lv⟩ : Nat × VVal) => (lkL J).length - i) (fun (⟨i, lv⟩ : Nat × VVal) => [(11, iI ((((lkL J).take i).countP (isA a) : Nat) : Int)), (12, lv), (13, iI (i : Nat))]) (fun (⟨i, lv⟩ : Nat × VVal) G => (i ≤ (lkL J).length) ∧ ∃ X, G = H ++ X ∧ X[0]? = some (rkB J) ∧ LV H.length 2 X lv ((((lkL J).take i).filter (fun p => !isA a p)).flatMap enP) (((lkL J).take i).filter (fun p => !isA a p)).length ∧ vidx lv ≠ some (H.length + 0)) ⟨0, _⟩ rfl ?_ ?_
        · refine ⟨?_, ⟨_, rfl, rfl, LV.nil _ _ _, by simp [vidx]⟩⟩
          exact Nat.zero_le _
        rintro ⟨i, lv⟩ _ ⟨hi, ⟨X, rfl, hX0, hl, hn0⟩⟩
        refine B_env (env' := uL25n133) rfl ?_
        refine B_seq ?_
        refine B_seq ?_
        refine B_region ?_
        refine L_op (env' := uL25n133) rfl rfl (v_move (.inl rfl) rfl) rfl ?_
        refine L_op (env' := uL25n133) rfl rfl (v_move (.inl rfl) rfl) rfl ?_
        refine L_op (env' := uL25n133) rfl rfl (rfl) rfl ?_
        refine L_op (env' := uL25n133) rfl rfl (rfl) rfl ?_
        refine L_nil ?_
        refine K_seq ?_
        refine B_cond _ rfl (fun hc4 => ?_) (fun hc4 => ?_)
        · try simp only [decide_eq_true_eq, decide_eq_false_iff_not, Bool.not_eq_true', Bool.not_eq_false', bne_iff_ne, beq_iff_eq, Bool.and_eq_true, Bool.or_eq_true, Bool.not_eq_true, ge_iff_le, gt_iff_lt, Int.not_le, Int.not_lt, beq_eq_false_iff_ne, bne_eq_false_iff_eq, ne_eq, Decidable.not_not, wd_zero, wd_one, wd_inj] at hc4
          refine B_skip ?_
          refine K_seq ?_
          refine B_seq ?_
          refine B_block ?_
          refine B_seq ?_
          refine B_region ?_
          refine L_op (env' := uL25n133) rfl rfl (v_move (.inl rfl) rfl) rfl ?_
          refine L_op (env' := uL25n133) rfl rfl (v_move (.inl rfl) rfl) rfl ?_
          refine L_op (env' := uL25n133) rfl rfl (by first | exact v_idxF rfl rfl rfl rfl rfl rfl rfl (by first | assumption | omega | (simp [*]; done) | (simp at *; omega)) | exact v_idx rfl rfl rfl rfl rfl rfl rfl (by first | assumption | omega | (simp [*]; done) | (simp at *; omega))) rfl ?_
          refine L_op (env' := uL25n133) rfl rfl (by first | exact v_idxFA rfl rfl rfl rfl rfl rfl (by first | assumption | omega | (simp [*]; done) | (simp at *; omega)) | exact v_idxA rfl rfl rfl rfl rfl rfl (by first | assumption | omega | (simp [*]; done) | (simp at *; omega))) rfl ?_
          refine L_op (env' := uL25n133) rfl rfl (by first | exact v_loadF rfl rfl rfl rfl (by first | exact op_c0 (by omega) | exact op_c1 (by omega) | exact op_c2 (by omega) | exact op_c3 (by omega) | exact op_c4 (by omega) | exact pair_c0 (by omega) | exact pair_c1 (by omega) | rfl) | exact v_load rfl rfl rfl rfl (by first | exact get_app rfl rfl | exact get_out (by assumption) | assumption | (simp [*]; done)) (by first | exact op_c0 (by omega) | exact op_c1 (by omega) | exact op_c2 (by omega) | exact op_c3 (by omega) | exact op_c4 (by omega) | exact pair_c0 (by omega) | exact pair_c1 (by omega) | rfl)) rfl ?_
          refine L_op (env' := uL25n133) rfl rfl (v_move (.inl rfl) rfl) rfl ?_
          refine L_op (env' := uL25n133) rfl rfl (rfl) rfl ?_
          refine L_op (env' := uL25n133) rfl rfl (v_move (.inl rfl) rfl) rfl ?_
          refine L_split 104 (env1 := uL25n133) (env2 := uL25n133) rfl rfl rfl (fun hg5 => ?_) (fun hg5 => ?_)
          · try simp only [decide_eq_true_eq, decide_eq_false_iff_not, Bool.not_eq_true', Bool.not_eq_false', bne_iff_ne, beq_iff_eq, Bool.and_eq_true, Bool.or_eq_true, Bool.not_eq_true, ge_iff_le, gt_iff_lt, Int.not_le, Int.not_lt, beq_eq_false_iff_ne, bne_eq_false_iff_eq, ne_eq, Decidable.not_not, wd_zero, wd_one, wd_inj] at hg5
            refine L_off (env' := uL25n133) rfl rfl ?_
            refine L_off (env' := uL25n133) rfl rfl ?_
            refine L_off (env' := uL25n133) rfl rfl ?_
            refine L_off (env' := uL25n133) rfl rfl ?_
            refine L_off (env' := uL25n133) rfl rfl ?_
            refine L_off (env' := uL25n133) rfl rfl ?_
            refine L_off (env' := uL25n133) rfl rfl ?_
            refine L_op (env' := uL25n133) rfl rfl (v_pickTC (VVal.bool true) rfl rfl rfl) rfl ?_
            refine L_nil ?_
            refine K_seq ?_
            refine B_true rfl rfl ?_
            refine B_region ?_
            refine L_op (env' := uL25n133) rfl rfl (v_move (.inl rfl) rfl) rfl ?_
            refine L_op (env' := uL25n133) rfl rfl (v_addI rfl rfl rfl (by have hq4 : (((lkL J).take i).countP (isA a)) ≤ ((lkL J).take i).length := List.countP_le_length; rw [List.length_take] at hq4; omega)) rfl ?_
            refine L_op (env' := uL25n133) rfl rfl (v_move (.inr rfl) rfl) rfl ?_
            refine L_nil ?_
            refine K_blk ?_
            refine K_seq ?_
            refine B_region ?_
            refine L_op (env' := uL25n133) rfl rfl (v_move (.inl rfl) rfl) rfl ?_
            refine L_op (env' := uL25n133) rfl rfl (v_addI rfl rfl rfl (by first | assumption | omega | (simp [*]; done) | (simp at *; omega))) rfl ?_
            refine L_op (env' := uL25n133) rfl rfl (v_move (.inr rfl) rfl) rfl ?_
            refine L_nil ?_
            first
              | (have hB := goA_yes (a := a) (l := lkL J) (i := i) (by omega) (isA1 (by assumption)); rw [hB.1])
              | (have hB := goA_yes (a := a) (l := lkL J) (i := i) (by omega) (isA2 (by assumption)); rw [hB.1])
              | (have hB := goA_no (a := a) (l := lkL J) (i := i) (by omega) (isA0 (by assumption) (by assumption)); rw [hB.1])
            refine K_loop (true :: false :: true :: true :: true :: true :: true :: false :: true :: false :: true :: false :: false :: false :: true :: true :: true :: true :: true :: true :: true :: true :: true :: true :: true :: true :: true :: true :: true :: true :: true :: true :: true :: true :: true :: true :: true :: true :: true :: true :: true :: true :: true :: true :: true :: true :: true :: true :: true :: true :: true :: true :: true :: true :: true :: true :: true :: true :: true :: true :: true :: true :: true :: true :: true :: true :: true :: true :: true :: true :: true :: true :: true :: true :: true :: true :: true :: true :: true :: true :: true :: true :: true :: true :: true :: true :: true :: true :: true :: true :: true :: true :: true :: true :: true :: true :: true :: true :: true :: true :: true :: true :: true :: true :: true :: true :: true :: true :: true :: true :: true :: true :: true :: true :: true :: true :: true :: true :: true :: true :: true :: true :: true :: true :: true :: true :: true :: true :: true :: true :: true :: true :: true :: []) (env' := uL25n133) rfl ⟨⟨i + 1, _⟩, ?_, rfl, ?_⟩
            · first | omega | (simp only []; omega)
            · first | exact ⟨by omega, _, rfl, hX0, by rw [hB.2]; exact hl, hn0⟩ | exact ⟨by omega, _, rfl, by rw [List.getElem?_append_left (by rw [hY1]; exact lt_of_get hX0), hY2 0 hn0]; exact hX0, by rw [hB.2]; exact LV.pair hY3, by simp [vidx]⟩
          · try simp only [decide_eq_true_eq, decide_eq_false_iff_not, Bool.not_eq_true', Bool.not_eq_false', bne_iff_ne, beq_iff_eq, Bool.and_eq_true, Bool.or_eq_true, Bool.not_eq_true, ge_iff_le, gt_iff_lt, Int.not_le, Int.not_lt, beq_eq_false_iff_ne, bne_eq_false_iff_eq, ne_eq, Decidable.not_not, wd_zero, wd_one, wd_inj] at hg5
            refine L_op (env' := uL25n133) rfl rfl (v_move (.inl rfl) rfl) rfl ?_
            refine L_op (env' := uL25n133) rfl rfl (v_move (.inl rfl) rfl) rfl ?_
            refine L_op (env' := uL25n133) rfl rfl (by first | exact v_idxF rfl rfl rfl rfl rfl rfl rfl (by first | assumption | omega | (simp [*]; done) | (simp at *; omega)) | exact v_idx rfl rfl rfl rfl rfl rfl rfl (by first | assumption | omega | (simp [*]; done) | (simp at *; omega))) rfl ?_
            refine L_op (env' := uL25n133) rfl rfl (by first | exact v_idxFA rfl rfl rfl rfl rfl rfl (by first | assumption | omega | (simp [*]; done) | (simp at *; omega)) | exact v_idxA rfl rfl rfl rfl rfl rfl (by first | assumption | omega | (simp [*]; done) | (simp at *; omega))) rfl ?_
            refine L_op (env' := uL25n133) rfl rfl (by first | exact v_loadF rfl rfl rfl rfl (by first | exact op_c0 (by omega) | exact op_c1 (by omega) | exact op_c2 (by omega) | exact op_c3 (by omega) | exact op_c4 (by omega) | exact pair_c0 (by omega) | exact pair_c1 (by omega) | rfl) | exact v_load rfl rfl rfl rfl (by first | exact get_app rfl rfl | exact get_out (by assumption) | assumption | (simp [*]; done)) (by first | exact op_c0 (by omega) | exact op_c1 (by omega) | exact op_c2 (by omega) | exact op_c3 (by omega) | exact op_c4 (by omega) | exact pair_c0 (by omega) | exact pair_c1 (by omega) | rfl)) rfl ?_
            refine L_op (env' := uL25n133) rfl rfl (v_move (.inl rfl) rfl) rfl ?_
            refine L_op (env' := uL25n133) rfl rfl (rfl) rfl ?_
            refine L_op (env' := uL25n133) rfl rfl (v_pickF rfl rfl rfl) rfl ?_
            refine L_nil ?_
            refine K_seq ?_
            refine B_cond _ rfl (fun hc6 => ?_) (fun hc6 => ?_)
            · try simp only [decide_eq_true_eq, decide_eq_false_iff_not, Bool.not_eq_true', Bool.not_eq_false', bne_iff_ne, beq_iff_eq, Bool.and_eq_true, Bool.or_eq_true, Bool.not_eq_true, ge_iff_le, gt_iff_lt, Int.not_le, Int.not_lt, beq_eq_false_iff_ne, bne_eq_false_iff_eq, ne_eq, Decidable.not_not, wd_zero, wd_one, wd_inj] at hc6
              refine B_region ?_
              refine L_op (env' := uL25n133) rfl rfl (v_move (.inl rfl) rfl) rfl ?_
              refine L_op (env' := uL25n133) rfl rfl (v_addI rfl rfl rfl (by have hq4 : (((lkL J).take i).countP (isA a)) ≤ ((lkL J).take i).length := List.countP_le_length; rw [List.length_take] at hq4; omega)) rfl ?_
              refine L_op (env' := uL25n133) rfl rfl (v_move (.inr rfl) rfl) rfl ?_
              refine L_nil ?_
              refine K_blk ?_
              refine K_seq ?_
              refine B_region ?_
              refine L_op (env' := uL25n133) rfl rfl (v_move (.inl rfl) rfl) rfl ?_
              refine L_op (env' := uL25n133) rfl rfl (v_addI rfl rfl rfl (by first | assumption | omega | (simp [*]; done) | (simp at *; omega))) rfl ?_
              refine L_op (env' := uL25n133) rfl rfl (v_move (.inr rfl) rfl) rfl ?_
              refine L_nil ?_
              first
                | (have hB := goA_yes (a := a) (l := lkL J) (i := i) (by omega) (isA1 (by assumption)); rw [hB.1])
                | (have hB := goA_yes (a := a) (l := lkL J) (i := i) (by omega) (isA2 (by assumption)); rw [hB.1])
                | (have hB := goA_no (a := a) (l := lkL J) (i := i) (by omega) (isA0 (by assumption) (by assumption)); rw [hB.1])
              refine K_loop (true :: false :: true :: true :: true :: true :: true :: false :: true :: false :: true :: false :: false :: false :: true :: true :: true :: true :: true :: true :: true :: true :: true :: true :: true :: true :: true :: true :: true :: true :: true :: true :: true :: true :: true :: true :: true :: true :: true :: true :: true :: true :: true :: true :: true :: true :: true :: true :: true :: true :: true :: true :: true :: true :: true :: true :: true :: true :: true :: true :: true :: true :: true :: true :: true :: true :: true :: true :: true :: true :: true :: true :: true :: true :: true :: true :: true :: true :: true :: true :: true :: true :: true :: true :: true :: true :: true :: true :: true :: true :: true :: true :: true :: true :: true :: true :: true :: true :: true :: true :: true :: true :: true :: true :: true :: true :: true :: true :: true :: true :: true :: true :: true :: true :: true :: true :: true :: true :: true :: true :: true :: true :: true :: true :: true :: true :: true :: true :: true :: true :: true :: true :: true :: []) (env' := uL25n133) rfl ⟨⟨i + 1, _⟩, ?_, rfl, ?_⟩
              · first | omega | (simp only []; omega)
              · first | exact ⟨by omega, _, rfl, hX0, by rw [hB.2]; exact hl, hn0⟩ | exact ⟨by omega, _, rfl, by rw [List.getElem?_append_left (by rw [hY1]; exact lt_of_get hX0), hY2 0 hn0]; exact hX0, by rw [hB.2]; exact LV.pair hY3, by simp [vidx]⟩
            · try simp only [decide_eq_true_eq, decide_eq_false_iff_not, Bool.not_eq_true', Bool.not_eq_false', bne_iff_ne, beq_iff_eq, Bool.and_eq_true, Bool.or_eq_true, Bool.not_eq_true, ge_iff_le, gt_iff_lt, Int.not_le, Int.not_lt, beq_eq_false_iff_ne, bne_eq_false_iff_eq, ne_eq, Decidable.not_not, wd_zero, wd_one, wd_inj] at hc6
              refine B_region ?_
              refine L_op (env' := uL25n133) rfl rfl (v_move (.inl rfl) rfl) rfl ?_
              refine L_op (env' := uL25n133) rfl rfl (v_move (.inl rfl) rfl) rfl ?_
              refine L_op (env' := uL25n133) rfl rfl (v_move (.inl rfl) rfl) rfl ?_
              refine L_op (env' := uL25n133) rfl rfl (by first | exact v_idxF rfl rfl rfl rfl rfl rfl rfl (by first | assumption | omega | (simp [*]; done) | (simp at *; omega)) | exact v_idx rfl rfl rfl rfl rfl rfl rfl (by first | assumption | omega | (simp [*]; done) | (simp at *; omega))) rfl ?_
              refine L_op (env' := uL25n133) rfl rfl (by first | exact v_loadFA rfl rfl rfl rfl (by exact pair_at (by omega)) | exact v_loadA rfl rfl rfl rfl (by first | exact get_app rfl rfl | exact get_out (by assumption) | assumption | (simp [*]; done)) (by exact pair_at (by omega))) rfl ?_
              refine L_op (env' := uL25n133) rfl rfl (v_buildSlice rfl rfl (by decide) rfl) rfl ?_
              refine L_opX rfl rfl (v_appX rfl rfl rfl rfl rfl rfl rfl hl rfl rfl (by decide) (by have hq3 : (((lkL J).take i).filter (fun p => !isA a p)).length ≤ ((lkL J).take i).length := List.length_filter_le _ _; rw [List.length_take] at hq3; show (_ + 1) * 16 ≤ _ ∧ _ + 1 ≤ _; omega) (by decide)) ?_
              rintro _ _ ⟨Y1, rfl, rfl, hY1, hY2, hY3⟩
              refine L_env (env' := uL25n133) rfl ?_
              refine L_op (env' := uL25n133) rfl rfl (v_move (.inr rfl) rfl) rfl ?_
              refine L_nil ?_
              refine K_blk ?_
              refine K_seq ?_
              refine B_region ?_
              refine L_op (env' := uL25n133) rfl rfl (v_move (.inl rfl) rfl) rfl ?_
              refine L_op (env' := uL25n133) rfl rfl (v_addI rfl rfl rfl (by first | assumption | omega | (simp [*]; done) | (simp at *; omega))) rfl ?_
              refine L_op (env' := uL25n133) rfl rfl (v_move (.inr rfl) rfl) rfl ?_
              refine L_nil ?_
              first
                | (have hB := goA_yes (a := a) (l := lkL J) (i := i) (by omega) (isA1 (by assumption)); rw [hB.1])
                | (have hB := goA_yes (a := a) (l := lkL J) (i := i) (by omega) (isA2 (by assumption)); rw [hB.1])
                | (have hB := goA_no (a := a) (l := lkL J) (i := i) (by omega) (isA0 (by assumption) (by assumption)); rw [hB.1])
              refine K_loop (true :: false :: true :: true :: true :: true :: true :: false :: true :: false :: true :: false :: false :: false :: true :: true :: true :: true :: true :: true :: true :: true :: true :: true :: true :: true :: true :: true :: true :: true :: true :: true :: true :: true :: true :: true :: true :: true :: true :: true :: true :: true :: true :: true :: true :: true :: true :: true :: true :: true :: true :: true :: true :: true :: true :: true :: true :: true :: true :: true :: true :: true :: true :: true :: true :: true :: true :: true :: true :: true :: true :: true :: true :: true :: true :: true :: true :: true :: true :: true :: true :: true :: true :: true :: true :: true :: true :: true :: true :: true :: true :: true :: true :: true :: true :: true :: true :: true :: true :: true :: true :: true :: true :: true :: true :: true :: true :: true :: true :: true :: true :: true :: true :: true :: true :: true :: true :: true :: true :: true :: true :: true :: true :: true :: true :: true :: true :: true :: true :: true :: true :: true :: true :: []) (env' := uL25n133) rfl ⟨⟨i + 1, _⟩, ?_, rfl, ?_⟩
              · first | omega | (simp only []; omega)
              · first | exact ⟨by omega, _, rfl, hX0, by rw [hB.2]; exact hl, hn0⟩ | exact ⟨by omega, _, rfl, by rw [List.getElem?_append_left (by rw [hY1]; exact lt_of_get hX0), hY2 0 hn0]; exact hX0, by rw [hB.2]; exact LV.pair hY3, by simp [vidx]⟩
        · try simp only [decide_eq_true_eq, decide_eq_false_iff_not, Bool.not_eq_true', Bool.not_eq_false', bne_iff_ne, beq_iff_eq, Bool.and_eq_true, Bool.or_eq_true, Bool.not_eq_true, ge_iff_le, gt_iff_lt, Int.not_le, Int.not_lt, beq_eq_false_iff_ne, bne_eq_false_iff_eq, ne_eq, Decidable.not_not, wd_zero, wd_one, wd_inj] at hc4
          refine B_exit ?_
          refine K_seqX ?_
          refine K_loopX ?_
          refine K_blkX ?_
          refine K_seq ?_
          refine B_seq ?_
          obtain rfl : i = (lkL J).length := by omega
          rw [List.take_length] at hl ⊢
          have hdr := drop_is hR a
          have hll2 : (lkL (drJ J a)).length ≤ 4096 := @lkTo_len _ 64
          refine B_ghLV (env' := uL25n133) 12 hl rfl rfl fun X2 hx1 hx2 => ?_
          have hX2 : X2[0]? = some (rkB J) := (hx2 0 hn0).trans hX0
          refine B_region ?_
          refine L_op (env' := uL25n133) rfl rfl (v_move (.inl rfl) rfl) rfl ?_
          refine L_op (env' := uL25n133) rfl rfl (v_move (.inl rfl) rfl) rfl ?_
          refine L_call rfl rfl rfl (by exact Drop_at _ _ hX2 hR.len _) ?_
          rintro _ _ ⟨rfl, rfl⟩
          refine L_env (env' := uL25n133) rfl ?_
          refine L_op (env' := uL25n133) rfl rfl (v_move (.inl rfl) rfl) rfl ?_
          refine L_op (env' := uL25n133) rfl rfl (v_is true rfl (by rw [hdr.1]; simp)) rfl ?_
          refine L_op (env' := uL25n133) rfl rfl (v_move (.inl rfl) rfl) rfl ?_
          refine L_op (env' := uL25n133) rfl rfl (v_move (.inl rfl) rfl) rfl ?_
          refine L_call rfl rfl rfl (by exact Links_spec _ _ (drJ J a) (get_app (j := 0) rfl (List.getElem?_set_self (lt_of_get hX2))) hR.drJ.len) ?_
          rintro _ _ ⟨rfl, rfl⟩
          refine L_env (env' := uL25n133) rfl ?_
          refine L_op (env' := uL25n133) rfl rfl (v_move (.inl rfl) rfl) rfl ?_
          refine L_call rfl rfl rfl (by exact Pairs_spec _ (lkL (drJ J a)) ((lkL J).filter (fun p => !isA a p)) (by omega)) ?_
          rintro _ _ ⟨rfl, rfl⟩
          refine L_env (env' := uL25n133) rfl ?_
          refine L_op (env' := uL25n133) rfl rfl (v_pickT rfl rfl rfl) rfl ?_
          refine L_op (env' := uL25n133) rfl rfl (v_move (.inr rfl) rfl) rfl ?_
          refine L_nil ?_
          refine K_seq ?_
          refine B_ret ?_
          refine E_app (.inr rfl) (vres_tmp rfl rfl) (by first | exact BaseOk.refl _ | exact BaseOk.set (BaseOk.refl _) _ rfl) (by first | rfl | simp [VVal.under, VVal.underL, *]) ?_
          exact ⟨by rw [decide_eq_true hdr.2], rfl⟩
      · try simp only [decide_eq_true_eq, decide_eq_false_iff_not, Bool.not_eq_true', Bool.not_eq_false', bne_iff_ne, beq_iff_eq, Bool.and_eq_true, Bool.or_eq_true, Bool.not_eq_true, ge_iff_le, gt_iff_lt, Int.not_le, Int.not_lt, beq_eq_false_iff_ne, bne_eq_false_iff_eq, ne_eq, Decidable.not_not, wd_zero, wd_one, wd_inj] at hc3
        refine B_skip ?_
        refine K_seq ?_
        refine B_seq ?_
        refine B_seq ?_
        try rw [show ovJ J a b = J from ov_no (by assumption)]
        refine B_region ?_
        refine L_op (env' := uL25n133) rfl rfl (v_move (.inl rfl) rfl) rfl ?_
        refine L_call rfl rfl rfl (by exact Links_spec _ _ J (get_app rfl rfl) hR.len) ?_
        rintro _ _ ⟨rfl, rfl⟩
        refine L_env (env' := uL25n133) rfl ?_
        refine L_op (env' := uL25n133) rfl rfl (v_move (.inl rfl) rfl) rfl ?_
        refine L_call rfl rfl rfl (by exact Pairs_spec _ _ _ (by omega)) ?_
        rintro _ _ ⟨rfl, rfl⟩
        refine L_env (env' := uL25n133) rfl ?_
        refine L_op (env' := uL25n133) rfl rfl (v_is false rfl (by simp)) rfl ?_
        refine L_nil ?_
        refine K_seq ?_
        refine B_false rfl rfl ?_
        refine B_skip ?_
        refine K_seq ?_
        refine B_seq ?_
        refine B_region ?_
        refine L_op (env' := uL25n133) rfl rfl (v_const (VVal.int .i64 0) (.inr rfl) rfl) rfl ?_
        refine L_nil ?_
        refine K_seq ?_
        refine B_seq ?_
        refine B_region ?_
        refine L_op (env' := uL25n133) rfl rfl (v_const (VVal.slice none 0 0 true 0) (.inr rfl) rfl) rfl ?_
        refine L_nil ?_
        refine K_seq ?_
        refine B_seq ?_
        refine B_seq ?_
        refine B_region ?_
        refine L_op (env' := uL25n133) rfl rfl (v_const (VVal.int .i64 0) (.inr rfl) rfl) rfl ?_
        refine L_nil ?_
        refine K_seq ?_
        refine B_block ?_
        refine B_clear (true :: false :: true :: true :: true :: true :: true :: false :: true :: false :: true :: false :: false :: false :: true :: true :: true :: true :: true :: true :: true :: true :: true :: true :: true :: true :: true :: true :: true :: true :: true :: true :: true :: true :: true :: true :: true :: true :: true :: true :: true :: true :: true :: true :: true :: true :: true :: true :: true :: true :: true :: true :: true :: true :: true :: true :: true :: true :: true :: true :: true :: true :: true :: true :: true :: true :: true :: true :: true :: true :: true :: true :: true :: true :: true :: true :: true :: true :: true :: true :: true :: true :: true :: true :: true :: true :: true :: true :: true :: true :: true :: true :: true :: true :: true :: true :: true :: true :: true :: true :: true :: true :: true :: true :: true :: true :: true :: true :: true :: true :: true :: true :: true :: true :: true :: true :: true :: true :: true :: true :: true :: true :: true :: true :: true :: true :: true :: true :: true :: true :: true :: true :: true :: []) (env' := uL25n133) rfl ?_
        refine B_loopE (fun (⟨i, lv⟩ : Nat × VVal) => (lkL J).length - i) (fun (⟨i, lv⟩ : Nat × VVal) => [(11, iI ((((lkL J).take i).countP (isA a) : Nat) : Int)), (12, lv), (13, iI (i : Nat))]) (fun (⟨i, lv⟩ : Nat × VVal) G => (i ≤ (lkL J).length) ∧ ∃ X, G = H ++ X ∧ X[0]? = some (rkB J) ∧ LV H.length 2 X lv ((((lkL J).take i).filter (fun p => !isA a p)).flatMap enP) (((lkL J).take i).filter (fun p => !isA a p)).length ∧ vidx lv ≠ some (H.length + 0)) ⟨0, _⟩ rfl ?_ ?_
        · refine ⟨?_, ⟨_, rfl, rfl, LV.nil _ _ _, by simp [vidx]⟩⟩
          exact Nat.zero_le _
        rintro ⟨i, lv⟩ _ ⟨hi, ⟨X, rfl, hX0, hl, hn0⟩⟩
        refine B_env (env' := uL25n133) rfl ?_
        refine B_seq ?_
        refine B_seq ?_
        refine B_region ?_
        refine L_op (env' := uL25n133) rfl rfl (v_move (.inl rfl) rfl) rfl ?_
        refine L_op (env' := uL25n133) rfl rfl (v_move (.inl rfl) rfl) rfl ?_
        refine L_op (env' := uL25n133) rfl rfl (rfl) rfl ?_
        refine L_op (env' := uL25n133) rfl rfl (rfl) rfl ?_
        refine L_nil ?_
        refine K_seq ?_
        refine B_cond _ rfl (fun hc7 => ?_) (fun hc7 => ?_)
        · try simp only [decide_eq_true_eq, decide_eq_false_iff_not, Bool.not_eq_true', Bool.not_eq_false', bne_iff_ne, beq_iff_eq, Bool.and_eq_true, Bool.or_eq_true, Bool.not_eq_true, ge_iff_le, gt_iff_lt, Int.not_le, Int.not_lt, beq_eq_false_iff_ne, bne_eq_false_iff_eq, ne_eq, Decidable.not_not, wd_zero, wd_one, wd_inj] at hc7
          refine B_skip ?_
          refine K_seq ?_
          refine B_seq ?_
          refine B_block ?_
          refine B_seq ?_
          refine B_region ?_
          refine L_op (env' := uL25n133) rfl rfl (v_move (.inl rfl) rfl) rfl ?_
          refine L_op (env' := uL25n133) rfl rfl (v_move (.inl rfl) rfl) rfl ?_
          refine L_op (env' := uL25n133) rfl rfl (by first | exact v_idxF rfl rfl rfl rfl rfl rfl rfl (by first | assumption | omega | (simp [*]; done) | (simp at *; omega)) | exact v_idx rfl rfl rfl rfl rfl rfl rfl (by first | assumption | omega | (simp [*]; done) | (simp at *; omega))) rfl ?_
          refine L_op (env' := uL25n133) rfl rfl (by first | exact v_idxFA rfl rfl rfl rfl rfl rfl (by first | assumption | omega | (simp [*]; done) | (simp at *; omega)) | exact v_idxA rfl rfl rfl rfl rfl rfl (by first | assumption | omega | (simp [*]; done) | (simp at *; omega))) rfl ?_
          refine L_op (env' := uL25n133) rfl rfl (by first | exact v_loadF rfl rfl rfl rfl (by first | exact op_c0 (by omega) | exact op_c1 (by omega) | exact op_c2 (by omega) | exact op_c3 (by omega) | exact op_c4 (by omega) | exact pair_c0 (by omega) | exact pair_c1 (by omega) | rfl) | exact v_load rfl rfl rfl rfl (by first | exact get_app rfl rfl | exact get_out (by assumption) | assumption | (simp [*]; done)) (by first | exact op_c0 (by omega) | exact op_c1 (by omega) | exact op_c2 (by omega) | exact op_c3 (by omega) | exact op_c4 (by omega) | exact pair_c0 (by omega) | exact pair_c1 (by omega) | rfl)) rfl ?_
          refine L_op (env' := uL25n133) rfl rfl (v_move (.inl rfl) rfl) rfl ?_
          refine L_op (env' := uL25n133) rfl rfl (rfl) rfl ?_
          refine L_op (env' := uL25n133) rfl rfl (v_move (.inl rfl) rfl) rfl ?_
          refine L_split 104 (env1 := uL25n133) (env2 := uL25n133) rfl rfl rfl (fun hg8 => ?_) (fun hg8 => ?_)
          · try simp only [decide_eq_true_eq, decide_eq_false_iff_not, Bool.not_eq_true', Bool.not_eq_false', bne_iff_ne, beq_iff_eq, Bool.and_eq_true, Bool.or_eq_true, Bool.not_eq_true, ge_iff_le, gt_iff_lt, Int.not_le, Int.not_lt, beq_eq_false_iff_ne, bne_eq_false_iff_eq, ne_eq, Decidable.not_not, wd_zero, wd_one, wd_inj] at hg8
            refine L_off (env' := uL25n133) rfl rfl ?_
            refine L_off (env' := uL25n133) rfl rfl ?_
            refine L_off (env' := uL25n133) rfl rfl ?_
            refine L_off (env' := uL25n133) rfl rfl ?_
            refine L_off (env' := uL25n133) rfl rfl ?_
            refine L_off (env' := uL25n133) rfl rfl ?_
            refine L_off (env' := uL25n133) rfl rfl ?_
            refine L_op (env' := uL25n133) rfl rfl (v_pickTC (VVal.bool true) rfl rfl rfl) rfl ?_
            refine L_nil ?_
            refine K_seq ?_
            refine B_true rfl rfl ?_
            refine B_region ?_
            refine L_op (env' := uL25n133) rfl rfl (v_move (.inl rfl) rfl) rfl ?_
            refine L_op (env' := uL25n133) rfl rfl (v_addI rfl rfl rfl (by have hq4 : (((lkL J).take i).countP (isA a)) ≤ ((lkL J).take i).length := List.countP_le_length; rw [List.length_take] at hq4; omega)) rfl ?_
            refine L_op (env' := uL25n133) rfl rfl (v_move (.inr rfl) rfl) rfl ?_
            refine L_nil ?_
            refine K_blk ?_
            refine K_seq ?_
            refine B_region ?_
            refine L_op (env' := uL25n133) rfl rfl (v_move (.inl rfl) rfl) rfl ?_
            refine L_op (env' := uL25n133) rfl rfl (v_addI rfl rfl rfl (by first | assumption | omega | (simp [*]; done) | (simp at *; omega))) rfl ?_
            refine L_op (env' := uL25n133) rfl rfl (v_move (.inr rfl) rfl) rfl ?_
            refine L_nil ?_
            first
              | (have hB := goA_yes (a := a) (l := lkL J) (i := i) (by omega) (isA1 (by assumption)); rw [hB.1])
              | (have hB := goA_yes (a := a) (l := lkL J) (i := i) (by omega) (isA2 (by assumption)); rw [hB.1])
              | (have hB := goA_no (a := a) (l := lkL J) (i := i) (by omega) (isA0 (by assumption) (by assumption)); rw [hB.1])
            refine K_loop (true :: false :: true :: true :: true :: true :: true :: false :: true :: false :: true :: false :: false :: false :: true :: true :: true :: true :: true :: true :: true :: true :: true :: true :: true :: true :: true :: true :: true :: true :: true :: true :: true :: true :: true :: true :: true :: true :: true :: true :: true :: true :: true :: true :: true :: true :: true :: true :: true :: true :: true :: true :: true :: true :: true :: true :: true :: true :: true :: true :: true :: true :: true :: true :: true :: true :: true :: true :: true :: true :: true :: true :: true :: true :: true :: true :: true :: true :: true :: true :: true :: true :: true :: true :: true :: true :: true :: true :: true :: true :: true :: true :: true :: true :: true :: true :: true :: true :: true :: true :: true :: true :: true :: true :: true :: true :: true :: true :: true :: true :: true :: true :: true :: true :: true :: true :: true :: true :: true :: true :: true :: true :: true :: true :: true :: true :: true :: true :: true :: true :: true :: true :: true :: []) (env' := uL25n133) rfl ⟨⟨i + 1, _⟩, ?_, rfl, ?_⟩
            · first | omega | (simp only []; omega)
            · first | exact ⟨by omega, _, rfl, hX0, by rw [hB.2]; exact hl, hn0⟩ | exact ⟨by omega, _, rfl, by rw [List.getElem?_append_left (by rw [hY1]; exact lt_of_get hX0), hY2 0 hn0]; exact hX0, by rw [hB.2]; exact LV.pair hY3, by simp [vidx]⟩
          · try simp only [decide_eq_true_eq, decide_eq_false_iff_not, Bool.not_eq_true', Bool.not_eq_false', bne_iff_ne, beq_iff_eq, Bool.and_eq_true, Bool.or_eq_true, Bool.not_eq_true, ge_iff_le, gt_iff_lt, Int.not_le, Int.not_lt, beq_eq_false_iff_ne, bne_eq_false_iff_eq, ne_eq, Decidable.not_not, wd_zero, wd_one, wd_inj] at hg8
            refine L_op (env' := uL25n133) rfl rfl (v_move (.inl rfl) rfl) rfl ?_
            refine L_op (env' := uL25n133) rfl rfl (v_move (.inl rfl) rfl) rfl ?_
            refine L_op (env' := uL25n133) rfl rfl (by first | exact v_idxF rfl rfl rfl rfl rfl rfl rfl (by first | assumption | omega | (simp [*]; done) | (simp at *; omega)) | exact v_idx rfl rfl rfl rfl rfl rfl rfl (by first | assumption | omega | (simp [*]; done) | (simp at *; omega))) rfl ?_
            refine L_op (env' := uL25n133) rfl rfl (by first | exact v_idxFA rfl rfl rfl rfl rfl rfl (by first | assumption | omega | (simp [*]; done) | (simp at *; omega)) | exact v_idxA rfl rfl rfl rfl rfl rfl (by first | assumption | omega | (simp [*]; done) | (simp at *; omega))) rfl ?_
            refine L_op (env' := uL25n133) rfl rfl (by first | exact v_loadF rfl rfl rfl rfl (by first | exact op_c0 (by omega) | exact op_c1 (by omega) | exact op_c2 (by omega) | exact op_c3 (by omega) | exact op_c4 (by omega) | exact pair_c0 (by omega) | exact pair_c1 (by omega) | rfl) | exact v_load rfl rfl rfl rfl (by first | exact get_app rfl rfl | exact get_out (by assumption) | assumption | (simp [*]; done)) (by first | exact op_c0 (by omega) | exact op_c1 (by omega) | exact op_c2 (by omega) | exact op_c3 (by omega) | exact op_c4 (by omega) | exact pair_c0 (by omega) | exact pair_c1 (by omega) | rfl)) rfl ?_
            refine L_op (env' := uL25n133) rfl rfl (v_move (.inl rfl) rfl) rfl ?_
            refine L_op (env' := uL25n133) rfl rfl (rfl) rfl ?_
            refine L_op (env' := uL25n133) rfl rfl (v_pickF rfl rfl rfl) rfl ?_
            refine L_nil ?_
            refine K_seq ?_
            refine B_cond _ rfl (fun hc9 => ?_) (fun hc9 => ?_)
            · try simp only [decide_eq_true_eq, decide_eq_false_iff_not, Bool.not_eq_true', Bool.not_eq_false', bne_iff_ne, beq_iff_eq, Bool.and_eq_true, Bool.or_eq_true, Bool.not_eq_true, ge_iff_le, gt_iff_lt, Int.not_le, Int.not_lt, beq_eq_false_iff_ne, bne_eq_false_iff_eq, ne_eq, Decidable.not_not, wd_zero, wd_one, wd_inj] at hc9
              refine B_region ?_
              refine L_op (env' := uL25n133) rfl rfl (v_move (.inl rfl) rfl) rfl ?_
              refine L_op (env' := uL25n133) rfl rfl (v_addI rfl rfl rfl (by have hq4 : (((lkL J).take i).countP (isA a)) ≤ ((lkL J).take i).length := List.countP_le_length; rw [List.length_take] at hq4; omega)) rfl ?_
              refine L_op (env' := uL25n133) rfl rfl (v_move (.inr rfl) rfl) rfl ?_
              refine L_nil ?_
              refine K_blk ?_
              refine K_seq ?_
              refine B_region ?_
              refine L_op (env' := uL25n133) rfl rfl (v_move (.inl rfl) rfl) rfl ?_
              refine L_op (env' := uL25n133) rfl rfl (v_addI rfl rfl rfl (by first | assumption | omega | (simp [*]; done) | (simp at *; omega))) rfl ?_
              refine L_op (env' := uL25n133) rfl rfl (v_move (.inr rfl) rfl) rfl ?_
              refine L_nil ?_
              first
                | (have hB := goA_yes (a := a) (l := lkL J) (i := i) (by omega) (isA1 (by assumption)); rw [hB.1])
                | (have hB := goA_yes (a := a) (l := lkL J) (i := i) (by omega) (isA2 (by assumption)); rw [hB.1])
                | (have hB := goA_no (a := a) (l := lkL J) (i := i) (by omega) (isA0 (by assumption) (by assumption)); rw [hB.1])
              refine K_loop (true :: false :: true :: true :: true :: true :: true :: false :: true :: false :: true :: false :: false :: false :: true :: true :: true :: true :: true :: true :: true :: true :: true :: true :: true :: true :: true :: true :: true :: true :: true :: true :: true :: true :: true :: true :: true :: true :: true :: true :: true :: true :: true :: true :: true :: true :: true :: true :: true :: true :: true :: true :: true :: true :: true :: true :: true :: true :: true :: true :: true :: true :: true :: true :: true :: true :: true :: true :: true :: true :: true :: true :: true :: true :: true :: true :: true :: true :: true :: true :: true :: true :: true :: true :: true :: true :: true :: true :: true :: true :: true :: true :: true :: true :: true :: true :: true :: true :: true :: true :: true :: true :: true :: true :: true :: true :: true :: true :: true :: true :: true :: true :: true :: true :: true :: true :: true :: true :: true :: true :: true :: true :: true :: true :: true :: true :: true :: true :: true :: true :: true :: true :: true :: []) (env' := uL25n133) rfl ⟨⟨i + 1, _⟩, ?_, rfl, ?_⟩
              · first | omega | (simp only []; omega)
              · first | exact ⟨by omega, _, rfl, hX0, by rw [hB.2]; exact hl, hn0⟩ | exact ⟨by omega, _, rfl, by rw [List.getElem?_append_left (by rw [hY1]; exact lt_of_get hX0), hY2 0 hn0]; exact hX0, by rw [hB.2]; exact LV.pair hY3, by simp [vidx]⟩
            · try simp only [decide_eq_true_eq, decide_eq_false_iff_not, Bool.not_eq_true', Bool.not_eq_false', bne_iff_ne, beq_iff_eq, Bool.and_eq_true, Bool.or_eq_true, Bool.not_eq_true, ge_iff_le, gt_iff_lt, Int.not_le, Int.not_lt, beq_eq_false_iff_ne, bne_eq_false_iff_eq, ne_eq, Decidable.not_not, wd_zero, wd_one, wd_inj] at hc9
              refine B_region ?_
              refine L_op (env' := uL25n133) rfl rfl (v_move (.inl rfl) rfl) rfl ?_
              refine L_op (env' := uL25n133) rfl rfl (v_move (.inl rfl) rfl) rfl ?_
              refine L_op (env' := uL25n133) rfl rfl (v_move (.inl rfl) rfl) rfl ?_
              refine L_op (env' := uL25n133) rfl rfl (by first | exact v_idxF rfl rfl rfl rfl rfl rfl rfl (by first | assumption | omega | (simp [*]; done) | (simp at *; omega)) | exact v_idx rfl rfl rfl rfl rfl rfl rfl (by first | assumption | omega | (simp [*]; done) | (simp at *; omega))) rfl ?_
              refine L_op (env' := uL25n133) rfl rfl (by first | exact v_loadFA rfl rfl rfl rfl (by exact pair_at (by omega)) | exact v_loadA rfl rfl rfl rfl (by first | exact get_app rfl rfl | exact get_out (by assumption) | assumption | (simp [*]; done)) (by exact pair_at (by omega))) rfl ?_
              refine L_op (env' := uL25n133) rfl rfl (v_buildSlice rfl rfl (by decide) rfl) rfl ?_
              refine L_opX rfl rfl (v_appX rfl rfl rfl rfl rfl rfl rfl hl rfl rfl (by decide) (by have hq3 : (((lkL J).take i).filter (fun p => !isA a p)).length ≤ ((lkL J).take i).length := List.length_filter_le _ _; rw [List.length_take] at hq3; show (_ + 1) * 16 ≤ _ ∧ _ + 1 ≤ _; omega) (by decide)) ?_
              rintro _ _ ⟨Y1, rfl, rfl, hY1, hY2, hY3⟩
              refine L_env (env' := uL25n133) rfl ?_
              refine L_op (env' := uL25n133) rfl rfl (v_move (.inr rfl) rfl) rfl ?_
              refine L_nil ?_
              refine K_blk ?_
              refine K_seq ?_
              refine B_region ?_
              refine L_op (env' := uL25n133) rfl rfl (v_move (.inl rfl) rfl) rfl ?_
              refine L_op (env' := uL25n133) rfl rfl (v_addI rfl rfl rfl (by first | assumption | omega | (simp [*]; done) | (simp at *; omega))) rfl ?_
              refine L_op (env' := uL25n133) rfl rfl (v_move (.inr rfl) rfl) rfl ?_
              refine L_nil ?_
              first
                | (have hB := goA_yes (a := a) (l := lkL J) (i := i) (by omega) (isA1 (by assumption)); rw [hB.1])
                | (have hB := goA_yes (a := a) (l := lkL J) (i := i) (by omega) (isA2 (by assumption)); rw [hB.1])
                | (have hB := goA_no (a := a) (l := lkL J) (i := i) (by omega) (isA0 (by assumption) (by assumption)); rw [hB.1])
              refine K_loop (true :: false :: true :: true :: true :: true :: true :: false :: true :: false :: true :: false :: false :: false :: true :: true :: true :: true :: true :: true :: true :: true :: true :: true :: true :: true :: true :: true :: true :: true :: true :: true :: true :: true :: true :: true :: true :: true :: true :: true :: true :: true :: true :: true :: true :: true :: true :: true :: true :: true :: true :: true :: true :: true :: true :: true :: true :: true :: true :: true :: true :: true :: true :: true :: true :: true :: true :: true :: true :: true :: true :: true :: true :: true :: true :: true :: true :: true :: true :: true :: true :: true :: true :: true :: true :: true :: true :: true :: true :: true :: true :: true :: true :: true :: true :: true :: true :: true :: true :: true :: true :: true :: true :: true :: true :: true :: true :: true :: true :: true :: true :: true :: true :: true :: true :: true :: true :: true :: true :: true :: true :: true :: true :: true :: true :: true :: true :: true :: true :: true :: true :: true :: true :: []) (env' := uL25n133) rfl ⟨⟨i + 1, _⟩, ?_, rfl, ?_⟩
              · first | omega | (simp only []; omega)
              · first | exact ⟨by omega, _, rfl, hX0, by rw [hB.2]; exact hl, hn0⟩ | exact ⟨by omega, _, rfl, by rw [List.getElem?_append_left (by rw [hY1]; exact lt_of_get hX0), hY2 0 hn0]; exact hX0, by rw [hB.2]; exact LV.pair hY3, by simp [vidx]⟩
        · try simp only [decide_eq_true_eq, decide_eq_false_iff_not, Bool.not_eq_true', Bool.not_eq_false', bne_iff_ne, beq_iff_eq, Bool.and_eq_true, Bool.or_eq_true, Bool.not_eq_true, ge_iff_le, gt_iff_lt, Int.not_le, Int.not_lt, beq_eq_false_iff_ne, bne_eq_false_iff_eq, ne_eq, Decidable.not_not, wd_zero, wd_one, wd_inj] at hc7
          refine B_exit ?_
          refine K_seqX ?_
          refine K_loopX ?_
          refine K_blkX ?_
          refine K_seq ?_
          refine B_seq ?_
          obtain rfl : i = (lkL J).length := by omega
          rw [List.take_length] at hl ⊢
          have hdr := drop_is hR a
          have hll2 : (lkL (drJ J a)).length ≤ 4096 := @lkTo_len _ 64
          refine B_ghLV (env' := uL25n133) 12 hl rfl rfl fun X2 hx1 hx2 => ?_
          have hX2 : X2[0]? = some (rkB J) := (hx2 0 hn0).trans hX0
          refine B_region ?_
          refine L_op (env' := uL25n133) rfl rfl (v_move (.inl rfl) rfl) rfl ?_
          refine L_op (env' := uL25n133) rfl rfl (v_move (.inl rfl) rfl) rfl ?_
          refine L_call rfl rfl rfl (by exact Drop_at _ _ hX2 hR.len _) ?_
          rintro _ _ ⟨rfl, rfl⟩
          refine L_env (env' := uL25n133) rfl ?_
          refine L_op (env' := uL25n133) rfl rfl (v_move (.inl rfl) rfl) rfl ?_
          refine L_op (env' := uL25n133) rfl rfl (v_is true rfl (by rw [hdr.1]; simp)) rfl ?_
          refine L_op (env' := uL25n133) rfl rfl (v_move (.inl rfl) rfl) rfl ?_
          refine L_op (env' := uL25n133) rfl rfl (v_move (.inl rfl) rfl) rfl ?_
          refine L_call rfl rfl rfl (by exact Links_spec _ _ (drJ J a) (get_app (j := 0) rfl (List.getElem?_set_self (lt_of_get hX2))) hR.drJ.len) ?_
          rintro _ _ ⟨rfl, rfl⟩
          refine L_env (env' := uL25n133) rfl ?_
          refine L_op (env' := uL25n133) rfl rfl (v_move (.inl rfl) rfl) rfl ?_
          refine L_call rfl rfl rfl (by exact Pairs_spec _ (lkL (drJ J a)) ((lkL J).filter (fun p => !isA a p)) (by omega)) ?_
          rintro _ _ ⟨rfl, rfl⟩
          refine L_env (env' := uL25n133) rfl ?_
          refine L_op (env' := uL25n133) rfl rfl (v_pickT rfl rfl rfl) rfl ?_
          refine L_op (env' := uL25n133) rfl rfl (v_move (.inr rfl) rfl) rfl ?_
          refine L_nil ?_
          refine K_seq ?_
          refine B_ret ?_
          refine E_app (.inr rfl) (vres_tmp rfl rfl) (by first | exact BaseOk.refl _ | exact BaseOk.set (BaseOk.refl _) _ rfl) (by first | rfl | simp [VVal.under, VVal.underL, *]) ?_
          exact ⟨by rw [decide_eq_true hdr.2], rfl⟩
  · try simp only [decide_eq_true_eq, decide_eq_false_iff_not, Bool.not_eq_true', Bool.not_eq_false', bne_iff_ne, beq_iff_eq, Bool.and_eq_true, Bool.or_eq_true, Bool.not_eq_true, ge_iff_le, gt_iff_lt, Int.not_le, Int.not_lt, beq_eq_false_iff_ne, bne_eq_false_iff_eq, ne_eq, Decidable.not_not, wd_zero, wd_one, wd_inj] at hg1
    refine L_off (env' := uL25n133) rfl rfl ?_
    refine L_off (env' := uL25n133) rfl rfl ?_
    refine L_op (env' := uL25n133) rfl rfl (v_pickFC (VVal.bool false) rfl rfl rfl) rfl ?_
    refine L_nil ?_
    refine K_seq ?_
    refine B_false rfl rfl ?_
    refine B_exit ?_
    refine K_seqX ?_
    refine K_loopX ?_
    refine K_blkX ?_
    refine K_seq ?_
    refine B_seq ?_
    refine B_region ?_
    refine L_op (env' := uL25n133) rfl rfl (v_move (.inl rfl) rfl) rfl ?_
    refine L_call rfl rfl rfl (by exact Links_spec _ _ J (get_app rfl rfl) hR.len) ?_
    rintro _ _ ⟨rfl, rfl⟩
    refine L_env (env' := uL25n133) rfl ?_
    refine L_op (env' := uL25n133) rfl rfl (v_move (.inr rfl) rfl) rfl ?_
    refine L_nil ?_
    refine K_seq ?_
    refine B_seq ?_
    refine B_region ?_
    refine L_op (env' := uL25n133) rfl rfl (v_move (.inl rfl) rfl) rfl ?_
    refine L_op (env' := uL25n133) rfl rfl (v_move (.inl rfl) rfl) rfl ?_
    refine L_op (env' := uL25n133) rfl rfl (v_move (.inl rfl) rfl) rfl ?_
    refine L_call rfl rfl rfl (by exact Over_loc _ _ rfl hR.len _ _) ?_
    rintro _ _ ⟨rfl, rfl⟩
    refine L_env (env' := uL25n133) rfl ?_
    refine L_op (env' := uL25n133) rfl rfl (v_move (.inr rfl) rfl) rfl ?_
    refine L_nil ?_
    refine K_seq ?_
    refine B_seq ?_
    refine B_seq ?_
    refine B_region ?_
    refine L_op (env' := uL25n133) rfl rfl (v_move (.inl rfl) rfl) rfl ?_
    refine L_op (env' := uL25n133) rfl rfl (rfl) rfl ?_
    refine L_nil ?_
    refine K_seq ?_
    refine B_cond _ rfl (fun hc10 => ?_) (fun hc10 => ?_)
    · try simp only [decide_eq_true_eq, decide_eq_false_iff_not, Bool.not_eq_true', Bool.not_eq_false', bne_iff_ne, beq_iff_eq, Bool.and_eq_true, Bool.or_eq_true, Bool.not_eq_true, ge_iff_le, gt_iff_lt, Int.not_le, Int.not_lt, beq_eq_false_iff_ne, bne_eq_false_iff_eq, ne_eq, Decidable.not_not, wd_zero, wd_one, wd_inj] at hc10
      refine B_seq ?_
      refine B_region ?_
      have hld := laid_of hR (by assumption)
      refine L_heap (H' := H ++ [rkB (lay J a.toNat b.toNat)]) (by rw [hld.a]; rfl) ?_
      refine L_op (env' := uL25n133) rfl rfl (v_move (.inl rfl) rfl) rfl ?_
      refine L_op (env' := uL25n133) rfl rfl (v_move (.inl rfl) rfl) rfl ?_
      refine L_op (env' := uL25n133) rfl rfl (v_move (.inl rfl) rfl) rfl ?_
      refine L_call rfl rfl rfl (by exact rkHas_spec _ _ (lay J a.toNat b.toNat) (get_app rfl rfl) hld.l _ _) ?_
      rintro _ _ ⟨rfl, rfl⟩
      refine L_env (env' := uL25n133) rfl ?_
      refine L_op (env' := uL25n133) rfl rfl (v_is false rfl (by rw [hld.b]; rfl)) rfl ?_
      refine L_op (env' := uL25n133) rfl rfl (v_move (.inl rfl) rfl) rfl ?_
      refine L_op (env' := uL25n133) rfl rfl (v_move (.inl rfl) rfl) rfl ?_
      refine L_call rfl rfl rfl (by exact Links_spec _ _ (lay J a.toNat b.toNat) (get_app rfl rfl) hld.l) ?_
      rintro _ _ ⟨rfl, rfl⟩
      refine L_env (env' := uL25n133) rfl ?_
      refine L_op (env' := uL25n133) rfl rfl (rfl) rfl ?_
      refine L_op (env' := uL25n133) rfl rfl (v_move (.inl rfl) rfl) rfl ?_
      refine L_op (env' := uL25n133) rfl rfl (rfl) rfl ?_
      refine L_op (env' := uL25n133) rfl rfl (v_addI rfl rfl rfl (by omega)) rfl ?_
      refine L_op (env' := uL25n133) rfl rfl (v_is false rfl (by rw [hld.c]; simp)) rfl ?_
      refine L_op (env' := uL25n133) rfl rfl (v_pickF rfl rfl rfl) rfl ?_
      refine L_op (env' := uL25n133) rfl rfl (v_move (.inl rfl) rfl) rfl ?_
      refine L_op (env' := uL25n133) rfl rfl (v_move (.inl rfl) rfl) rfl ?_
      refine L_op (env' := uL25n133) rfl rfl (v_move (.inl rfl) rfl) rfl ?_
      refine L_op (env' := uL25n133) rfl rfl (v_move (.inl rfl) rfl) rfl ?_
      refine L_call rfl rfl rfl (by exact Over_loc (J := lay J a.toNat b.toNat) _ _ rfl hld.l _ _) ?_
      rintro v G ⟨hv, hG⟩; rw [hld.d.1] at hv; rw [hld.d.2] at hG; subst hv; subst hG
      refine L_env (env' := uL25n133) rfl ?_
      refine L_op (env' := uL25n133) rfl rfl (rfl) rfl ?_
      refine L_op (env' := uL25n133) rfl rfl (v_pickF rfl rfl rfl) rfl ?_
      refine L_op (env' := uL25n133) rfl rfl (v_move (.inl rfl) rfl) rfl ?_
      refine L_op (env' := uL25n133) rfl rfl (v_move (.inl rfl) rfl) rfl ?_
      refine L_op (env' := uL25n133) rfl rfl (v_move (.inl rfl) rfl) rfl ?_
      refine L_op (env' := uL25n133) rfl rfl (v_move (.inl rfl) rfl) rfl ?_
      refine L_call rfl rfl rfl (by exact Cut_loc (J := lay J a.toNat b.toNat) _ _ rfl hld.l _ _) ?_
      rintro v G ⟨hv, hG⟩; rw [hld.e.1] at hv; rw [hld.e.2] at hG; subst hv; subst hG
      refine L_env (env' := uL25n133) rfl ?_
      refine L_op (env' := uL25n133) rfl rfl (rfl) rfl ?_
      refine L_op (env' := uL25n133) rfl rfl (v_pickF rfl rfl rfl) rfl ?_
      refine L_op (env' := uL25n133) rfl rfl (v_move (.inl rfl) rfl) rfl ?_
      refine L_op (env' := uL25n133) rfl rfl (v_move (.inl rfl) rfl) rfl ?_
      refine L_op (env' := uL25n133) rfl rfl (v_move (.inl rfl) rfl) rfl ?_
      refine L_op (env' := uL25n133) rfl rfl (v_move (.inl rfl) rfl) rfl ?_
      refine L_call rfl rfl rfl (by exact Cut_loc (J := J) _ _ rfl hR.len _ _) ?_
      rintro v G ⟨hv, hG⟩; rw [hld.f.1] at hv; rw [hld.f.2] at hG; subst hv; subst hG
      refine L_env (env' := uL25n133) rfl ?_
      refine L_op (env' := uL25n133) rfl rfl (rfl) rfl ?_
      refine L_op (env' := uL25n133) rfl rfl (v_pickF rfl rfl rfl) rfl ?_
      refine L_nil ?_
      refine K_seq ?_
      refine B_false rfl rfl ?_
      refine B_skip ?_
      refine K_seq ?_
      refine B_seq ?_
      refine B_seq ?_
      try rw [show ovJ J a b = J from ov_no (by assumption)]
      refine B_region ?_
      refine L_op (env' := uL25n133) rfl rfl (v_move (.inl rfl) rfl) rfl ?_
      refine L_call rfl rfl rfl (by exact Links_spec _ _ J (get_app rfl rfl) hR.len) ?_
      rintro _ _ ⟨rfl, rfl⟩
      refine L_env (env' := uL25n133) rfl ?_
      refine L_op (env' := uL25n133) rfl rfl (v_move (.inl rfl) rfl) rfl ?_
      refine L_call rfl rfl rfl (by exact Pairs_spec _ _ _ (by omega)) ?_
      rintro _ _ ⟨rfl, rfl⟩
      refine L_env (env' := uL25n133) rfl ?_
      refine L_op (env' := uL25n133) rfl rfl (v_is false rfl (by simp)) rfl ?_
      refine L_nil ?_
      refine K_seq ?_
      refine B_false rfl rfl ?_
      refine B_skip ?_
      refine K_seq ?_
      refine B_seq ?_
      refine B_region ?_
      refine L_op (env' := uL25n133) rfl rfl (v_const (VVal.int .i64 0) (.inr rfl) rfl) rfl ?_
      refine L_nil ?_
      refine K_seq ?_
      refine B_seq ?_
      refine B_region ?_
      refine L_op (env' := uL25n133) rfl rfl (v_const (VVal.slice none 0 0 true 0) (.inr rfl) rfl) rfl ?_
      refine L_nil ?_
      refine K_seq ?_
      refine B_seq ?_
      refine B_seq ?_
      refine B_region ?_
      refine L_op (env' := uL25n133) rfl rfl (v_const (VVal.int .i64 0) (.inr rfl) rfl) rfl ?_
      refine L_nil ?_
      refine K_seq ?_
      refine B_block ?_
      refine B_clear (true :: false :: true :: true :: true :: true :: true :: false :: true :: false :: true :: false :: false :: false :: true :: true :: true :: true :: true :: true :: true :: true :: true :: true :: true :: true :: true :: true :: true :: true :: true :: true :: true :: true :: true :: true :: true :: true :: true :: true :: true :: true :: true :: true :: true :: true :: true :: true :: true :: true :: true :: true :: true :: true :: true :: true :: true :: true :: true :: true :: true :: true :: true :: true :: true :: true :: true :: true :: true :: true :: true :: true :: true :: true :: true :: true :: true :: true :: true :: true :: true :: true :: true :: true :: true :: true :: true :: true :: true :: true :: true :: true :: true :: true :: true :: true :: true :: true :: true :: true :: true :: true :: true :: true :: true :: true :: true :: true :: true :: true :: true :: true :: true :: true :: true :: true :: true :: true :: true :: true :: true :: true :: true :: true :: true :: true :: true :: true :: true :: true :: true :: true :: true :: []) (env' := uL25n133) rfl ?_
      refine B_loopE (fun (⟨i, lv⟩ : Nat × VVal) => (lkL J).length - i) (fun (⟨i, lv⟩ : Nat × VVal) => [(11, iI ((((lkL J).take i).countP (isA a) : Nat) : Int)), (12, lv), (13, iI (i : Nat))]) (fun (⟨i, lv⟩ : Nat × VVal) G => (i ≤ (lkL J).length) ∧ ∃ X, G = H ++ X ∧ X[0]? = some (rkB J) ∧ LV H.length 2 X lv ((((lkL J).take i).filter (fun p => !isA a p)).flatMap enP) (((lkL J).take i).filter (fun p => !isA a p)).length ∧ vidx lv ≠ some (H.length + 0)) ⟨0, _⟩ rfl ?_ ?_
      · refine ⟨?_, ⟨_, rfl, rfl, LV.nil _ _ _, by simp [vidx]⟩⟩
        exact Nat.zero_le _
      rintro ⟨i, lv⟩ _ ⟨hi, ⟨X, rfl, hX0, hl, hn0⟩⟩
      refine B_env (env' := uL25n133) rfl ?_
      refine B_seq ?_
      refine B_seq ?_
      refine B_region ?_
      refine L_op (env' := uL25n133) rfl rfl (v_move (.inl rfl) rfl) rfl ?_
      refine L_op (env' := uL25n133) rfl rfl (v_move (.inl rfl) rfl) rfl ?_
      refine L_op (env' := uL25n133) rfl rfl (rfl) rfl ?_
      refine L_op (env' := uL25n133) rfl rfl (rfl) rfl ?_
      refine L_nil ?_
      refine K_seq ?_
      refine B_cond _ rfl (fun hc11 => ?_) (fun hc11 => ?_)
      · try simp only [decide_eq_true_eq, decide_eq_false_iff_not, Bool.not_eq_true', Bool.not_eq_false', bne_iff_ne, beq_iff_eq, Bool.and_eq_true, Bool.or_eq_true, Bool.not_eq_true, ge_iff_le, gt_iff_lt, Int.not_le, Int.not_lt, beq_eq_false_iff_ne, bne_eq_false_iff_eq, ne_eq, Decidable.not_not, wd_zero, wd_one, wd_inj] at hc11
        refine B_skip ?_
        refine K_seq ?_
        refine B_seq ?_
        refine B_block ?_
        refine B_seq ?_
        refine B_region ?_
        refine L_op (env' := uL25n133) rfl rfl (v_move (.inl rfl) rfl) rfl ?_
        refine L_op (env' := uL25n133) rfl rfl (v_move (.inl rfl) rfl) rfl ?_
        refine L_op (env' := uL25n133) rfl rfl (by first | exact v_idxF rfl rfl rfl rfl rfl rfl rfl (by first | assumption | omega | (simp [*]; done) | (simp at *; omega)) | exact v_idx rfl rfl rfl rfl rfl rfl rfl (by first | assumption | omega | (simp [*]; done) | (simp at *; omega))) rfl ?_
        refine L_op (env' := uL25n133) rfl rfl (by first | exact v_idxFA rfl rfl rfl rfl rfl rfl (by first | assumption | omega | (simp [*]; done) | (simp at *; omega)) | exact v_idxA rfl rfl rfl rfl rfl rfl (by first | assumption | omega | (simp [*]; done) | (simp at *; omega))) rfl ?_
        refine L_op (env' := uL25n133) rfl rfl (by first | exact v_loadF rfl rfl rfl rfl (by first | exact op_c0 (by omega) | exact op_c1 (by omega) | exact op_c2 (by omega) | exact op_c3 (by omega) | exact op_c4 (by omega) | exact pair_c0 (by omega) | exact pair_c1 (by omega) | rfl) | exact v_load rfl rfl rfl rfl (by first | exact get_app rfl rfl | exact get_out (by assumption) | assumption | (simp [*]; done)) (by first | exact op_c0 (by omega) | exact op_c1 (by omega) | exact op_c2 (by omega) | exact op_c3 (by omega) | exact op_c4 (by omega) | exact pair_c0 (by omega) | exact pair_c1 (by omega) | rfl)) rfl ?_
        refine L_op (env' := uL25n133) rfl rfl (v_move (.inl rfl) rfl) rfl ?_
        refine L_op (env' := uL25n133) rfl rfl (rfl) rfl ?_
        refine L_op (env' := uL25n133) rfl rfl (v_move (.inl rfl) rfl) rfl ?_
        refine L_split 104 (env1 := uL25n133) (env2 := uL25n133) rfl rfl rfl (fun hg12 => ?_) (fun hg12 => ?_)
        · try simp only [decide_eq_true_eq, decide_eq_false_iff_not, Bool.not_eq_true', Bool.not_eq_false', bne_iff_ne, beq_iff_eq, Bool.and_eq_true, Bool.or_eq_true, Bool.not_eq_true, ge_iff_le, gt_iff_lt, Int.not_le, Int.not_lt, beq_eq_false_iff_ne, bne_eq_false_iff_eq, ne_eq, Decidable.not_not, wd_zero, wd_one, wd_inj] at hg12
          refine L_off (env' := uL25n133) rfl rfl ?_
          refine L_off (env' := uL25n133) rfl rfl ?_
          refine L_off (env' := uL25n133) rfl rfl ?_
          refine L_off (env' := uL25n133) rfl rfl ?_
          refine L_off (env' := uL25n133) rfl rfl ?_
          refine L_off (env' := uL25n133) rfl rfl ?_
          refine L_off (env' := uL25n133) rfl rfl ?_
          refine L_op (env' := uL25n133) rfl rfl (v_pickTC (VVal.bool true) rfl rfl rfl) rfl ?_
          refine L_nil ?_
          refine K_seq ?_
          refine B_true rfl rfl ?_
          refine B_region ?_
          refine L_op (env' := uL25n133) rfl rfl (v_move (.inl rfl) rfl) rfl ?_
          refine L_op (env' := uL25n133) rfl rfl (v_addI rfl rfl rfl (by have hq4 : (((lkL J).take i).countP (isA a)) ≤ ((lkL J).take i).length := List.countP_le_length; rw [List.length_take] at hq4; omega)) rfl ?_
          refine L_op (env' := uL25n133) rfl rfl (v_move (.inr rfl) rfl) rfl ?_
          refine L_nil ?_
          refine K_blk ?_
          refine K_seq ?_
          refine B_region ?_
          refine L_op (env' := uL25n133) rfl rfl (v_move (.inl rfl) rfl) rfl ?_
          refine L_op (env' := uL25n133) rfl rfl (v_addI rfl rfl rfl (by first | assumption | omega | (simp [*]; done) | (simp at *; omega))) rfl ?_
          refine L_op (env' := uL25n133) rfl rfl (v_move (.inr rfl) rfl) rfl ?_
          refine L_nil ?_
          first
            | (have hB := goA_yes (a := a) (l := lkL J) (i := i) (by omega) (isA1 (by assumption)); rw [hB.1])
            | (have hB := goA_yes (a := a) (l := lkL J) (i := i) (by omega) (isA2 (by assumption)); rw [hB.1])
            | (have hB := goA_no (a := a) (l := lkL J) (i := i) (by omega) (isA0 (by assumption) (by assumption)); rw [hB.1])
          refine K_loop (true :: false :: true :: true :: true :: true :: true :: false :: true :: false :: true :: false :: false :: false :: true :: true :: true :: true :: true :: true :: true :: true :: true :: true :: true :: true :: true :: true :: true :: true :: true :: true :: true :: true :: true :: true :: true :: true :: true :: true :: true :: true :: true :: true :: true :: true :: true :: true :: true :: true :: true :: true :: true :: true :: true :: true :: true :: true :: true :: true :: true :: true :: true :: true :: true :: true :: true :: true :: true :: true :: true :: true :: true :: true :: true :: true :: true :: true :: true :: true :: true :: true :: true :: true :: true :: true :: true :: true :: true :: true :: true :: true :: true :: true :: true :: true :: true :: true :: true :: true :: true :: true :: true :: true :: true :: true :: true :: true :: true :: true :: true :: true :: true :: true :: true :: true :: true :: true :: true :: true :: true :: true :: true :: true :: true :: true :: true :: true :: true :: true :: true :: true :: true :: []) (env' := uL25n133) rfl ⟨⟨i + 1, _⟩, ?_, rfl, ?_⟩
          · first | omega | (simp only []; omega)
          · first | exact ⟨by omega, _, rfl, hX0, by rw [hB.2]; exact hl, hn0⟩ | exact ⟨by omega, _, rfl, by rw [List.getElem?_append_left (by rw [hY1]; exact lt_of_get hX0), hY2 0 hn0]; exact hX0, by rw [hB.2]; exact LV.pair hY3, by simp [vidx]⟩
        · try simp only [decide_eq_true_eq, decide_eq_false_iff_not, Bool.not_eq_true', Bool.not_eq_false', bne_iff_ne, beq_iff_eq, Bool.and_eq_true, Bool.or_eq_true, Bool.not_eq_true, ge_iff_le, gt_iff_lt, Int.not_le, Int.not_lt, beq_eq_false_iff_ne, bne_eq_false_iff_eq, ne_eq, Decidable.not_not, wd_zero, wd_one, wd_inj] at hg12
          refine L_op (env' := uL25n133) rfl rfl (v_move (.inl rfl) rfl) rfl ?_
          refine L_op (env' := uL25n133) rfl rfl (v_move (.inl rfl) rfl) rfl ?_
          refine L_op (env' := uL25n133) rfl rfl (by first | exact v_idxF rfl rfl rfl rfl rfl rfl rfl (by first | assumption | omega | (simp [*]; done) | (simp at *; omega)) | exact v_idx rfl rfl rfl rfl rfl rfl rfl (by first | assumption | omega | (simp [*]; done) | (simp at *; omega))) rfl ?_
          refine L_op (env' := uL25n133) rfl rfl (by first | exact v_idxFA rfl rfl rfl rfl rfl rfl (by first | assumption | omega | (simp [*]; done) | (simp at *; omega)) | exact v_idxA rfl rfl rfl rfl rfl rfl (by first | assumption | omega | (simp [*]; done) | (simp at *; omega))) rfl ?_
          refine L_op (env' := uL25n133) rfl rfl (by first | exact v_loadF rfl rfl rfl rfl (by first | exact op_c0 (by omega) | exact op_c1 (by omega) | exact op_c2 (by omega) | exact op_c3 (by omega) | exact op_c4 (by omega) | exact pair_c0 (by omega) | exact pair_c1 (by omega) | rfl) | exact v_load rfl rfl rfl rfl (by first | exact get_app rfl rfl | exact get_out (by assumption) | assumption | (simp [*]; done)) (by first | exact op_c0 (by omega) | exact op_c1 (by omega) | exact op_c2 (by omega) | exact op_c3 (by omega) | exact op_c4 (by omega) | exact pair_c0 (by omega) | exact pair_c1 (by omega) | rfl)) rfl ?_
          refine L_op (env' := uL25n133) rfl rfl (v_move (.inl rfl) rfl) rfl ?_
          refine L_op (env' := uL25n133) rfl rfl (rfl) rfl ?_
          refine L_op (env' := uL25n133) rfl rfl (v_pickF rfl rfl rfl) rfl ?_
          refine L_nil ?_
          refine K_seq ?_
          refine B_cond _ rfl (fun hc13 => ?_) (fun hc13 => ?_)
          · try simp only [decide_eq_true_eq, decide_eq_false_iff_not, Bool.not_eq_true', Bool.not_eq_false', bne_iff_ne, beq_iff_eq, Bool.and_eq_true, Bool.or_eq_true, Bool.not_eq_true, ge_iff_le, gt_iff_lt, Int.not_le, Int.not_lt, beq_eq_false_iff_ne, bne_eq_false_iff_eq, ne_eq, Decidable.not_not, wd_zero, wd_one, wd_inj] at hc13
            refine B_region ?_
            refine L_op (env' := uL25n133) rfl rfl (v_move (.inl rfl) rfl) rfl ?_
            refine L_op (env' := uL25n133) rfl rfl (v_addI rfl rfl rfl (by have hq4 : (((lkL J).take i).countP (isA a)) ≤ ((lkL J).take i).length := List.countP_le_length; rw [List.length_take] at hq4; omega)) rfl ?_
            refine L_op (env' := uL25n133) rfl rfl (v_move (.inr rfl) rfl) rfl ?_
            refine L_nil ?_
            refine K_blk ?_
            refine K_seq ?_
            refine B_region ?_
            refine L_op (env' := uL25n133) rfl rfl (v_move (.inl rfl) rfl) rfl ?_
            refine L_op (env' := uL25n133) rfl rfl (v_addI rfl rfl rfl (by first | assumption | omega | (simp [*]; done) | (simp at *; omega))) rfl ?_
            refine L_op (env' := uL25n133) rfl rfl (v_move (.inr rfl) rfl) rfl ?_
            refine L_nil ?_
            first
              | (have hB := goA_yes (a := a) (l := lkL J) (i := i) (by omega) (isA1 (by assumption)); rw [hB.1])
              | (have hB := goA_yes (a := a) (l := lkL J) (i := i) (by omega) (isA2 (by assumption)); rw [hB.1])
              | (have hB := goA_no (a := a) (l := lkL J) (i := i) (by omega) (isA0 (by assumption) (by assumption)); rw [hB.1])
            refine K_loop (true :: false :: true :: true :: true :: true :: true :: false :: true :: false :: true :: false :: false :: false :: true :: true :: true :: true :: true :: true :: true :: true :: true :: true :: true :: true :: true :: true :: true :: true :: true :: true :: true :: true :: true :: true :: true :: true :: true :: true :: true :: true :: true :: true :: true :: true :: true :: true :: true :: true :: true :: true :: true :: true :: true :: true :: true :: true :: true :: true :: true :: true :: true :: true :: true :: true :: true :: true :: true :: true :: true :: true :: true :: true :: true :: true :: true :: true :: true :: true :: true :: true :: true :: true :: true :: true :: true :: true :: true :: true :: true :: true :: true :: true :: true :: true :: true :: true :: true :: true :: true :: true :: true :: true :: true :: true :: true :: true :: true :: true :: true :: true :: true :: true :: true :: true :: true :: true :: true :: true :: true :: true :: true :: true :: true :: true :: true :: true :: true :: true :: true :: true :: true :: []) (env' := uL25n133) rfl ⟨⟨i + 1, _⟩, ?_, rfl, ?_⟩
            · first | omega | (simp only []; omega)
            · first | exact ⟨by omega, _, rfl, hX0, by rw [hB.2]; exact hl, hn0⟩ | exact ⟨by omega, _, rfl, by rw [List.getElem?_append_left (by rw [hY1]; exact lt_of_get hX0), hY2 0 hn0]; exact hX0, by rw [hB.2]; exact LV.pair hY3, by simp [vidx]⟩
          · try simp only [decide_eq_true_eq, decide_eq_false_iff_not, Bool.not_eq_true', Bool.not_eq_false', bne_iff_ne, beq_iff_eq, Bool.and_eq_true, Bool.or_eq_true, Bool.not_eq_true, ge_iff_le, gt_iff_lt, Int.not_le, Int.not_lt, beq_eq_false_iff_ne, bne_eq_false_iff_eq, ne_eq, Decidable.not_not, wd_zero, wd_one, wd_inj] at hc13
            refine B_region ?_
            refine L_op (env' := uL25n133) rfl rfl (v_move (.inl rfl) rfl) rfl ?_
            refine L_op (env' := uL25n133) rfl rfl (v_move (.inl rfl) rfl) rfl ?_
            refine L_op (env' := uL25n133) rfl rfl (v_move (.inl rfl) rfl) rfl ?_
            refine L_op (env' := uL25n133) rfl rfl (by first | exact v_idxF rfl rfl rfl rfl rfl rfl rfl (by first | assumption | omega | (simp [*]; done) | (simp at *; omega)) | exact v_idx rfl rfl rfl rfl rfl rfl rfl (by first | assumption | omega | (simp [*]; done) | (simp at *; omega))) rfl ?_
            refine L_op (env' := uL25n133) rfl rfl (by first | exact v_loadFA rfl rfl rfl rfl (by exact pair_at (by omega)) | exact v_loadA rfl rfl rfl rfl (by first | exact get_app rfl rfl | exact get_out (by assumption) | assumption | (simp [*]; done)) (by exact pair_at (by omega))) rfl ?_
            refine L_op (env' := uL25n133) rfl rfl (v_buildSlice rfl rfl (by decide) rfl) rfl ?_
            refine L_opX rfl rfl (v_appX rfl rfl rfl rfl rfl rfl rfl hl rfl rfl (by decide) (by have hq3 : (((lkL J).take i).filter (fun p => !isA a p)).length ≤ ((lkL J).take i).length := List.length_filter_le _ _; rw [List.length_take] at hq3; show (_ + 1) * 16 ≤ _ ∧ _ + 1 ≤ _; omega) (by decide)) ?_
            rintro _ _ ⟨Y1, rfl, rfl, hY1, hY2, hY3⟩
            refine L_env (env' := uL25n133) rfl ?_
            refine L_op (env' := uL25n133) rfl rfl (v_move (.inr rfl) rfl) rfl ?_
            refine L_nil ?_
            refine K_blk ?_
            refine K_seq ?_
            refine B_region ?_
            refine L_op (env' := uL25n133) rfl rfl (v_move (.inl rfl) rfl) rfl ?_
            refine L_op (env' := uL25n133) rfl rfl (v_addI rfl rfl rfl (by first | assumption | omega | (simp [*]; done) | (simp at *; omega))) rfl ?_
            refine L_op (env' := uL25n133) rfl rfl (v_move (.inr rfl) rfl) rfl ?_
            refine L_nil ?_
            first
              | (have hB := goA_yes (a := a) (l := lkL J) (i := i) (by omega) (isA1 (by assumption)); rw [hB.1])
              | (have hB := goA_yes (a := a) (l := lkL J) (i := i) (by omega) (isA2 (by assumption)); rw [hB.1])
              | (have hB := goA_no (a := a) (l := lkL J) (i := i) (by omega) (isA0 (by assumption) (by assumption)); rw [hB.1])
            refine K_loop (true :: false :: true :: true :: true :: true :: true :: false :: true :: false :: true :: false :: false :: false :: true :: true :: true :: true :: true :: true :: true :: true :: true :: true :: true :: true :: true :: true :: true :: true :: true :: true :: true :: true :: true :: true :: true :: true :: true :: true :: true :: true :: true :: true :: true :: true :: true :: true :: true :: true :: true :: true :: true :: true :: true :: true :: true :: true :: true :: true :: true :: true :: true :: true :: true :: true :: true :: true :: true :: true :: true :: true :: true :: true :: true :: true :: true :: true :: true :: true :: true :: true :: true :: true :: true :: true :: true :: true :: true :: true :: true :: true :: true :: true :: true :: true :: true :: true :: true :: true :: true :: true :: true :: true :: true :: true :: true :: true :: true :: true :: true :: true :: true :: true :: true :: true :: true :: true :: true :: true :: true :: true :: true :: true :: true :: true :: true :: true :: true :: true :: true :: true :: true :: []) (env' := uL25n133) rfl ⟨⟨i + 1, _⟩, ?_, rfl, ?_⟩
            · first | omega | (simp only []; omega)
            · first | exact ⟨by omega, _, rfl, hX0, by rw [hB.2]; exact hl, hn0⟩ | exact ⟨by omega, _, rfl, by rw [List.getElem?_append_left (by rw [hY1]; exact lt_of_get hX0), hY2 0 hn0]; exact hX0, by rw [hB.2]; exact LV.pair hY3, by simp [vidx]⟩
      · try simp only [decide_eq_true_eq, decide_eq_false_iff_not, Bool.not_eq_true', Bool.not_eq_false', bne_iff_ne, beq_iff_eq, Bool.and_eq_true, Bool.or_eq_true, Bool.not_eq_true, ge_iff_le, gt_iff_lt, Int.not_le, Int.not_lt, beq_eq_false_iff_ne, bne_eq_false_iff_eq, ne_eq, Decidable.not_not, wd_zero, wd_one, wd_inj] at hc11
        refine B_exit ?_
        refine K_seqX ?_
        refine K_loopX ?_
        refine K_blkX ?_
        refine K_seq ?_
        refine B_seq ?_
        obtain rfl : i = (lkL J).length := by omega
        rw [List.take_length] at hl ⊢
        have hdr := drop_is hR a
        have hll2 : (lkL (drJ J a)).length ≤ 4096 := @lkTo_len _ 64
        refine B_ghLV (env' := uL25n133) 12 hl rfl rfl fun X2 hx1 hx2 => ?_
        have hX2 : X2[0]? = some (rkB J) := (hx2 0 hn0).trans hX0
        refine B_region ?_
        refine L_op (env' := uL25n133) rfl rfl (v_move (.inl rfl) rfl) rfl ?_
        refine L_op (env' := uL25n133) rfl rfl (v_move (.inl rfl) rfl) rfl ?_
        refine L_call rfl rfl rfl (by exact Drop_at _ _ hX2 hR.len _) ?_
        rintro _ _ ⟨rfl, rfl⟩
        refine L_env (env' := uL25n133) rfl ?_
        refine L_op (env' := uL25n133) rfl rfl (v_move (.inl rfl) rfl) rfl ?_
        refine L_op (env' := uL25n133) rfl rfl (v_is true rfl (by rw [hdr.1]; simp)) rfl ?_
        refine L_op (env' := uL25n133) rfl rfl (v_move (.inl rfl) rfl) rfl ?_
        refine L_op (env' := uL25n133) rfl rfl (v_move (.inl rfl) rfl) rfl ?_
        refine L_call rfl rfl rfl (by exact Links_spec _ _ (drJ J a) (get_app (j := 0) rfl (List.getElem?_set_self (lt_of_get hX2))) hR.drJ.len) ?_
        rintro _ _ ⟨rfl, rfl⟩
        refine L_env (env' := uL25n133) rfl ?_
        refine L_op (env' := uL25n133) rfl rfl (v_move (.inl rfl) rfl) rfl ?_
        refine L_call rfl rfl rfl (by exact Pairs_spec _ (lkL (drJ J a)) ((lkL J).filter (fun p => !isA a p)) (by omega)) ?_
        rintro _ _ ⟨rfl, rfl⟩
        refine L_env (env' := uL25n133) rfl ?_
        refine L_op (env' := uL25n133) rfl rfl (v_pickT rfl rfl rfl) rfl ?_
        refine L_op (env' := uL25n133) rfl rfl (v_move (.inr rfl) rfl) rfl ?_
        refine L_nil ?_
        refine K_seq ?_
        refine B_ret ?_
        refine E_app (.inr rfl) (vres_tmp rfl rfl) (by first | exact BaseOk.refl _ | exact BaseOk.set (BaseOk.refl _) _ rfl) (by first | rfl | simp [VVal.under, VVal.underL, *]) ?_
        exact ⟨by rw [decide_eq_true hdr.2], rfl⟩
    · try simp only [decide_eq_true_eq, decide_eq_false_iff_not, Bool.not_eq_true', Bool.not_eq_false', bne_iff_ne, beq_iff_eq, Bool.and_eq_true, Bool.or_eq_true, Bool.not_eq_true, ge_iff_le, gt_iff_lt, Int.not_le, Int.not_lt, beq_eq_false_iff_ne, bne_eq_false_iff_eq, ne_eq, Decidable.not_not, wd_zero, wd_one, wd_inj] at hc10
      refine B_skip ?_
      refine K_seq ?_
      refine B_seq ?_
      refine B_seq ?_
      try rw [show ovJ J a b = J from ov_no (by assumption)]
      refine B_region ?_
      refine L_op (env' := uL25n133) rfl rfl (v_move (.inl rfl) rfl) rfl ?_
      refine L_call rfl rfl rfl (by exact Links_spec _ _ J (get_app rfl rfl) hR.len) ?_
      rintro _ _ ⟨rfl, rfl⟩
      refine L_env (env' := uL25n133) rfl ?_
      refine L_op (env' := uL25n133) rfl rfl (v_move (.inl rfl) rfl) rfl ?_
      refine L_call rfl rfl rfl (by exact Pairs_spec _ _ _ (by omega)) ?_
      rintro _ _ ⟨rfl, rfl⟩
      refine L_env (env' := uL25n133) rfl ?_
      refine L_op (env' := uL25n133) rfl rfl (v_is false rfl (by simp)) rfl ?_
      refine L_nil ?_
      refine K_seq ?_
      refine B_false rfl rfl ?_
      refine B_skip ?_
      refine K_seq ?_
      refine B_seq ?_
      refine B_region ?_
      refine L_op (env' := uL25n133) rfl rfl (v_const (VVal.int .i64 0) (.inr rfl) rfl) rfl ?_
      refine L_nil ?_
      refine K_seq ?_
      refine B_seq ?_
      refine B_region ?_
      refine L_op (env' := uL25n133) rfl rfl (v_const (VVal.slice none 0 0 true 0) (.inr rfl) rfl) rfl ?_
      refine L_nil ?_
      refine K_seq ?_
      refine B_seq ?_
      refine B_seq ?_
      refine B_region ?_
      refine L_op (env' := uL25n133) rfl rfl (v_const (VVal.int .i64 0) (.inr rfl) rfl) rfl ?_
      refine L_nil ?_
      refine K_seq ?_
      refine B_block ?_
      refine B_clear (true :: false :: true :: true :: true :: true :: true :: false :: true :: false :: true :: false :: false :: false :: true :: true :: true :: true :: true :: true :: true :: true :: true :: true :: true :: true :: true :: true :: true :: true :: true :: true :: true :: true :: true :: true :: true :: true :: true :: true :: true :: true :: true :: true :: true :: true :: true :: true :: true :: true :: true :: true :: true :: true :: true :: true :: true :: true :: true :: true :: true :: true :: true :: true :: true :: true :: true :: true :: true :: true :: true :: true :: true :: true :: true :: true :: true :: true :: true :: true :: true :: true :: true :: true :: true :: true :: true :: true :: true :: true :: true :: true :: true :: true :: true :: true :: true :: true :: true :: true :: true :: true :: true :: true :: true :: true :: true :: true :: true :: true :: true :: true :: true :: true :: true :: true :: true :: true :: true :: true :: true :: true :: true :: true :: true :: true :: true :: true :: true :: true :: true :: true :: true :: []) (env' := uL25n133) rfl ?_
      refine B_loopE (fun (⟨i, lv⟩ : Nat × VVal) => (lkL J).length - i) (fun (⟨i, lv⟩ : Nat × VVal) => [(11, iI ((((lkL J).take i).countP (isA a) : Nat) : Int)), (12, lv), (13, iI (i : Nat))]) (fun (⟨i, lv⟩ : Nat × VVal) G => (i ≤ (lkL J).length) ∧ ∃ X, G = H ++ X ∧ X[0]? = some (rkB J) ∧ LV H.length 2 X lv ((((lkL J).take i).filter (fun p => !isA a p)).flatMap enP) (((lkL J).take i).filter (fun p => !isA a p)).length ∧ vidx lv ≠ some (H.length + 0)) ⟨0, _⟩ rfl ?_ ?_
      · refine ⟨?_, ⟨_, rfl, rfl, LV.nil _ _ _, by simp [vidx]⟩⟩
        exact Nat.zero_le _
      rintro ⟨i, lv⟩ _ ⟨hi, ⟨X, rfl, hX0, hl, hn0⟩⟩
      refine B_env (env' := uL25n133) rfl ?_
      refine B_seq ?_
      refine B_seq ?_
      refine B_region ?_
      refine L_op (env' := uL25n133) rfl rfl (v_move (.inl rfl) rfl) rfl ?_
      refine L_op (env' := uL25n133) rfl rfl (v_move (.inl rfl) rfl) rfl ?_
      refine L_op (env' := uL25n133) rfl rfl (rfl) rfl ?_
      refine L_op (env' := uL25n133) rfl rfl (rfl) rfl ?_
      refine L_nil ?_
      refine K_seq ?_
      refine B_cond _ rfl (fun hc14 => ?_) (fun hc14 => ?_)
      · try simp only [decide_eq_true_eq, decide_eq_false_iff_not, Bool.not_eq_true', Bool.not_eq_false', bne_iff_ne, beq_iff_eq, Bool.and_eq_true, Bool.or_eq_true, Bool.not_eq_true, ge_iff_le, gt_iff_lt, Int.not_le, Int.not_lt, beq_eq_false_iff_ne, bne_eq_false_iff_eq, ne_eq, Decidable.not_not, wd_zero, wd_one, wd_inj] at hc14
        refine B_skip ?_
        refine K_seq ?_
        refine B_seq ?_
        refine B_block ?_
        refine B_seq ?_
        refine B_region ?_
        refine L_op (env' := uL25n133) rfl rfl (v_move (.inl rfl) rfl) rfl ?_
        refine L_op (env' := uL25n133) rfl rfl (v_move (.inl rfl) rfl) rfl ?_
        refine L_op (env' := uL25n133) rfl rfl (by first | exact v_idxF rfl rfl rfl rfl rfl rfl rfl (by first | assumption | omega | (simp [*]; done) | (simp at *; omega)) | exact v_idx rfl rfl rfl rfl rfl rfl rfl (by first | assumption | omega | (simp [*]; done) | (simp at *; omega))) rfl ?_
        refine L_op (env' := uL25n133) rfl rfl (by first | exact v_idxFA rfl rfl rfl rfl rfl rfl (by first | assumption | omega | (simp [*]; done) | (simp at *; omega)) | exact v_idxA rfl rfl rfl rfl rfl rfl (by first | assumption | omega | (simp [*]; done) | (simp at *; omega))) rfl ?_
        refine L_op (env' := uL25n133) rfl rfl (by first | exact v_loadF rfl rfl rfl rfl (by first | exact op_c0 (by omega) | exact op_c1 (by omega) | exact op_c2 (by omega) | exact op_c3 (by omega) | exact op_c4 (by omega) | exact pair_c0 (by omega) | exact pair_c1 (by omega) | rfl) | exact v_load rfl rfl rfl rfl (by first | exact get_app rfl rfl | exact get_out (by assumption) | assumption | (simp [*]; done)) (by first | exact op_c0 (by omega) | exact op_c1 (by omega) | exact op_c2 (by omega) | exact op_c3 (by omega) | exact op_c4 (by omega) | exact pair_c0 (by omega) | exact pair_c1 (by omega) | rfl)) rfl ?_
        refine L_op (env' := uL25n133) rfl rfl (v_move (.inl rfl) rfl) rfl ?_
        refine L_op (env' := uL25n133) rfl rfl (rfl) rfl ?_
        refine L_op (env' := uL25n133) rfl rfl (v_move (.inl rfl) rfl) rfl ?_
        refine L_split 104 (env1 := uL25n133) (env2 := uL25n133) rfl rfl rfl (fun hg15 => ?_) (fun hg15 => ?_)
        · try simp only [decide_eq_true_eq, decide_eq_false_iff_not, Bool.not_eq_true', Bool.not_eq_false', bne_iff_ne, beq_iff_eq, Bool.and_eq_true, Bool.or_eq_true, Bool.not_eq_true, ge_iff_le, gt_iff_lt, Int.not_le, Int.not_lt, beq_eq_false_iff_ne, bne_eq_false_iff_eq, ne_eq, Decidable.not_not, wd_zero, wd_one, wd_inj] at hg15
          refine L_off (env' := uL25n133) rfl rfl ?_
          refine L_off (env' := uL25n133) rfl rfl ?_
          refine L_off (env' := uL25n133) rfl rfl ?_
          refine L_off (env' := uL25n133) rfl rfl ?_
          refine L_off (env' := uL25n133) rfl rfl ?_
          refine L_off (env' := uL25n133) rfl rfl ?_
          refine L_off (env' := uL25n133) rfl rfl ?_
          refine L_op (env' := uL25n133) rfl rfl (v_pickTC (VVal.bool true) rfl rfl rfl) rfl ?_
          refine L_nil ?_
          refine K_seq ?_
          refine B_true rfl rfl ?_
          refine B_region ?_
          refine L_op (env' := uL25n133) rfl rfl (v_move (.inl rfl) rfl) rfl ?_
          refine L_op (env' := uL25n133) rfl rfl (v_addI rfl rfl rfl (by have hq4 : (((lkL J).take i).countP (isA a)) ≤ ((lkL J).take i).length := List.countP_le_length; rw [List.length_take] at hq4; omega)) rfl ?_
          refine L_op (env' := uL25n133) rfl rfl (v_move (.inr rfl) rfl) rfl ?_
          refine L_nil ?_
          refine K_blk ?_
          refine K_seq ?_
          refine B_region ?_
          refine L_op (env' := uL25n133) rfl rfl (v_move (.inl rfl) rfl) rfl ?_
          refine L_op (env' := uL25n133) rfl rfl (v_addI rfl rfl rfl (by first | assumption | omega | (simp [*]; done) | (simp at *; omega))) rfl ?_
          refine L_op (env' := uL25n133) rfl rfl (v_move (.inr rfl) rfl) rfl ?_
          refine L_nil ?_
          first
            | (have hB := goA_yes (a := a) (l := lkL J) (i := i) (by omega) (isA1 (by assumption)); rw [hB.1])
            | (have hB := goA_yes (a := a) (l := lkL J) (i := i) (by omega) (isA2 (by assumption)); rw [hB.1])
            | (have hB := goA_no (a := a) (l := lkL J) (i := i) (by omega) (isA0 (by assumption) (by assumption)); rw [hB.1])
          refine K_loop (true :: false :: true :: true :: true :: true :: true :: false :: true :: false :: true :: false :: false :: false :: true :: true :: true :: true :: true :: true :: true :: true :: true :: true :: true :: true :: true :: true :: true :: true :: true :: true :: true :: true :: true :: true :: true :: true :: true :: true :: true :: true :: true :: true :: true :: true :: true :: true :: true :: true :: true :: true :: true :: true :: true :: true :: true :: true :: true :: true :: true :: true :: true :: true :: true :: true :: true :: true :: true :: true :: true :: true :: true :: true :: true :: true :: true :: true :: true :: true :: true :: true :: true :: true :: true :: true :: true :: true :: true :: true :: true :: true :: true :: true :: true :: true :: true :: true :: true :: true :: true :: true :: true :: true :: true :: true :: true :: true :: true :: true :: true :: true :: true :: true :: true :: true :: true :: true :: true :: true :: true :: true :: true :: true :: true :: true :: true :: true :: true :: true :: true :: true :: true :: []) (env' := uL25n133) rfl ⟨⟨i + 1, _⟩, ?_, rfl, ?_⟩
          · first | omega | (simp only []; omega)
          · first | exact ⟨by omega, _, rfl, hX0, by rw [hB.2]; exact hl, hn0⟩ | exact ⟨by omega, _, rfl, by rw [List.getElem?_append_left (by rw [hY1]; exact lt_of_get hX0), hY2 0 hn0]; exact hX0, by rw [hB.2]; exact LV.pair hY3, by simp [vidx]⟩
        · try simp only [decide_eq_true_eq, decide_eq_false_iff_not, Bool.not_eq_true', Bool.not_eq_false', bne_iff_ne, beq_iff_eq, Bool.and_eq_true, Bool.or_eq_true, Bool.not_eq_true, ge_iff_le, gt_iff_lt, Int.not_le, Int.not_lt, beq_eq_false_iff_ne, bne_eq_false_iff_eq, ne_eq, Decidable.not_not, wd_zero, wd_one, wd_inj] at hg15
          refine L_op (env' := uL25n133) rfl rfl (v_move (.inl rfl) rfl) rfl ?_
          refine L_op (env' := uL25n133) rfl rfl (v_move (.inl rfl) rfl) rfl ?_
          refine L_op (env' := uL25n133) rfl rfl (by first | exact v_idxF rfl rfl rfl rfl rfl rfl rfl (by first | assumption | omega | (simp [*]; done) | (simp at *; omega)) | exact v_idx rfl rfl rfl rfl rfl rfl rfl (by first | assumption | omega | (simp [*]; done) | (simp at *; omega))) rfl ?_
          refine L_op (env' := uL25n133) rfl rfl (by first | exact v_idxFA rfl rfl rfl rfl rfl rfl (by first | assumption | omega | (simp [*]; done) | (simp at *; omega)) | exact v_idxA rfl rfl rfl rfl rfl rfl (by first | assumption | omega | (simp [*]; done) | (simp at *; omega))) rfl ?_
          refine L_op (env' := uL25n133) rfl rfl (by first | exact v_loadF rfl rfl rfl rfl (by first | exact op_c0 (by omega) | exact op_c1 (by omega) | exact op_c2 (by omega) | exact op_c3 (by omega) | exact op_c4 (by omega) | exact pair_c0 (by omega) | exact pair_c1 (by omega) | rfl) | exact v_load rfl rfl rfl rfl (by first | exact get_app rfl rfl | exact get_out (by assumption) | assumption | (simp [*]; done)) (by first | exact op_c0 (by omega) | exact op_c1 (by omega) | exact op_c2 (by omega) | exact op_c3 (by omega) | exact op_c4 (by omega) | exact pair_c0 (by omega) | exact pair_c1 (by omega) | rfl)) rfl ?_
          refine L_op (env' := uL25n133) rfl rfl (v_move (.inl rfl) rfl) rfl ?_
          refine L_op (env' := uL25n133) rfl rfl (rfl) rfl ?_
          refine L_op (env' := uL25n133) rfl rfl (v_pickF rfl rfl rfl) rfl ?_
          refine L_nil ?_
          refine K_seq ?_
          refine B_cond _ rfl (fun hc16 => ?_) (fun hc16 => ?_)
          · try simp only [decide_eq_true_eq, decide_eq_false_iff_not, Bool.not_eq_true', Bool.not_eq_false', bne_iff_ne, beq_iff_eq, Bool.and_eq_true, Bool.or_eq_true, Bool.not_eq_true, ge_iff_le, gt_iff_lt, Int.not_le, Int.not_lt, beq_eq_false_iff_ne, bne_eq_false_iff_eq, ne_eq, Decidable.not_not, wd_zero, wd_one, wd_inj] at hc16
            refine B_region ?_
            refine L_op (env' := uL25n133) rfl rfl (v_move (.inl rfl) rfl) rfl ?_
            refine L_op (env' := uL25n133) rfl rfl (v_addI rfl rfl rfl (by have hq4 : (((lkL J).take i).countP (isA a)) ≤ ((lkL J).take i).length := List.countP_le_length; rw [List.length_take] at hq4; omega)) rfl ?_
            refine L_op (env' := uL25n133) rfl rfl (v_move (.inr rfl) rfl) rfl ?_
            refine L_nil ?_
            refine K_blk ?_
            refine K_seq ?_
            refine B_region ?_
            refine L_op (env' := uL25n133) rfl rfl (v_move (.inl rfl) rfl) rfl ?_
            refine L_op (env' := uL25n133) rfl rfl (v_addI rfl rfl rfl (by first | assumption | omega | (simp [*]; done) | (simp at *; omega))) rfl ?_
            refine L_op (env' := uL25n133) rfl rfl (v_move (.inr rfl) rfl) rfl ?_
            refine L_nil ?_
            first
              | (have hB := goA_yes (a := a) (l := lkL J) (i := i) (by omega) (isA1 (by assumption)); rw [hB.1])
              | (have hB := goA_yes (a := a) (l := lkL J) (i := i) (by omega) (isA2 (by assumption)); rw [hB.1])
              | (have hB := goA_no (a := a) (l := lkL J) (i := i) (by omega) (isA0 (by assumption) (by assumption)); rw [hB.1])
            refine K_loop (true :: false :: true :: true :: true :: true :: true :: false :: true :: false :: true :: false :: false :: false :: true :: true :: true :: true :: true :: true :: true :: true :: true :: true :: true :: true :: true :: true :: true :: true :: true :: true :: true :: true :: true :: true :: true :: true :: true :: true :: true :: true :: true :: true :: true :: true :: true :: true :: true :: true :: true :: true :: true :: true :: true :: true :: true :: true :: true :: true :: true :: true :: true :: true :: true :: true :: true :: true :: true :: true :: true :: true :: true :: true :: true :: true :: true :: true :: true :: true :: true :: true :: true :: true :: true :: true :: true :: true :: true :: true :: true :: true :: true :: true :: true :: true :: true :: true :: true :: true :: true :: true :: true :: true :: true :: true :: true :: true :: true :: true :: true :: true :: true :: true :: true :: true :: true :: true :: true :: true :: true :: true :: true :: true :: true :: true :: true :: true :: true :: true :: true :: true :: true :: []) (env' := uL25n133) rfl ⟨⟨i + 1, _⟩, ?_, rfl, ?_⟩
            · first | omega | (simp only []; omega)
            · first | exact ⟨by omega, _, rfl, hX0, by rw [hB.2]; exact hl, hn0⟩ | exact ⟨by omega, _, rfl, by rw [List.getElem?_append_left (by rw [hY1]; exact lt_of_get hX0), hY2 0 hn0]; exact hX0, by rw [hB.2]; exact LV.pair hY3, by simp [vidx]⟩
          · try simp only [decide_eq_true_eq, decide_eq_false_iff_not, Bool.not_eq_true', Bool.not_eq_false', bne_iff_ne, beq_iff_eq, Bool.and_eq_true, Bool.or_eq_true, Bool.not_eq_true, ge_iff_le, gt_iff_lt, Int.not_le, Int.not_lt, beq_eq_false_iff_ne, bne_eq_false_iff_eq, ne_eq, Decidable.not_not, wd_zero, wd_one, wd_inj] at hc16
            refine B_region ?_
            refine L_op (env' := uL25n133) rfl rfl (v_move (.inl rfl) rfl) rfl ?_
            refine L_op (env' := uL25n133) rfl rfl (v_move (.inl rfl) rfl) rfl ?_
            refine L_op (env' := uL25n133) rfl rfl (v_move (.inl rfl) rfl) rfl ?_
            refine L_op (env' := uL25n133) rfl rfl (by first | exact v_idxF rfl rfl rfl rfl rfl rfl rfl (by first | assumption | omega | (simp [*]; done) | (simp at *; omega)) | exact v_idx rfl rfl rfl rfl rfl rfl rfl (by first | assumption | omega | (simp [*]; done) | (simp at *; omega))) rfl ?_
            refine L_op (env' := uL25n133) rfl rfl (by first | exact v_loadFA rfl rfl rfl rfl (by exact pair_at (by omega)) | exact v_loadA rfl rfl rfl rfl (by first | exact get_app rfl rfl | exact get_out (by assumption) | assumption | (simp [*]; done)) (by exact pair_at (by omega))) rfl ?_
            refine L_op (env' := uL25n133) rfl rfl (v_buildSlice rfl rfl (by decide) rfl) rfl ?_
            refine L_opX rfl rfl (v_appX rfl rfl rfl rfl rfl rfl rfl hl rfl rfl (by decide) (by have hq3 : (((lkL J).take i).filter (fun p => !isA a p)).length ≤ ((lkL J).take i).length := List.length_filter_le _ _; rw [List.length_take] at hq3; show (_ + 1) * 16 ≤ _ ∧ _ + 1 ≤ _; omega) (by decide)) ?_
            rintro _ _ ⟨Y1, rfl, rfl, hY1, hY2, hY3⟩
            refine L_env (env' := uL25n133) rfl ?_
            refine L_op (env' := uL25n133) rfl rfl (v_move (.inr rfl) rfl) rfl ?_
            refine L_nil ?_
            refine K_blk ?_
            refine K_seq ?_
            refine B_region ?_
            refine L_op (env' := uL25n133) rfl rfl (v_move (.inl rfl) rfl) rfl ?_
            refine L_op (env' := uL25n133) rfl rfl (v_addI rfl rfl rfl (by first | assumption | omega | (simp [*]; done) | (simp at *; omega))) rfl ?_
            refine L_op (env' := uL25n133) rfl rfl (v_move (.inr rfl) rfl) rfl ?_
            refine L_nil ?_
            first
              | (have hB := goA_yes (a := a) (l := lkL J) (i := i) (by omega) (isA1 (by assumption)); rw [hB.1])
              | (have hB := goA_yes (a := a) (l := lkL J) (i := i) (by omega) (isA2 (by assumption)); rw [hB.1])
              | (have hB := goA_no (a := a) (l := lkL J) (i := i) (by omega) (isA0 (by assumption) (by assumption)); rw [hB.1])
            refine K_loop (true :: false :: true :: true :: true :: true :: true :: false :: true :: false :: true :: false :: false :: false :: true :: true :: true :: true :: true :: true :: true :: true :: true :: true :: true :: true :: true :: true :: true :: true :: true :: true :: true :: true :: true :: true :: true :: true :: true :: true :: true :: true :: true :: true :: true :: true :: true :: true :: true :: true :: true :: true :: true :: true :: true :: true :: true :: true :: true :: true :: true :: true :: true :: true :: true :: true :: true :: true :: true :: true :: true :: true :: true :: true :: true :: true :: true :: true :: true :: true :: true :: true :: true :: true :: true :: true :: true :: true :: true :: true :: true :: true :: true :: true :: true :: true :: true :: true :: true :: true :: true :: true :: true :: true :: true :: true :: true :: true :: true :: true :: true :: true :: true :: true :: true :: true :: true :: true :: true :: true :: true :: true :: true :: true :: true :: true :: true :: true :: true :: true :: true :: true :: true :: []) (env' := uL25n133) rfl ⟨⟨i + 1, _⟩, ?_, rfl, ?_⟩
            · first | omega | (simp only []; omega)
            · first | exact ⟨by omega, _, rfl, hX0, by rw [hB.2]; exact hl, hn0⟩ | exact ⟨by omega, _, rfl, by rw [List.getElem?_append_left (by rw [hY1]; exact lt_of_get hX0), hY2 0 hn0]; exact hX0, by rw [hB.2]; exact LV.pair hY3, by simp [vidx]⟩
      · try simp only [decide_eq_true_eq, decide_eq_false_iff_not, Bool.not_eq_true', Bool.not_eq_false', bne_iff_ne, beq_iff_eq, Bool.and_eq_true, Bool.or_eq_true, Bool.not_eq_true, ge_iff_le, gt_iff_lt, Int.not_le, Int.not_lt, beq_eq_false_iff_ne, bne_eq_false_iff_eq, ne_eq, Decidable.not_not, wd_zero, wd_one, wd_inj] at hc14
        refine B_exit ?_
        refine K_seqX ?_
        refine K_loopX ?_
        refine K_blkX ?_
        refine K_seq ?_
        refine B_seq ?_
        obtain rfl : i = (lkL J).length := by omega
        rw [List.take_length] at hl ⊢
        have hdr := drop_is hR a
        have hll2 : (lkL (drJ J a)).length ≤ 4096 := @lkTo_len _ 64
        refine B_ghLV (env' := uL25n133) 12 hl rfl rfl fun X2 hx1 hx2 => ?_
        have hX2 : X2[0]? = some (rkB J) := (hx2 0 hn0).trans hX0
        refine B_region ?_
        refine L_op (env' := uL25n133) rfl rfl (v_move (.inl rfl) rfl) rfl ?_
        refine L_op (env' := uL25n133) rfl rfl (v_move (.inl rfl) rfl) rfl ?_
        refine L_call rfl rfl rfl (by exact Drop_at _ _ hX2 hR.len _) ?_
        rintro _ _ ⟨rfl, rfl⟩
        refine L_env (env' := uL25n133) rfl ?_
        refine L_op (env' := uL25n133) rfl rfl (v_move (.inl rfl) rfl) rfl ?_
        refine L_op (env' := uL25n133) rfl rfl (v_is true rfl (by rw [hdr.1]; simp)) rfl ?_
        refine L_op (env' := uL25n133) rfl rfl (v_move (.inl rfl) rfl) rfl ?_
        refine L_op (env' := uL25n133) rfl rfl (v_move (.inl rfl) rfl) rfl ?_
        refine L_call rfl rfl rfl (by exact Links_spec _ _ (drJ J a) (get_app (j := 0) rfl (List.getElem?_set_self (lt_of_get hX2))) hR.drJ.len) ?_
        rintro _ _ ⟨rfl, rfl⟩
        refine L_env (env' := uL25n133) rfl ?_
        refine L_op (env' := uL25n133) rfl rfl (v_move (.inl rfl) rfl) rfl ?_
        refine L_call rfl rfl rfl (by exact Pairs_spec _ (lkL (drJ J a)) ((lkL J).filter (fun p => !isA a p)) (by omega)) ?_
        rintro _ _ ⟨rfl, rfl⟩
        refine L_env (env' := uL25n133) rfl ?_
        refine L_op (env' := uL25n133) rfl rfl (v_pickT rfl rfl rfl) rfl ?_
        refine L_op (env' := uL25n133) rfl rfl (v_move (.inr rfl) rfl) rfl ?_
        refine L_nil ?_
        refine K_seq ?_
        refine B_ret ?_
        refine E_app (.inr rfl) (vres_tmp rfl rfl) (by first | exact BaseOk.refl _ | exact BaseOk.set (BaseOk.refl _) _ rfl) (by first | rfl | simp [VVal.under, VVal.underL, *]) ?_
        exact ⟨by rw [decide_eq_true hdr.2], rfl⟩

theorem RankGoes_law {x : SW} (ops : List OpT) (hl : ops.length * 40 ≤ 140737488351232) (a b : Int) : F (psys x) 8 [fzO ops, iI a, iI b] [] fun v G => v = .bool true := by
  have hl : ops.length * 40 ≤ 140737488355328 := by omega
  exact (RankGoes_walk [] ops hl a b).mono fun v G h => h.1
end Go.Proofs.YteocbhgdmpdklaaDoor.VT
