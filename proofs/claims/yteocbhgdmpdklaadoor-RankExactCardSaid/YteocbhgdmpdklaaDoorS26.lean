/- the document's hierarchy: what reads; walks -/
import Derived.Test.YteocbhgdmpdklaaDoorS24
import Derived.Test.YteocbhgdmpdklaaDoorP18
set_option autoImplicit false
set_option linter.unusedVariables false
set_option linter.unusedSimpArgs false
set_option maxHeartbeats 4000000
set_option maxRecDepth 100000
namespace Go.Proofs.YteocbhgdmpdklaaDoor.VT
open Go Go.V Go.RowKit

abbrev uS26n9 {a0 a1 a2 a3 a4 a5 a6 a7 a8 : VVal} : VEnv := a0 :: a1 :: a2 :: a3 :: a4 :: a5 :: a6 :: a7 :: a8 :: []
abbrev uS26n22 {a0 a1 a2 a3 a4 a5 a6 a7 a8 a9 a10 a11 a12 a13 a14 a15 a16 a17 a18 a19 a20 a21 : VVal} : VEnv := a0 :: a1 :: a2 :: a3 :: a4 :: a5 :: a6 :: a7 :: a8 :: a9 :: a10 :: a11 :: a12 :: a13 :: a14 :: a15 :: a16 :: a17 :: a18 :: a19 :: a20 :: a21 :: []
abbrev uS26n25 {a0 a1 a2 a3 a4 a5 a6 a7 a8 a9 a10 a11 a12 a13 a14 a15 a16 a17 a18 a19 a20 a21 a22 a23 a24 : VVal} : VEnv := a0 :: a1 :: a2 :: a3 :: a4 :: a5 :: a6 :: a7 :: a8 :: a9 :: a10 :: a11 :: a12 :: a13 :: a14 :: a15 :: a16 :: a17 :: a18 :: a19 :: a20 :: a21 :: a22 :: a23 :: a24 :: []
abbrev uS26n27 {a0 a1 a2 a3 a4 a5 a6 a7 a8 a9 a10 a11 a12 a13 a14 a15 a16 a17 a18 a19 a20 a21 a22 a23 a24 a25 a26 : VVal} : VEnv := a0 :: a1 :: a2 :: a3 :: a4 :: a5 :: a6 :: a7 :: a8 :: a9 :: a10 :: a11 :: a12 :: a13 :: a14 :: a15 :: a16 :: a17 :: a18 :: a19 :: a20 :: a21 :: a22 :: a23 :: a24 :: a25 :: a26 :: []
abbrev uS26n39 {a0 a1 a2 a3 a4 a5 a6 a7 a8 a9 a10 a11 a12 a13 a14 a15 a16 a17 a18 a19 a20 a21 a22 a23 a24 a25 a26 a27 a28 a29 a30 a31 a32 a33 a34 a35 a36 a37 a38 : VVal} : VEnv := a0 :: a1 :: a2 :: a3 :: a4 :: a5 :: a6 :: a7 :: a8 :: a9 :: a10 :: a11 :: a12 :: a13 :: a14 :: a15 :: a16 :: a17 :: a18 :: a19 :: a20 :: a21 :: a22 :: a23 :: a24 :: a25 :: a26 :: a27 :: a28 :: a29 :: a30 :: a31 :: a32 :: a33 :: a34 :: a35 :: a36 :: a37 :: a38 :: []
abbrev uS26n61 {a0 a1 a2 a3 a4 a5 a6 a7 a8 a9 a10 a11 a12 a13 a14 a15 a16 a17 a18 a19 a20 a21 a22 a23 a24 a25 a26 a27 a28 a29 a30 a31 a32 a33 a34 a35 a36 a37 a38 a39 a40 a41 a42 a43 a44 a45 a46 a47 a48 a49 a50 a51 a52 a53 a54 a55 a56 a57 a58 a59 a60 : VVal} : VEnv := a0 :: a1 :: a2 :: a3 :: a4 :: a5 :: a6 :: a7 :: a8 :: a9 :: a10 :: a11 :: a12 :: a13 :: a14 :: a15 :: a16 :: a17 :: a18 :: a19 :: a20 :: a21 :: a22 :: a23 :: a24 :: a25 :: a26 :: a27 :: a28 :: a29 :: a30 :: a31 :: a32 :: a33 :: a34 :: a35 :: a36 :: a37 :: a38 :: a39 :: a40 :: a41 :: a42 :: a43 :: a44 :: a45 :: a46 :: a47 :: a48 :: a49 :: a50 :: a51 :: a52 :: a53 :: a54 :: a55 :: a56 :: a57 :: a58 :: a59 :: a60 :: []
abbrev uS26n75 {a0 a1 a2 a3 a4 a5 a6 a7 a8 a9 a10 a11 a12 a13 a14 a15 a16 a17 a18 a19 a20 a21 a22 a23 a24 a25 a26 a27 a28 a29 a30 a31 a32 a33 a34 a35 a36 a37 a38 a39 a40 a41 a42 a43 a44 a45 a46 a47 a48 a49 a50 a51 a52 a53 a54 a55 a56 a57 a58 a59 a60 a61 a62 a63 a64 a65 a66 a67 a68 a69 a70 a71 a72 a73 a74 : VVal} : VEnv := a0 :: a1 :: a2 :: a3 :: a4 :: a5 :: a6 :: a7 :: a8 :: a9 :: a10 :: a11 :: a12 :: a13 :: a14 :: a15 :: a16 :: a17 :: a18 :: a19 :: a20 :: a21 :: a22 :: a23 :: a24 :: a25 :: a26 :: a27 :: a28 :: a29 :: a30 :: a31 :: a32 :: a33 :: a34 :: a35 :: a36 :: a37 :: a38 :: a39 :: a40 :: a41 :: a42 :: a43 :: a44 :: a45 :: a46 :: a47 :: a48 :: a49 :: a50 :: a51 :: a52 :: a53 :: a54 :: a55 :: a56 :: a57 :: a58 :: a59 :: a60 :: a61 :: a62 :: a63 :: a64 :: a65 :: a66 :: a67 :: a68 :: a69 :: a70 :: a71 :: a72 :: a73 :: a74 :: []

/-- the document's hierarchy: a pointer to a cell with the list -/
structure RL (H : VHeap) (q : Nat) (L : List (Int × Int)) (v : VVal) : Prop where
  c : H[q]? = some (.cells [v] true)
  l : LV 0 2 H v (L.flatMap enP) L.length
  n : vidx v ≠ some q
theorem v_idxRL {T : TypeId → Option VTy} {ρ : Operand → VVal} {H X : VHeap} {op : Op} {t e : TypeId} {x i : Operand} {y z : VTy} {v : VVal} {cs : List VVal} {len : Nat} {k : IntKind} {n : Int} (ho : op = .indexAddr t x i) (hx : ρ x = v) (hi : ρ i = .int k n) (hy : T t = some y) (hd : y.desc = .slice e) (hz : T e = some z) (hs : z.size = 2)
    (l : LV 0 2 H v cs len) (hn : 0 ≤ n ∧ n < len) : ∃ u G, vop T ρ (H ++ X) op = some (u, G) ∧ ∃ b, u = .ptr (some (b, 0 + n.toNat * 2)) ∧ G = H ++ X ∧ H[b]? = some (.cells cs true) := by
  rcases l.2 with ⟨rfl, _⟩ | ⟨hl, b, rfl, hb⟩
  · omega
  · refine ⟨_, _, ?_, b, rfl, rfl, hb⟩
    rw [ho]; simp only [vop, vindexAddr, hx, hi, hy, hd, hz, hs, hn, and_self, if_true, Option.map_some, Nat.zero_add]
theorem sh_not0 {d : BitVec 64} {k : Nat} (h : ¬ d >>> k &&& 1#64 = 0#64) : d.getLsbD k = true := by rw [sh0] at h; simpa using h
theorem pairs_c0 {l : List (Int × Int)} {n : Int} (h : 0 ≤ n ∧ n < l.length) : (l.flatMap enP)[0 + n.toNat * 2 + 0]? = some (iI (l.getD n.toNat (0, 0)).1) := by rw [Nat.zero_add]; exact pair_c0 h
theorem pairs_c1 {l : List (Int × Int)} {n : Int} (h : 0 ≤ n ∧ n < l.length) : (l.flatMap enP)[0 + n.toNat * 2 + 1]? = some (iI (l.getD n.toNat (0, 0)).2) := by rw [Nat.zero_add]; exact pair_c1 h
theorem pairs_at {l : List (Int × Int)} {n : Int} (h : 0 ≤ n ∧ n < l.length) : cellsAt (l.flatMap enP) (0 + n.toNat * 2) 2 = some (enP (l.getD n.toNat (0, 0))) := by rw [Nat.zero_add]; exact pair_at h

theorem rHas_spec {x : SW} (H : VHeap) (q : Nat) (L : List (Int × Int)) (v : VVal) (hr : RL H q L v) (hL : L.length ≤ 1000000) (a b : Int) : F (psys x) 77 [.ptr (some (q, 0)), iI a, iI b] H fun u G => u = .bool (hasL L a b) ∧ G = H := by
  refine F_body Tryd.func77 rfl uS26n39 rfl ?_
  refine B_seq ?_
  refine B_region ?_
  refine L_op (env' := uS26n39) rfl rfl (v_const (VVal.bool false) (.inr rfl) rfl) rfl ?_
  refine L_nil ?_
  refine K_seq ?_
  refine B_seq ?_
  refine B_seq ?_
  refine B_region ?_
  refine L_op (env' := uS26n39) rfl rfl (v_const (VVal.int .i64 0) (.inr rfl) rfl) rfl ?_
  refine L_nil ?_
  refine K_seq ?_
  refine B_block ?_
  refine B_clear [false,false,false,true,true,true,true,false,true,true,true,true,true,true,true,true,true,true,true,true,true,true,true,true,true,true,true,true,true,true,true,true,true,true,true,true,true,true,true] (env' := uS26n39) rfl ?_
  refine B_loopE (fun (k : Nat) => L.length - k) (fun (k : Nat) => [(7, iI (k : Nat))]) (fun (k : Nat) G => (k ≤ L.length ∧ ∀ j, j < k → ¬ ((L.getD j (0, 0)).1 = a ∧ (L.getD j (0, 0)).2 = b)) ∧ G = H ++ []) 0 rfl ?_ ?_
  · refine ⟨?_, rfl⟩
    exact ⟨Nat.zero_le _, fun j h => by omega⟩
  rintro k _ ⟨⟨hk, hno⟩, rfl⟩
  refine B_env (env' := uS26n39) rfl ?_
  refine B_seq ?_
  refine B_seq ?_
  refine B_region ?_
  refine L_op (env' := uS26n39) rfl rfl (v_move (.inl rfl) rfl) rfl ?_
  refine L_op (env' := uS26n39) rfl rfl (v_move (.inl rfl) rfl) rfl ?_
  refine L_op (env' := uS26n39) rfl rfl (rfl) rfl ?_
  refine L_op (env' := uS26n39) rfl rfl (rfl) rfl ?_
  refine L_op (env' := uS26n39) rfl rfl (by first | exact v_loadF rfl rfl rfl rfl (by first | rfl | exact pairs_c0 (by omega) | exact pairs_c1 (by omega)) | exact v_load rfl rfl rfl rfl (by first | exact get_out hr.c | exact get_out hb1 | exact get_out hb2 | exact get_out hb3 | exact get_app rfl rfl) (by first | rfl | exact pairs_c0 (by omega) | exact pairs_c1 (by omega))) rfl ?_
  refine L_op (env' := uS26n39) rfl rfl (v_len rfl rfl rfl rfl hr.l) rfl ?_
  refine L_op (env' := uS26n39) rfl rfl (rfl) rfl ?_
  refine L_nil ?_
  refine K_seq ?_
  refine B_cond _ rfl (fun hc1 => ?_) (fun hc1 => ?_)
  · try simp only [decide_eq_true_eq, decide_eq_false_iff_not, Bool.not_eq_true', Bool.not_eq_false', bne_iff_ne, beq_iff_eq, Bool.and_eq_true, Bool.or_eq_true, Bool.not_eq_true, ge_iff_le, gt_iff_lt, Int.not_le, Int.not_lt, beq_eq_false_iff_ne, bne_eq_false_iff_eq, ne_eq, Decidable.not_not, wd_zero, wd_one, wd_inj] at hc1
    refine B_skip ?_
    refine K_seq ?_
    refine B_seq ?_
    refine B_block ?_
    refine B_seq ?_
    refine B_region ?_
    refine L_op (env' := uS26n39) rfl rfl (v_move (.inl rfl) rfl) rfl ?_
    refine L_op (env' := uS26n39) rfl rfl (rfl) rfl ?_
    refine L_op (env' := uS26n39) rfl rfl (rfl) rfl ?_
    refine L_op (env' := uS26n39) rfl rfl (by first | exact v_loadF rfl rfl rfl rfl (by first | rfl | exact pairs_c0 (by omega) | exact pairs_c1 (by omega)) | exact v_load rfl rfl rfl rfl (by first | exact get_out hr.c | exact get_out hb1 | exact get_out hb2 | exact get_out hb3 | exact get_app rfl rfl) (by first | rfl | exact pairs_c0 (by omega) | exact pairs_c1 (by omega))) rfl ?_
    refine L_op (env' := uS26n39) rfl rfl (v_move (.inl rfl) rfl) rfl ?_
    refine L_opX rfl rfl (v_idxRL rfl rfl rfl rfl rfl rfl rfl hr.l (by omega)) ?_
    rintro _ _ ⟨b1, rfl, rfl, hb1⟩
    refine L_env (env' := uS26n39) rfl ?_
    refine L_op (env' := uS26n39) rfl rfl (by first | exact v_idxFA rfl rfl rfl rfl rfl rfl (by first | assumption | omega | (simp [*]; done) | (simp at *; omega)) | exact v_idxA rfl rfl rfl rfl rfl rfl (by first | assumption | omega | (simp [*]; done) | (simp at *; omega))) rfl ?_
    refine L_op (env' := uS26n39) rfl rfl (by first | exact v_loadF rfl rfl rfl rfl (by first | rfl | exact pairs_c0 (by omega) | exact pairs_c1 (by omega)) | exact v_load rfl rfl rfl rfl (by first | exact get_out hr.c | exact get_out hb1 | exact get_out hb2 | exact get_out hb3 | exact get_app rfl rfl) (by first | rfl | exact pairs_c0 (by omega) | exact pairs_c1 (by omega))) rfl ?_
    refine L_op (env' := uS26n39) rfl rfl (v_move (.inl rfl) rfl) rfl ?_
    refine L_op (env' := uS26n39) rfl rfl (rfl) rfl ?_
    refine L_op (env' := uS26n39) rfl rfl (v_move (.inl rfl) rfl) rfl ?_
    refine L_split 27 (env1 := uS26n39) (env2 := uS26n39) rfl rfl rfl (fun hg2 => ?_) (fun hg2 => ?_)
    · try simp only [decide_eq_true_eq, decide_eq_false_iff_not, Bool.not_eq_true', Bool.not_eq_false', bne_iff_ne, beq_iff_eq, Bool.and_eq_true, Bool.or_eq_true, Bool.not_eq_true, ge_iff_le, gt_iff_lt, Int.not_le, Int.not_lt, beq_eq_false_iff_ne, bne_eq_false_iff_eq, ne_eq, Decidable.not_not, wd_zero, wd_one, wd_inj] at hg2
      refine L_op (env' := uS26n39) rfl rfl (v_move (.inl rfl) rfl) rfl ?_
      refine L_op (env' := uS26n39) rfl rfl (rfl) rfl ?_
      refine L_op (env' := uS26n39) rfl rfl (rfl) rfl ?_
      refine L_op (env' := uS26n39) rfl rfl (by first | exact v_loadF rfl rfl rfl rfl (by first | rfl | exact pairs_c0 (by omega) | exact pairs_c1 (by omega)) | exact v_load rfl rfl rfl rfl (by first | exact get_out hr.c | exact get_out hb1 | exact get_out hb2 | exact get_out hb3 | exact get_app rfl rfl) (by first | rfl | exact pairs_c0 (by omega) | exact pairs_c1 (by omega))) rfl ?_
      refine L_op (env' := uS26n39) rfl rfl (v_move (.inl rfl) rfl) rfl ?_
      refine L_opX rfl rfl (v_idxRL rfl rfl rfl rfl rfl rfl rfl hr.l (by omega)) ?_
      rintro _ _ ⟨b2, rfl, rfl, hb2⟩
      refine L_env (env' := uS26n39) rfl ?_
      refine L_op (env' := uS26n39) rfl rfl (by first | exact v_idxFA rfl rfl rfl rfl rfl rfl (by first | assumption | omega | (simp [*]; done) | (simp at *; omega)) | exact v_idxA rfl rfl rfl rfl rfl rfl (by first | assumption | omega | (simp [*]; done) | (simp at *; omega))) rfl ?_
      refine L_op (env' := uS26n39) rfl rfl (by first | exact v_loadF rfl rfl rfl rfl (by first | rfl | exact pairs_c0 (by omega) | exact pairs_c1 (by omega)) | exact v_load rfl rfl rfl rfl (by first | exact get_out hr.c | exact get_out hb1 | exact get_out hb2 | exact get_out hb3 | exact get_app rfl rfl) (by first | rfl | exact pairs_c0 (by omega) | exact pairs_c1 (by omega))) rfl ?_
      refine L_op (env' := uS26n39) rfl rfl (v_move (.inl rfl) rfl) rfl ?_
      refine L_op (env' := uS26n39) rfl rfl (rfl) rfl ?_
      refine L_op (env' := uS26n39) rfl rfl (v_pickT rfl rfl rfl) rfl ?_
      refine L_nil ?_
      refine K_seq ?_
      refine B_cond _ rfl (fun hc3 => ?_) (fun hc3 => ?_)
      · try simp only [decide_eq_true_eq, decide_eq_false_iff_not, Bool.not_eq_true', Bool.not_eq_false', bne_iff_ne, beq_iff_eq, Bool.and_eq_true, Bool.or_eq_true, Bool.not_eq_true, ge_iff_le, gt_iff_lt, Int.not_le, Int.not_lt, beq_eq_false_iff_ne, bne_eq_false_iff_eq, ne_eq, Decidable.not_not, wd_zero, wd_one, wd_inj] at hc3
        refine B_seq ?_
        refine B_region ?_
        refine L_op (env' := uS26n39) rfl rfl (v_const (VVal.bool true) (.inr rfl) rfl) rfl ?_
        refine L_nil ?_
        refine K_seq ?_
        refine B_ret ?_
        refine K_blkR ?_
        refine K_seqR ?_
        refine K_loopR ?_
        refine K_blkR ?_
        refine K_seqR ?_
        refine E_app (.inr rfl) (vres_tmp rfl rfl) (by first | exact BaseOk.refl _ | exact BaseOk.set (BaseOk.refl _) _ rfl) (by first | rfl | simp [VVal.under, VVal.underL, *]) ?_
        first
          | exact ⟨by rw [hasL_at (L := L) (i := k) (by omega) (by assumption) (by assumption)], rfl⟩
          | exact ⟨by rw [hasL_no fun j hj => hno j (by omega)], rfl⟩
      · try simp only [decide_eq_true_eq, decide_eq_false_iff_not, Bool.not_eq_true', Bool.not_eq_false', bne_iff_ne, beq_iff_eq, Bool.and_eq_true, Bool.or_eq_true, Bool.not_eq_true, ge_iff_le, gt_iff_lt, Int.not_le, Int.not_lt, beq_eq_false_iff_ne, bne_eq_false_iff_eq, ne_eq, Decidable.not_not, wd_zero, wd_one, wd_inj] at hc3
        refine B_skip ?_
        refine K_blk ?_
        refine K_seq ?_
        refine B_region ?_
        refine L_op (env' := uS26n39) rfl rfl (v_move (.inl rfl) rfl) rfl ?_
        refine L_op (env' := uS26n39) rfl rfl (v_addI rfl rfl rfl (by first | assumption | omega | (simp [*]; done) | (simp at *; omega))) rfl ?_
        refine L_op (env' := uS26n39) rfl rfl (v_move (.inr rfl) rfl) rfl ?_
        refine L_nil ?_
        refine K_loop [false,false,false,true,true,true,true,false,true,true,true,true,true,true,true,true,true,true,true,true,true,true,true,true,true,true,true,true,true,true,true,true,true,true,true,true,true,true,true] (env' := uS26n39) rfl ⟨k + 1, ?_, rfl, ?_⟩
        · first | omega | (simp only []; omega)
        · exact ⟨⟨by omega, fun j hj => by by_cases e : j = k; (subst e; intro h; first | exact absurd h.1 (by assumption) | exact absurd h.2 (by assumption)); exact hno j (by omega)⟩, rfl⟩
    · try simp only [decide_eq_true_eq, decide_eq_false_iff_not, Bool.not_eq_true', Bool.not_eq_false', bne_iff_ne, beq_iff_eq, Bool.and_eq_true, Bool.or_eq_true, Bool.not_eq_true, ge_iff_le, gt_iff_lt, Int.not_le, Int.not_lt, beq_eq_false_iff_ne, bne_eq_false_iff_eq, ne_eq, Decidable.not_not, wd_zero, wd_one, wd_inj] at hg2
      refine L_off (env' := uS26n39) rfl rfl ?_
      refine L_off (env' := uS26n39) rfl rfl ?_
      refine L_off (env' := uS26n39) rfl rfl ?_
      refine L_off (env' := uS26n39) rfl rfl ?_
      refine L_off (env' := uS26n39) rfl rfl ?_
      refine L_off (env' := uS26n39) rfl rfl ?_
      refine L_off (env' := uS26n39) rfl rfl ?_
      refine L_off (env' := uS26n39) rfl rfl ?_
      refine L_off (env' := uS26n39) rfl rfl ?_
      refine L_off (env' := uS26n39) rfl rfl ?_
      refine L_op (env' := uS26n39) rfl rfl (v_pickFC (VVal.bool false) rfl rfl rfl) rfl ?_
      refine L_nil ?_
      refine K_seq ?_
      refine B_false rfl rfl ?_
      refine B_skip ?_
      refine K_blk ?_
      refine K_seq ?_
      refine B_region ?_
      refine L_op (env' := uS26n39) rfl rfl (v_move (.inl rfl) rfl) rfl ?_
      refine L_op (env' := uS26n39) rfl rfl (v_addI rfl rfl rfl (by first | assumption | omega | (simp [*]; done) | (simp at *; omega))) rfl ?_
      refine L_op (env' := uS26n39) rfl rfl (v_move (.inr rfl) rfl) rfl ?_
      refine L_nil ?_
      refine K_loop [false,false,false,true,true,true,true,false,true,true,true,true,true,true,true,true,true,true,true,true,true,true,true,true,true,true,true,true,true,true,true,true,true,true,true,true,true,true,true] (env' := uS26n39) rfl ⟨k + 1, ?_, rfl, ?_⟩
      · first | omega | (simp only []; omega)
      · exact ⟨⟨by omega, fun j hj => by by_cases e : j = k; (subst e; intro h; first | exact absurd h.1 (by assumption) | exact absurd h.2 (by assumption)); exact hno j (by omega)⟩, rfl⟩
  · try simp only [decide_eq_true_eq, decide_eq_false_iff_not, Bool.not_eq_true', Bool.not_eq_false', bne_iff_ne, beq_iff_eq, Bool.and_eq_true, Bool.or_eq_true, Bool.not_eq_true, ge_iff_le, gt_iff_lt, Int.not_le, Int.not_lt, beq_eq_false_iff_ne, bne_eq_false_iff_eq, ne_eq, Decidable.not_not, wd_zero, wd_one, wd_inj] at hc1
    refine B_exit ?_
    refine K_seqX ?_
    refine K_loopX ?_
    refine K_blkX ?_
    refine K_seq ?_
    refine B_seq ?_
    refine B_region ?_
    refine L_op (env' := uS26n39) rfl rfl (v_const (VVal.bool false) (.inr rfl) rfl) rfl ?_
    refine L_nil ?_
    refine K_seq ?_
    refine B_ret ?_
    refine E_app (.inr rfl) (vres_tmp rfl rfl) (by first | exact BaseOk.refl _ | exact BaseOk.set (BaseOk.refl _) _ rfl) (by first | rfl | simp [VVal.under, VVal.underL, *]) ?_
    first
      | exact ⟨by rw [hasL_at (L := L) (i := k) (by omega) (by assumption) (by assumption)], rfl⟩
      | exact ⟨by rw [hasL_no fun j hj => hno j (by omega)], rfl⟩

theorem place_spec {x : SW} (H : VHeap) (a : Int) : F (psys x) 95 [iI a] H fun v G => v = .bool (decide (0 ≤ a ∧ a < 64)) ∧ G = H := by
  refine F_body Tryd.func95 rfl uS26n9 rfl ?_
  refine B_seq ?_
  refine B_region ?_
  refine L_op (env' := uS26n9) rfl rfl (v_const (VVal.bool false) (.inr rfl) rfl) rfl ?_
  refine L_nil ?_
  refine K_seq ?_
  refine B_seq ?_
  refine B_region ?_
  refine L_op (env' := uS26n9) rfl rfl (v_move (.inl rfl) rfl) rfl ?_
  refine L_op (env' := uS26n9) rfl rfl (rfl) rfl ?_
  refine L_op (env' := uS26n9) rfl rfl (v_move (.inl rfl) rfl) rfl ?_
  refine L_split 5 (env1 := uS26n9) (env2 := uS26n9) rfl rfl rfl (fun hg1 => ?_) (fun hg1 => ?_)
  · try simp only [decide_eq_true_eq, decide_eq_false_iff_not, Bool.not_eq_true', Bool.not_eq_false', bne_iff_ne, beq_iff_eq, Bool.and_eq_true, Bool.or_eq_true, Bool.not_eq_true, ge_iff_le, gt_iff_lt, Int.not_le, Int.not_lt, beq_eq_false_iff_ne, bne_eq_false_iff_eq, ne_eq, Decidable.not_not, wd_zero, wd_one, wd_inj] at hg1
    refine L_op (env' := uS26n9) rfl rfl (v_move (.inl rfl) rfl) rfl ?_
    refine L_op (env' := uS26n9) rfl rfl (rfl) rfl ?_
    refine L_op (env' := uS26n9) rfl rfl (v_pickT rfl rfl rfl) rfl ?_
    refine L_op (env' := uS26n9) rfl rfl (v_move (.inr rfl) rfl) rfl ?_
    refine L_nil ?_
    refine K_seq ?_
    refine B_ret ?_
    refine E_app (.inr rfl) (vres_tmp rfl rfl) (by first | exact BaseOk.refl _ | exact BaseOk.set (BaseOk.refl _) _ rfl) (by first | rfl | simp [VVal.under, VVal.underL, *]) ?_
    exact ⟨by simp [*]; try omega, rfl⟩
  · try simp only [decide_eq_true_eq, decide_eq_false_iff_not, Bool.not_eq_true', Bool.not_eq_false', bne_iff_ne, beq_iff_eq, Bool.and_eq_true, Bool.or_eq_true, Bool.not_eq_true, ge_iff_le, gt_iff_lt, Int.not_le, Int.not_lt, beq_eq_false_iff_ne, bne_eq_false_iff_eq, ne_eq, Decidable.not_not, wd_zero, wd_one, wd_inj] at hg1
    refine L_off (env' := uS26n9) rfl rfl ?_
    refine L_off (env' := uS26n9) rfl rfl ?_
    refine L_op (env' := uS26n9) rfl rfl (v_pickFC (VVal.bool false) rfl rfl rfl) rfl ?_
    refine L_op (env' := uS26n9) rfl rfl (v_move (.inr rfl) rfl) rfl ?_
    refine L_nil ?_
    refine K_seq ?_
    refine B_ret ?_
    refine E_app (.inr rfl) (vres_tmp rfl rfl) (by first | exact BaseOk.refl _ | exact BaseOk.set (BaseOk.refl _) _ rfl) (by first | rfl | simp [VVal.under, VVal.underL, *]) ?_
    exact ⟨by simp [*]; try omega, rfl⟩

theorem rBelow_spec {x : SW} (H : VHeap) (q : Nat) (L : List (Int × Int)) (v : VVal) (hr : RL H q L v) (hL : L.length ≤ 1000000) (J : List (BitVec 64)) (r : Rk J) (co : CoL L J) (a : Int) : F (psys x) 73 [.ptr (some (q, 0)), iI a] H fun u G => u = iW (blw J a) ∧ G = H := by
  refine F_body Tryd.func73 rfl uS26n61 rfl ?_
  refine B_seq ?_
  refine B_region ?_
  refine L_op (env' := uS26n61) rfl rfl (v_const (VVal.int .u64 0) (.inr rfl) rfl) rfl ?_
  refine L_nil ?_
  refine K_seq ?_
  refine B_seq ?_
  refine B_seq ?_
  refine B_region ?_
  refine L_op (env' := uS26n61) rfl rfl (v_move (.inl rfl) rfl) rfl ?_
  refine L_call rfl rfl rfl (by exact place_spec _ _) ?_
  rintro _ _ ⟨rfl, rfl⟩
  refine L_env (env' := uS26n61) rfl ?_
  refine L_op (env' := uS26n61) rfl rfl (rfl) rfl ?_
  refine L_nil ?_
  refine K_seq ?_
  refine B_cond _ rfl (fun hc1 => ?_) (fun hc1 => ?_)
  · try simp only [decide_eq_true_eq, decide_eq_false_iff_not, Bool.not_eq_true', Bool.not_eq_false', bne_iff_ne, beq_iff_eq, Bool.and_eq_true, Bool.or_eq_true, Bool.not_eq_true, ge_iff_le, gt_iff_lt, Int.not_le, Int.not_lt, beq_eq_false_iff_ne, bne_eq_false_iff_eq, ne_eq, Decidable.not_not, wd_zero, wd_one, wd_inj] at hc1
    refine B_seq ?_
    refine B_region ?_
    refine L_op (env' := uS26n61) rfl rfl (v_const (VVal.int .u64 0) (.inr rfl) rfl) rfl ?_
    refine L_nil ?_
    refine K_seq ?_
    refine B_ret ?_
    refine K_seqR ?_
    refine E_app (.inr rfl) (vres_tmp rfl rfl) (by first | exact BaseOk.refl _ | exact BaseOk.set (BaseOk.refl _) _ rfl) (by first | rfl | simp [VVal.under, VVal.underL, *]) ?_
    first
      | exact ⟨by rw [blw, if_neg (by assumption)]; rfl, rfl⟩
      | (have hag : ag = false := by assumption); (subst hag); exact ⟨by rw [blw, if_pos (by assumption), hB.done], rfl⟩
  · try simp only [decide_eq_true_eq, decide_eq_false_iff_not, Bool.not_eq_true', Bool.not_eq_false', bne_iff_ne, beq_iff_eq, Bool.and_eq_true, Bool.or_eq_true, Bool.not_eq_true, ge_iff_le, gt_iff_lt, Int.not_le, Int.not_lt, beq_eq_false_iff_ne, bne_eq_false_iff_eq, ne_eq, Decidable.not_not, wd_zero, wd_one, wd_inj] at hc1
    refine B_skip ?_
    refine K_seq ?_
    refine B_seq ?_
    refine B_region ?_
    refine L_op (env' := uS26n61) rfl rfl (v_move (.inl rfl) rfl) rfl ?_
    refine L_op (env' := uS26n61) rfl rfl (v_shl1 rfl rfl rfl (by first | assumption | omega | (simp [*]; done) | (simp at *; omega))) rfl ?_
    refine L_op (env' := uS26n61) rfl rfl (v_move (.inr rfl) rfl) rfl ?_
    refine L_nil ?_
    refine K_seq ?_
    refine B_seq ?_
    refine B_seq ?_
    refine B_region ?_
    refine L_op (env' := uS26n61) rfl rfl (v_const (VVal.bool true) (.inr rfl) rfl) rfl ?_
    refine L_nil ?_
    refine K_seq ?_
    refine B_block ?_
    refine B_clear (false :: true :: true :: true :: true :: false :: false :: true :: true :: true :: true :: true :: true :: true :: true :: true :: true :: true :: true :: true :: true :: true :: true :: true :: true :: true :: true :: true :: true :: true :: true :: true :: true :: true :: true :: true :: true :: true :: true :: true :: true :: true :: true :: true :: true :: true :: true :: true :: true :: true :: true :: true :: true :: true :: true :: true :: true :: true :: true :: true :: true :: []) (env' := uS26n61) rfl ?_
    refine B_loopE (fun (⟨w, ag⟩ : BitVec 64 × Bool) => beM w ag) (fun (⟨w, ag⟩ : BitVec 64 × Bool) => [(5, iW w), (6, .bool ag)]) (fun (⟨w, ag⟩ : BitVec 64 × Bool) G => (BeL J (1#64 <<< a.toNat) w ag) ∧ G = H ++ []) ⟨_, true⟩ rfl ?_ ?_
    · refine ⟨?_, rfl⟩
      exact BeL.init
    rintro ⟨w, ag⟩ _ ⟨hB, rfl⟩
    refine B_env (env' := uS26n61) rfl ?_
    refine B_seq ?_
    refine B_seq ?_
    refine B_region ?_
    refine L_op (env' := uS26n61) rfl rfl (v_move (.inl rfl) rfl) rfl ?_
    refine L_nil ?_
    refine K_seq ?_
    refine B_cond _ rfl (fun hc2 => ?_) (fun hc2 => ?_)
    · try simp only [decide_eq_true_eq, decide_eq_false_iff_not, Bool.not_eq_true', Bool.not_eq_false', bne_iff_ne, beq_iff_eq, Bool.and_eq_true, Bool.or_eq_true, Bool.not_eq_true, ge_iff_le, gt_iff_lt, Int.not_le, Int.not_lt, beq_eq_false_iff_ne, bne_eq_false_iff_eq, ne_eq, Decidable.not_not, wd_zero, wd_one, wd_inj] at hc2
      refine B_skip ?_
      refine K_seq ?_
      refine B_block ?_
      refine B_seq ?_
      refine B_region ?_
      refine L_op (env' := uS26n61) rfl rfl (v_const (VVal.bool false) (.inr rfl) rfl) rfl ?_
      refine L_nil ?_
      refine K_seq ?_
      refine B_seq ?_
      refine B_region ?_
      refine L_op (env' := uS26n61) rfl rfl (v_const (VVal.int .i64 0) (.inr rfl) rfl) rfl ?_
      refine L_nil ?_
      refine K_seq ?_
      refine B_block ?_
      refine B_clear (false :: true :: true :: true :: true :: false :: false :: false :: true :: true :: true :: true :: true :: true :: true :: true :: true :: true :: true :: true :: true :: true :: true :: true :: true :: true :: true :: true :: true :: true :: true :: true :: true :: true :: true :: true :: true :: true :: true :: true :: true :: true :: true :: true :: true :: true :: true :: true :: true :: true :: true :: true :: true :: true :: true :: true :: true :: true :: true :: true :: true :: []) (env' := uS26n61) rfl ?_
      refine B_loopE (fun (k : Nat) => L.length - k) (fun (k : Nat) => [(5, iW (passW (L.take k) w)), (6, .bool (decide (passW (L.take k) w ≠ w))), (7, iI (k : Nat))]) (fun (k : Nat) G => (k ≤ L.length) ∧ G = H ++ []) 0 (by rw [show passW (L.take 0) w = w from rfl, decide_eq_false (fun h => h rfl)]; rfl) ?_ ?_
      · refine ⟨?_, rfl⟩
        exact Nat.zero_le _
      rintro k _ ⟨hk, rfl⟩
      refine B_env (env' := uS26n61) rfl ?_
      refine B_seq ?_
      refine B_seq ?_
      refine B_region ?_
      refine L_op (env' := uS26n61) rfl rfl (v_move (.inl rfl) rfl) rfl ?_
      refine L_op (env' := uS26n61) rfl rfl (v_move (.inl rfl) rfl) rfl ?_
      refine L_op (env' := uS26n61) rfl rfl (rfl) rfl ?_
      refine L_op (env' := uS26n61) rfl rfl (rfl) rfl ?_
      refine L_op (env' := uS26n61) rfl rfl (by first | exact v_loadF rfl rfl rfl rfl (by first | rfl | exact pairs_c0 (by omega) | exact pairs_c1 (by omega)) | exact v_load rfl rfl rfl rfl (by first | exact get_out hr.c | exact get_out hb1 | exact get_out hb2 | exact get_out hb3 | exact get_app rfl rfl) (by first | rfl | exact pairs_c0 (by omega) | exact pairs_c1 (by omega))) rfl ?_
      refine L_op (env' := uS26n61) rfl rfl (v_len rfl rfl rfl rfl hr.l) rfl ?_
      refine L_op (env' := uS26n61) rfl rfl (rfl) rfl ?_
      refine L_nil ?_
      refine K_seq ?_
      refine B_cond _ rfl (fun hc3 => ?_) (fun hc3 => ?_)
      · try simp only [decide_eq_true_eq, decide_eq_false_iff_not, Bool.not_eq_true', Bool.not_eq_false', bne_iff_ne, beq_iff_eq, Bool.and_eq_true, Bool.or_eq_true, Bool.not_eq_true, ge_iff_le, gt_iff_lt, Int.not_le, Int.not_lt, beq_eq_false_iff_ne, bne_eq_false_iff_eq, ne_eq, Decidable.not_not, wd_zero, wd_one, wd_inj] at hc3
        refine B_skip ?_
        refine K_seq ?_
        refine B_seq ?_
        refine B_block ?_
        refine B_seq ?_
        have hrg := co.rg r (i := (k : Int).toNat) (show (k : Int).toNat < L.length by omega)
        refine B_region ?_
        refine L_op (env' := uS26n61) rfl rfl (v_move (.inl rfl) rfl) rfl ?_
        refine L_op (env' := uS26n61) rfl rfl (v_move (.inl rfl) rfl) rfl ?_
        refine L_op (env' := uS26n61) rfl rfl (rfl) rfl ?_
        refine L_op (env' := uS26n61) rfl rfl (rfl) rfl ?_
        refine L_op (env' := uS26n61) rfl rfl (by first | exact v_loadF rfl rfl rfl rfl (by first | rfl | exact pairs_c0 (by omega) | exact pairs_c1 (by omega)) | exact v_load rfl rfl rfl rfl (by first | exact get_out hr.c | exact get_out hb1 | exact get_out hb2 | exact get_out hb3 | exact get_app rfl rfl) (by first | rfl | exact pairs_c0 (by omega) | exact pairs_c1 (by omega))) rfl ?_
        refine L_op (env' := uS26n61) rfl rfl (v_move (.inl rfl) rfl) rfl ?_
        refine L_opX rfl rfl (v_idxRL rfl rfl rfl rfl rfl rfl rfl hr.l (by omega)) ?_
        rintro _ _ ⟨b1, rfl, rfl, hb1⟩
        refine L_env (env' := uS26n61) rfl ?_
        refine L_op (env' := uS26n61) rfl rfl (by first | exact v_idxFA rfl rfl rfl rfl rfl rfl (by first | assumption | omega | (simp [*]; done) | (simp at *; omega)) | exact v_idxA rfl rfl rfl rfl rfl rfl (by first | assumption | omega | (simp [*]; done) | (simp at *; omega))) rfl ?_
        refine L_op (env' := uS26n61) rfl rfl (by first | exact v_loadF rfl rfl rfl rfl (by first | rfl | exact pairs_c0 (by omega) | exact pairs_c1 (by omega)) | exact v_load rfl rfl rfl rfl (by first | exact get_out hr.c | exact get_out hb1 | exact get_out hb2 | exact get_out hb3 | exact get_app rfl rfl) (by first | rfl | exact pairs_c0 (by omega) | exact pairs_c1 (by omega))) rfl ?_
        refine L_op (env' := uS26n61) rfl rfl (v_shrW rfl rfl rfl (by first | assumption | omega | (simp [*]; done) | (simp at *; omega))) rfl ?_
        refine L_op (env' := uS26n61) rfl rfl (v_andW (b := 1#64) rfl rfl rfl) rfl ?_
        refine L_op (env' := uS26n61) rfl rfl (rfl) rfl ?_
        refine L_op (env' := uS26n61) rfl rfl (v_move (.inl rfl) rfl) rfl ?_
        refine L_split 35 (env1 := uS26n61) (env2 := uS26n61) rfl rfl rfl (fun hg4 => ?_) (fun hg4 => ?_)
        · try simp only [decide_eq_true_eq, decide_eq_false_iff_not, Bool.not_eq_true', Bool.not_eq_false', bne_iff_ne, beq_iff_eq, Bool.and_eq_true, Bool.or_eq_true, Bool.not_eq_true, ge_iff_le, gt_iff_lt, Int.not_le, Int.not_lt, beq_eq_false_iff_ne, bne_eq_false_iff_eq, ne_eq, Decidable.not_not, wd_zero, wd_one, wd_inj] at hg4
          refine L_op (env' := uS26n61) rfl rfl (v_move (.inl rfl) rfl) rfl ?_
          refine L_op (env' := uS26n61) rfl rfl (v_move (.inl rfl) rfl) rfl ?_
          refine L_op (env' := uS26n61) rfl rfl (rfl) rfl ?_
          refine L_op (env' := uS26n61) rfl rfl (rfl) rfl ?_
          refine L_op (env' := uS26n61) rfl rfl (by first | exact v_loadF rfl rfl rfl rfl (by first | rfl | exact pairs_c0 (by omega) | exact pairs_c1 (by omega)) | exact v_load rfl rfl rfl rfl (by first | exact get_out hr.c | exact get_out hb1 | exact get_out hb2 | exact get_out hb3 | exact get_app rfl rfl) (by first | rfl | exact pairs_c0 (by omega) | exact pairs_c1 (by omega))) rfl ?_
          refine L_op (env' := uS26n61) rfl rfl (v_move (.inl rfl) rfl) rfl ?_
          refine L_opX rfl rfl (v_idxRL rfl rfl rfl rfl rfl rfl rfl hr.l (by omega)) ?_
          rintro _ _ ⟨b2, rfl, rfl, hb2⟩
          refine L_env (env' := uS26n61) rfl ?_
          refine L_op (env' := uS26n61) rfl rfl (by first | exact v_idxFA rfl rfl rfl rfl rfl rfl (by first | assumption | omega | (simp [*]; done) | (simp at *; omega)) | exact v_idxA rfl rfl rfl rfl rfl rfl (by first | assumption | omega | (simp [*]; done) | (simp at *; omega))) rfl ?_
          refine L_op (env' := uS26n61) rfl rfl (by first | exact v_loadF rfl rfl rfl rfl (by first | rfl | exact pairs_c0 (by omega) | exact pairs_c1 (by omega)) | exact v_load rfl rfl rfl rfl (by first | exact get_out hr.c | exact get_out hb1 | exact get_out hb2 | exact get_out hb3 | exact get_app rfl rfl) (by first | rfl | exact pairs_c0 (by omega) | exact pairs_c1 (by omega))) rfl ?_
          refine L_op (env' := uS26n61) rfl rfl (v_shrW rfl rfl rfl (by first | assumption | omega | (simp [*]; done) | (simp at *; omega))) rfl ?_
          refine L_op (env' := uS26n61) rfl rfl (v_andW (b := 1#64) rfl rfl rfl) rfl ?_
          refine L_op (env' := uS26n61) rfl rfl (rfl) rfl ?_
          refine L_op (env' := uS26n61) rfl rfl (v_pickT rfl rfl rfl) rfl ?_
          refine L_nil ?_
          refine K_seq ?_
          refine B_cond _ rfl (fun hc5 => ?_) (fun hc5 => ?_)
          · try simp only [decide_eq_true_eq, decide_eq_false_iff_not, Bool.not_eq_true', Bool.not_eq_false', bne_iff_ne, beq_iff_eq, Bool.and_eq_true, Bool.or_eq_true, Bool.not_eq_true, ge_iff_le, gt_iff_lt, Int.not_le, Int.not_lt, beq_eq_false_iff_ne, bne_eq_false_iff_eq, ne_eq, Decidable.not_not, wd_zero, wd_one, wd_inj] at hc5
            refine B_seq ?_
            refine B_region ?_
            refine L_op (env' := uS26n61) rfl rfl (v_move (.inl rfl) rfl) rfl ?_
            refine L_op (env' := uS26n61) rfl rfl (v_move (.inl rfl) rfl) rfl ?_
            refine L_op (env' := uS26n61) rfl rfl (rfl) rfl ?_
            refine L_op (env' := uS26n61) rfl rfl (rfl) rfl ?_
            refine L_op (env' := uS26n61) rfl rfl (by first | exact v_loadF rfl rfl rfl rfl (by first | rfl | exact pairs_c0 (by omega) | exact pairs_c1 (by omega)) | exact v_load rfl rfl rfl rfl (by first | exact get_out hr.c | exact get_out hb1 | exact get_out hb2 | exact get_out hb3 | exact get_app rfl rfl) (by first | rfl | exact pairs_c0 (by omega) | exact pairs_c1 (by omega))) rfl ?_
            refine L_op (env' := uS26n61) rfl rfl (v_move (.inl rfl) rfl) rfl ?_
            refine L_opX rfl rfl (v_idxRL rfl rfl rfl rfl rfl rfl rfl hr.l (by omega)) ?_
            rintro _ _ ⟨b3, rfl, rfl, hb3⟩
            refine L_env (env' := uS26n61) rfl ?_
            refine L_op (env' := uS26n61) rfl rfl (by first | exact v_idxFA rfl rfl rfl rfl rfl rfl (by first | assumption | omega | (simp [*]; done) | (simp at *; omega)) | exact v_idxA rfl rfl rfl rfl rfl rfl (by first | assumption | omega | (simp [*]; done) | (simp at *; omega))) rfl ?_
            refine L_op (env' := uS26n61) rfl rfl (by first | exact v_loadF rfl rfl rfl rfl (by first | rfl | exact pairs_c0 (by omega) | exact pairs_c1 (by omega)) | exact v_load rfl rfl rfl rfl (by first | exact get_out hr.c | exact get_out hb1 | exact get_out hb2 | exact get_out hb3 | exact get_app rfl rfl) (by first | rfl | exact pairs_c0 (by omega) | exact pairs_c1 (by omega))) rfl ?_
            refine L_op (env' := uS26n61) rfl rfl (v_shl1 rfl rfl rfl (by first | assumption | omega | (simp [*]; done) | (simp at *; omega))) rfl ?_
            refine L_op (env' := uS26n61) rfl rfl (v_orW rfl rfl rfl) rfl ?_
            refine L_op (env' := uS26n61) rfl rfl (v_move (.inr rfl) rfl) rfl ?_
            refine L_nil ?_
            refine K_seq ?_
            refine B_region ?_
            refine L_op (env' := uS26n61) rfl rfl (v_const (VVal.bool true) (.inr rfl) rfl) rfl ?_
            refine L_nil ?_
            refine K_blk ?_
            refine K_seq ?_
            refine B_region ?_
            refine L_op (env' := uS26n61) rfl rfl (v_move (.inl rfl) rfl) rfl ?_
            refine L_op (env' := uS26n61) rfl rfl (v_addI rfl rfl rfl (by first | assumption | omega | (simp [*]; done) | (simp at *; omega))) rfl ?_
            refine L_op (env' := uS26n61) rfl rfl (v_move (.inr rfl) rfl) rfl ?_
            refine L_nil ?_
            have hpt : passW (L.take (k + 1)) w = stepW (passW (L.take k) w) (L.getD (k : Int).toNat (0, 0)) := passW_take (by omega)
            first
              | (have hst := stepW_new (p := L.getD (k : Int).toNat (0, 0)) (sh1.1 (by assumption)) (sh0.1 (by assumption)) (by omega); rw [← hst.1, ← hpt]; rw [show VVal.bool true = VVal.bool (decide (passW (L.take (k + 1)) w ≠ w)) from by rw [decide_eq_true]; rw [hpt]; exact fun e => hst.2 (subW.ext (fun x hx => by rw [e] at hx; exact passW_sub x hx) stepW_sub)])
              | (have hst : stepW (passW (L.take k) w) (L.getD (k : Int).toNat (0, 0)) = passW (L.take k) w := stepW_out (sh1n.1 (by assumption)); rw [← hst, ← hpt])
              | (have hst : stepW (passW (L.take k) w) (L.getD (k : Int).toNat (0, 0)) = passW (L.take k) w := stepW_has (sh_not0 (by assumption)); rw [← hst, ← hpt])
            refine K_loop (false :: true :: true :: true :: true :: false :: false :: false :: true :: true :: true :: true :: true :: true :: true :: true :: true :: true :: true :: true :: true :: true :: true :: true :: true :: true :: true :: true :: true :: true :: true :: true :: true :: true :: true :: true :: true :: true :: true :: true :: true :: true :: true :: true :: true :: true :: true :: true :: true :: true :: true :: true :: true :: true :: true :: true :: true :: true :: true :: true :: true :: []) (env' := uS26n61) rfl ⟨k + 1, ?_, rfl, ?_⟩
            · first | omega | (simp only []; omega)
            · exact ⟨by omega, rfl⟩
          · try simp only [decide_eq_true_eq, decide_eq_false_iff_not, Bool.not_eq_true', Bool.not_eq_false', bne_iff_ne, beq_iff_eq, Bool.and_eq_true, Bool.or_eq_true, Bool.not_eq_true, ge_iff_le, gt_iff_lt, Int.not_le, Int.not_lt, beq_eq_false_iff_ne, bne_eq_false_iff_eq, ne_eq, Decidable.not_not, wd_zero, wd_one, wd_inj] at hc5
            refine B_skip ?_
            refine K_blk ?_
            refine K_seq ?_
            refine B_region ?_
            refine L_op (env' := uS26n61) rfl rfl (v_move (.inl rfl) rfl) rfl ?_
            refine L_op (env' := uS26n61) rfl rfl (v_addI rfl rfl rfl (by first | assumption | omega | (simp [*]; done) | (simp at *; omega))) rfl ?_
            refine L_op (env' := uS26n61) rfl rfl (v_move (.inr rfl) rfl) rfl ?_
            refine L_nil ?_
            have hpt : passW (L.take (k + 1)) w = stepW (passW (L.take k) w) (L.getD (k : Int).toNat (0, 0)) := passW_take (by omega)
            first
              | (have hst := stepW_new (p := L.getD (k : Int).toNat (0, 0)) (sh1.1 (by assumption)) (sh0.1 (by assumption)) (by omega); rw [← hst.1, ← hpt]; rw [show VVal.bool true = VVal.bool (decide (passW (L.take (k + 1)) w ≠ w)) from by rw [decide_eq_true]; rw [hpt]; exact fun e => hst.2 (subW.ext (fun x hx => by rw [e] at hx; exact passW_sub x hx) stepW_sub)])
              | (have hst : stepW (passW (L.take k) w) (L.getD (k : Int).toNat (0, 0)) = passW (L.take k) w := stepW_out (sh1n.1 (by assumption)); rw [← hst, ← hpt])
              | (have hst : stepW (passW (L.take k) w) (L.getD (k : Int).toNat (0, 0)) = passW (L.take k) w := stepW_has (sh_not0 (by assumption)); rw [← hst, ← hpt])
            refine K_loop (false :: true :: true :: true :: true :: false :: false :: false :: true :: true :: true :: true :: true :: true :: true :: true :: true :: true :: true :: true :: true :: true :: true :: true :: true :: true :: true :: true :: true :: true :: true :: true :: true :: true :: true :: true :: true :: true :: true :: true :: true :: true :: true :: true :: true :: true :: true :: true :: true :: true :: true :: true :: true :: true :: true :: true :: true :: true :: true :: true :: true :: []) (env' := uS26n61) rfl ⟨k + 1, ?_, rfl, ?_⟩
            · first | omega | (simp only []; omega)
            · exact ⟨by omega, rfl⟩
        · try simp only [decide_eq_true_eq, decide_eq_false_iff_not, Bool.not_eq_true', Bool.not_eq_false', bne_iff_ne, beq_iff_eq, Bool.and_eq_true, Bool.or_eq_true, Bool.not_eq_true, ge_iff_le, gt_iff_lt, Int.not_le, Int.not_lt, beq_eq_false_iff_ne, bne_eq_false_iff_eq, ne_eq, Decidable.not_not, wd_zero, wd_one, wd_inj] at hg4
          refine L_off (env' := uS26n61) rfl rfl ?_
          refine L_off (env' := uS26n61) rfl rfl ?_
          refine L_off (env' := uS26n61) rfl rfl ?_
          refine L_off (env' := uS26n61) rfl rfl ?_
          refine L_off (env' := uS26n61) rfl rfl ?_
          refine L_off (env' := uS26n61) rfl rfl ?_
          refine L_off (env' := uS26n61) rfl rfl ?_
          refine L_off (env' := uS26n61) rfl rfl ?_
          refine L_off (env' := uS26n61) rfl rfl ?_
          refine L_off (env' := uS26n61) rfl rfl ?_
          refine L_off (env' := uS26n61) rfl rfl ?_
          refine L_off (env' := uS26n61) rfl rfl ?_
          refine L_op (env' := uS26n61) rfl rfl (v_pickFC (VVal.bool false) rfl rfl rfl) rfl ?_
          refine L_nil ?_
          refine K_seq ?_
          refine B_false rfl rfl ?_
          refine B_skip ?_
          refine K_blk ?_
          refine K_seq ?_
          refine B_region ?_
          refine L_op (env' := uS26n61) rfl rfl (v_move (.inl rfl) rfl) rfl ?_
          refine L_op (env' := uS26n61) rfl rfl (v_addI rfl rfl rfl (by first | assumption | omega | (simp [*]; done) | (simp at *; omega))) rfl ?_
          refine L_op (env' := uS26n61) rfl rfl (v_move (.inr rfl) rfl) rfl ?_
          refine L_nil ?_
          have hpt : passW (L.take (k + 1)) w = stepW (passW (L.take k) w) (L.getD (k : Int).toNat (0, 0)) := passW_take (by omega)
          first
            | (have hst := stepW_new (p := L.getD (k : Int).toNat (0, 0)) (sh1.1 (by assumption)) (sh0.1 (by assumption)) (by omega); rw [← hst.1, ← hpt]; rw [show VVal.bool true = VVal.bool (decide (passW (L.take (k + 1)) w ≠ w)) from by rw [decide_eq_true]; rw [hpt]; exact fun e => hst.2 (subW.ext (fun x hx => by rw [e] at hx; exact passW_sub x hx) stepW_sub)])
            | (have hst : stepW (passW (L.take k) w) (L.getD (k : Int).toNat (0, 0)) = passW (L.take k) w := stepW_out (sh1n.1 (by assumption)); rw [← hst, ← hpt])
            | (have hst : stepW (passW (L.take k) w) (L.getD (k : Int).toNat (0, 0)) = passW (L.take k) w := stepW_has (sh_not0 (by assumption)); rw [← hst, ← hpt])
          refine K_loop (false :: true :: true :: true :: true :: false :: false :: false :: true :: true :: true :: true :: true :: true :: true :: true :: true :: true :: true :: true :: true :: true :: true :: true :: true :: true :: true :: true :: true :: true :: true :: true :: true :: true :: true :: true :: true :: true :: true :: true :: true :: true :: true :: true :: true :: true :: true :: true :: true :: true :: true :: true :: true :: true :: true :: true :: true :: true :: true :: true :: true :: []) (env' := uS26n61) rfl ⟨k + 1, ?_, rfl, ?_⟩
          · first | omega | (simp only []; omega)
          · exact ⟨by omega, rfl⟩
      · try simp only [decide_eq_true_eq, decide_eq_false_iff_not, Bool.not_eq_true', Bool.not_eq_false', bne_iff_ne, beq_iff_eq, Bool.and_eq_true, Bool.or_eq_true, Bool.not_eq_true, ge_iff_le, gt_iff_lt, Int.not_le, Int.not_lt, beq_eq_false_iff_ne, bne_eq_false_iff_eq, ne_eq, Decidable.not_not, wd_zero, wd_one, wd_inj] at hc3
        refine B_exit ?_
        refine K_seqX ?_
        refine K_loopX ?_
        refine K_blkX ?_
        refine K_blk ?_
        have hkL : k = L.length := by omega
        subst hkL
        rw [List.take_length]
        refine K_loop (false :: true :: true :: true :: true :: false :: false :: true :: true :: true :: true :: true :: true :: true :: true :: true :: true :: true :: true :: true :: true :: true :: true :: true :: true :: true :: true :: true :: true :: true :: true :: true :: true :: true :: true :: true :: true :: true :: true :: true :: true :: true :: true :: true :: true :: true :: true :: true :: true :: true :: true :: true :: true :: true :: true :: true :: true :: true :: true :: true :: true :: []) (env' := uS26n61) rfl ⟨⟨passW L w, decide (passW L w ≠ w)⟩, ?_, rfl, ?_⟩
        · have hag : ag = true := by assumption
          subst hag; exact beM_lt
        · exact ⟨hB.next co r, rfl⟩
    · try simp only [decide_eq_true_eq, decide_eq_false_iff_not, Bool.not_eq_true', Bool.not_eq_false', bne_iff_ne, beq_iff_eq, Bool.and_eq_true, Bool.or_eq_true, Bool.not_eq_true, ge_iff_le, gt_iff_lt, Int.not_le, Int.not_lt, beq_eq_false_iff_ne, bne_eq_false_iff_eq, ne_eq, Decidable.not_not, wd_zero, wd_one, wd_inj] at hc2
      refine B_exit ?_
      refine K_seqX ?_
      refine K_loopX ?_
      refine K_blkX ?_
      refine K_seq ?_
      refine B_seq ?_
      refine B_region ?_
      refine L_op (env' := uS26n61) rfl rfl (v_move (.inl rfl) rfl) rfl ?_
      refine L_op (env' := uS26n61) rfl rfl (v_move (.inr rfl) rfl) rfl ?_
      refine L_nil ?_
      refine K_seq ?_
      refine B_ret ?_
      refine E_app (.inr rfl) (vres_tmp rfl rfl) (by first | exact BaseOk.refl _ | exact BaseOk.set (BaseOk.refl _) _ rfl) (by first | rfl | simp [VVal.under, VVal.underL, *]) ?_
      first
        | exact ⟨by rw [blw, if_neg (by assumption)]; rfl, rfl⟩
        | (have hag : ag = false := by assumption); (subst hag); exact ⟨by rw [blw, if_pos (by assumption), hB.done], rfl⟩

theorem wdP_f {P : Nat → Bool} {k : Nat} (h : ∀ i, P i = false) : wdP P k = 0#64 := word_ext fun i hi => by rw [wdP_bit hi, h i]; simp
theorem abv_out {J : List (BitVec 64)} {a : Int} {k : Nat} (h : ¬ (0 ≤ a ∧ a < 64)) : wdP (abP J a) k = abv J a := by
  have hf : ∀ i, abP J a i = false := fun i => by unfold abP; rw [decide_eq_false h, Bool.false_and]
  unfold abv; rw [wdP_f hf, wdP_f hf]
theorem wdP_self {s : BitVec 64} : wdP s.getLsbD 64 = s := word_ext fun i hi => by rw [wdP_bit hi, decide_eq_true hi, Bool.true_and]
theorem spT_yes {J : List (BitVec 64)} {s : BitVec 64} {a : Nat} (h : s.getLsbD a = true) : spr J (wdP s.getLsbD a) ||| spr J (1#64 <<< a) = spr J (wdP s.getLsbD (a + 1)) := by rw [← spr_or, wdP_yes h]
theorem spT_no {J : List (BitVec 64)} {s : BitVec 64} {a : Nat} (h : s.getLsbD a = false) : spr J (wdP s.getLsbD a) = spr J (wdP s.getLsbD (a + 1)) := by rw [wdP_no h]
theorem co_has {L : List (Int × Int)} {J : List (BitVec 64)} (c : CoL L J) (r : Rk J) {a b : Nat} (hb : b < 64) : hasL L (a : Int) (b : Int) = lk J a b := by
  rw [Bool.eq_iff_iff, hasL_iff, c.mem, r.mem_lkL]
  constructor
  · rintro ⟨x, y, h, e⟩
    simp only [Prod.mk.injEq] at e
    have h1 : x = a := by omega
    have h2 : y = b := by omega
    subst h1; subst h2; exact h
  · intro h; exact ⟨a, b, h, rfl⟩

theorem RL.app {H : VHeap} {q : Nat} {L : List (Int × Int)} {v : VVal} (r : RL H q L v) (X : VHeap) : RL (H ++ X) q L v := ⟨get_append r.c, r.l.app X, r.n⟩

theorem rAbove_spec {x : SW} (H : VHeap) (q : Nat) (L : List (Int × Int)) (v : VVal) (hr : RL H q L v) (hL : L.length ≤ 1000000) (J : List (BitVec 64)) (r : Rk J) (co : CoL L J) (a : Int) : F (psys x) 74 [.ptr (some (q, 0)), iI a] H fun u G => u = iW (abv J a) ∧ G = H := by
  refine F_body Tryd.func74 rfl uS26n27 rfl ?_
  refine B_seq ?_
  refine B_region ?_
  refine L_op (env' := uS26n27) rfl rfl (v_const (VVal.int .u64 0) (.inr rfl) rfl) rfl ?_
  refine L_nil ?_
  refine K_seq ?_
  refine B_seq ?_
  refine B_region ?_
  refine L_op (env' := uS26n27) rfl rfl (v_const (VVal.int .u64 0) (.inr rfl) rfl) rfl ?_
  refine L_nil ?_
  refine K_seq ?_
  refine B_seq ?_
  refine B_seq ?_
  refine B_region ?_
  refine L_op (env' := uS26n27) rfl rfl (v_const (VVal.int .i64 0) (.inr rfl) rfl) rfl ?_
  refine L_nil ?_
  refine K_seq ?_
  refine B_block ?_
  refine B_clear [false,false,true,true,true,false,false,true,true,true,true,true,true,true,true,true,true,true,true,true,true,true,true,true,true,true,true] (env' := uS26n27) rfl ?_
  refine B_loopE (fun (b : Nat) => 64 - b) (fun (b : Nat) => [(5, iW (wdP (abP J a) b)), (6, iI (b : Nat))]) (fun (b : Nat) G => (b ≤ 64) ∧ G = H ++ []) 0 (by rw [wdP_0]; rfl) ?_ ?_
  · refine ⟨?_, rfl⟩
    exact Nat.zero_le _
  rintro b _ ⟨hb, rfl⟩
  refine B_env (env' := uS26n27) rfl ?_
  refine B_seq ?_
  refine B_seq ?_
  refine B_region ?_
  refine L_op (env' := uS26n27) rfl rfl (v_move (.inl rfl) rfl) rfl ?_
  refine L_op (env' := uS26n27) rfl rfl (rfl) rfl ?_
  refine L_op (env' := uS26n27) rfl rfl (v_move (.inl rfl) rfl) rfl ?_
  refine L_split 9 (env1 := uS26n27) (env2 := uS26n27) rfl rfl rfl (fun hg1 => ?_) (fun hg1 => ?_)
  · try simp only [decide_eq_true_eq, decide_eq_false_iff_not, Bool.not_eq_true', Bool.not_eq_false', bne_iff_ne, beq_iff_eq, Bool.and_eq_true, Bool.or_eq_true, Bool.not_eq_true, ge_iff_le, gt_iff_lt, Int.not_le, Int.not_lt, beq_eq_false_iff_ne, bne_eq_false_iff_eq, ne_eq, Decidable.not_not, wd_zero, wd_one, wd_inj] at hg1
    refine L_op (env' := uS26n27) rfl rfl (v_move (.inl rfl) rfl) rfl ?_
    refine L_call rfl rfl rfl (by exact place_spec _ _) ?_
    rintro _ _ ⟨rfl, rfl⟩
    refine L_env (env' := uS26n27) rfl ?_
    refine L_op (env' := uS26n27) rfl rfl (v_pickT rfl rfl rfl) rfl ?_
    refine L_nil ?_
    refine K_seq ?_
    refine B_cond _ rfl (fun hc2 => ?_) (fun hc2 => ?_)
    · try simp only [decide_eq_true_eq, decide_eq_false_iff_not, Bool.not_eq_true', Bool.not_eq_false', bne_iff_ne, beq_iff_eq, Bool.and_eq_true, Bool.or_eq_true, Bool.not_eq_true, ge_iff_le, gt_iff_lt, Int.not_le, Int.not_lt, beq_eq_false_iff_ne, bne_eq_false_iff_eq, ne_eq, Decidable.not_not, wd_zero, wd_one, wd_inj] at hc2
      refine B_skip ?_
      refine K_seq ?_
      refine B_seq ?_
      refine B_block ?_
      refine B_seq ?_
      refine B_region ?_
      refine L_op (env' := uS26n27) rfl rfl (v_move (.inl rfl) rfl) rfl ?_
      refine L_op (env' := uS26n27) rfl rfl (v_move (.inl rfl) rfl) rfl ?_
      refine L_call rfl rfl rfl (by exact rBelow_spec _ _ _ _ (hr.app _) hL J r co _) ?_
      rintro v2 _ ⟨hv, rfl⟩; obtain rfl : v2 = iW (spr J (1#64 <<< b)) := hv.trans (by rw [blw, if_pos (by omega)]; rfl)
      refine L_env (env' := uS26n27) rfl ?_
      refine L_op (env' := uS26n27) rfl rfl (v_move (.inl rfl) rfl) rfl ?_
      refine L_op (env' := uS26n27) rfl rfl (v_shrW rfl rfl rfl (by first | assumption | omega | (simp [*]; done) | (simp at *; omega))) rfl ?_
      refine L_op (env' := uS26n27) rfl rfl (v_andW (b := 1#64) rfl rfl rfl) rfl ?_
      refine L_op (env' := uS26n27) rfl rfl (rfl) rfl ?_
      refine L_nil ?_
      refine K_seq ?_
      refine B_cond _ rfl (fun hc3 => ?_) (fun hc3 => ?_)
      · try simp only [decide_eq_true_eq, decide_eq_false_iff_not, Bool.not_eq_true', Bool.not_eq_false', bne_iff_ne, beq_iff_eq, Bool.and_eq_true, Bool.or_eq_true, Bool.not_eq_true, ge_iff_le, gt_iff_lt, Int.not_le, Int.not_lt, beq_eq_false_iff_ne, bne_eq_false_iff_eq, ne_eq, Decidable.not_not, wd_zero, wd_one, wd_inj] at hc3
        refine B_region ?_
        refine L_op (env' := uS26n27) rfl rfl (v_move (.inl rfl) rfl) rfl ?_
        refine L_op (env' := uS26n27) rfl rfl (v_move (.inl rfl) rfl) rfl ?_
        refine L_op (env' := uS26n27) rfl rfl (v_shl1 rfl rfl rfl (by first | assumption | omega | (simp [*]; done) | (simp at *; omega))) rfl ?_
        refine L_op (env' := uS26n27) rfl rfl (v_orW rfl rfl rfl) rfl ?_
        refine L_op (env' := uS26n27) rfl rfl (v_move (.inr rfl) rfl) rfl ?_
        refine L_nil ?_
        refine K_blk ?_
        refine K_seq ?_
        refine B_region ?_
        refine L_op (env' := uS26n27) rfl rfl (v_move (.inl rfl) rfl) rfl ?_
        refine L_op (env' := uS26n27) rfl rfl (v_addI rfl rfl rfl (by first | assumption | omega | (simp [*]; done) | (simp at *; omega))) rfl ?_
        refine L_op (env' := uS26n27) rfl rfl (v_move (.inr rfl) rfl) rfl ?_
        refine L_nil ?_
        have hpa : 0 ≤ a ∧ a < 64 := by assumption
        first
          | (have hE : wdP (abP J a) b ||| 1#64 <<< (b : Int).toNat = wdP (abP J a) (b + 1) := wdP_yes (by unfold abP; rw [decide_eq_true hpa, Bool.true_and]; exact sh1.1 (by assumption))); rw [hE]
          | (have hE : wdP (abP J a) b = wdP (abP J a) (b + 1) := wdP_no (by unfold abP; rw [decide_eq_true hpa, Bool.true_and]; exact sh1n.1 (by assumption))); rw [hE]
        refine K_loop [false,false,true,true,true,false,false,true,true,true,true,true,true,true,true,true,true,true,true,true,true,true,true,true,true,true,true] (env' := uS26n27) rfl ⟨b + 1, ?_, rfl, ?_⟩
        · first | omega | (simp only []; omega)
        · exact ⟨by omega, rfl⟩
      · try simp only [decide_eq_true_eq, decide_eq_false_iff_not, Bool.not_eq_true', Bool.not_eq_false', bne_iff_ne, beq_iff_eq, Bool.and_eq_true, Bool.or_eq_true, Bool.not_eq_true, ge_iff_le, gt_iff_lt, Int.not_le, Int.not_lt, beq_eq_false_iff_ne, bne_eq_false_iff_eq, ne_eq, Decidable.not_not, wd_zero, wd_one, wd_inj] at hc3
        refine B_skip ?_
        refine K_blk ?_
        refine K_seq ?_
        refine B_region ?_
        refine L_op (env' := uS26n27) rfl rfl (v_move (.inl rfl) rfl) rfl ?_
        refine L_op (env' := uS26n27) rfl rfl (v_addI rfl rfl rfl (by first | assumption | omega | (simp [*]; done) | (simp at *; omega))) rfl ?_
        refine L_op (env' := uS26n27) rfl rfl (v_move (.inr rfl) rfl) rfl ?_
        refine L_nil ?_
        have hpa : 0 ≤ a ∧ a < 64 := by assumption
        first
          | (have hE : wdP (abP J a) b ||| 1#64 <<< (b : Int).toNat = wdP (abP J a) (b + 1) := wdP_yes (by unfold abP; rw [decide_eq_true hpa, Bool.true_and]; exact sh1.1 (by assumption))); rw [hE]
          | (have hE : wdP (abP J a) b = wdP (abP J a) (b + 1) := wdP_no (by unfold abP; rw [decide_eq_true hpa, Bool.true_and]; exact sh1n.1 (by assumption))); rw [hE]
        refine K_loop [false,false,true,true,true,false,false,true,true,true,true,true,true,true,true,true,true,true,true,true,true,true,true,true,true,true,true] (env' := uS26n27) rfl ⟨b + 1, ?_, rfl, ?_⟩
        · first | omega | (simp only []; omega)
        · exact ⟨by omega, rfl⟩
    · try simp only [decide_eq_true_eq, decide_eq_false_iff_not, Bool.not_eq_true', Bool.not_eq_false', bne_iff_ne, beq_iff_eq, Bool.and_eq_true, Bool.or_eq_true, Bool.not_eq_true, ge_iff_le, gt_iff_lt, Int.not_le, Int.not_lt, beq_eq_false_iff_ne, bne_eq_false_iff_eq, ne_eq, Decidable.not_not, wd_zero, wd_one, wd_inj] at hc2
      refine B_exit ?_
      refine K_seqX ?_
      refine K_loopX ?_
      refine K_blkX ?_
      refine K_seq ?_
      refine B_seq ?_
      refine B_region ?_
      refine L_op (env' := uS26n27) rfl rfl (v_move (.inl rfl) rfl) rfl ?_
      refine L_op (env' := uS26n27) rfl rfl (v_move (.inr rfl) rfl) rfl ?_
      refine L_nil ?_
      refine K_seq ?_
      refine B_ret ?_
      refine E_app (.inr rfl) (vres_tmp rfl rfl) (by first | exact BaseOk.refl _ | exact BaseOk.set (BaseOk.refl _) _ rfl) (by first | rfl | simp [VVal.under, VVal.underL, *]) ?_
      first
        | exact ⟨by rw [abv_out (by assumption)], rfl⟩
        | (obtain rfl : b = 64 := by omega); exact ⟨rfl, rfl⟩
  · try simp only [decide_eq_true_eq, decide_eq_false_iff_not, Bool.not_eq_true', Bool.not_eq_false', bne_iff_ne, beq_iff_eq, Bool.and_eq_true, Bool.or_eq_true, Bool.not_eq_true, ge_iff_le, gt_iff_lt, Int.not_le, Int.not_lt, beq_eq_false_iff_ne, bne_eq_false_iff_eq, ne_eq, Decidable.not_not, wd_zero, wd_one, wd_inj] at hg1
    refine L_off (env' := uS26n27) rfl rfl ?_
    refine L_off (env' := uS26n27) rfl rfl ?_
    refine L_op (env' := uS26n27) rfl rfl (v_pickFC (VVal.bool false) rfl rfl rfl) rfl ?_
    refine L_nil ?_
    refine K_seq ?_
    refine B_false rfl rfl ?_
    refine B_exit ?_
    refine K_seqX ?_
    refine K_loopX ?_
    refine K_blkX ?_
    refine K_seq ?_
    refine B_seq ?_
    refine B_region ?_
    refine L_op (env' := uS26n27) rfl rfl (v_move (.inl rfl) rfl) rfl ?_
    refine L_op (env' := uS26n27) rfl rfl (v_move (.inr rfl) rfl) rfl ?_
    refine L_nil ?_
    refine K_seq ?_
    refine B_ret ?_
    refine E_app (.inr rfl) (vres_tmp rfl rfl) (by first | exact BaseOk.refl _ | exact BaseOk.set (BaseOk.refl _) _ rfl) (by first | rfl | simp [VVal.under, VVal.underL, *]) ?_
    first
      | exact ⟨by rw [abv_out (by assumption)], rfl⟩
      | (obtain rfl : b = 64 := by omega); exact ⟨rfl, rfl⟩

theorem rSpread_spec {x : SW} (H : VHeap) (q : Nat) (L : List (Int × Int)) (v : VVal) (hr : RL H q L v) (hL : L.length ≤ 1000000) (J : List (BitVec 64)) (r : Rk J) (co : CoL L J) (s : BitVec 64) : F (psys x) 75 [.ptr (some (q, 0)), iW s] H fun u G => u = iW (spr J s) ∧ G = H := by
  refine F_body Tryd.func75 rfl uS26n22 rfl ?_
  refine B_seq ?_
  refine B_region ?_
  refine L_op (env' := uS26n22) rfl rfl (v_const (VVal.int .u64 0) (.inr rfl) rfl) rfl ?_
  refine L_nil ?_
  refine K_seq ?_
  refine B_seq ?_
  refine B_region ?_
  refine L_op (env' := uS26n22) rfl rfl (v_const (VVal.int .u64 0) (.inr rfl) rfl) rfl ?_
  refine L_nil ?_
  refine K_seq ?_
  refine B_seq ?_
  refine B_seq ?_
  refine B_region ?_
  refine L_op (env' := uS26n22) rfl rfl (v_const (VVal.int .i64 0) (.inr rfl) rfl) rfl ?_
  refine L_nil ?_
  refine K_seq ?_
  refine B_block ?_
  refine B_clear [false,false,true,true,true,false,false,true,true,true,true,true,true,true,true,true,true,true,true,true,true,true] (env' := uS26n22) rfl ?_
  refine B_loopE (fun (a : Nat) => 64 - a) (fun (a : Nat) => [(5, iW (spr J (wdP s.getLsbD a))), (6, iI (a : Nat))]) (fun (a : Nat) G => (a ≤ 64) ∧ G = H ++ []) 0 (by rw [wdP_0, spr_0]; rfl) ?_ ?_
  · refine ⟨?_, rfl⟩
    exact Nat.zero_le _
  rintro a _ ⟨ha, rfl⟩
  refine B_env (env' := uS26n22) rfl ?_
  refine B_seq ?_
  refine B_seq ?_
  refine B_region ?_
  refine L_op (env' := uS26n22) rfl rfl (v_move (.inl rfl) rfl) rfl ?_
  refine L_op (env' := uS26n22) rfl rfl (rfl) rfl ?_
  refine L_nil ?_
  refine K_seq ?_
  refine B_cond _ rfl (fun hc1 => ?_) (fun hc1 => ?_)
  · try simp only [decide_eq_true_eq, decide_eq_false_iff_not, Bool.not_eq_true', Bool.not_eq_false', bne_iff_ne, beq_iff_eq, Bool.and_eq_true, Bool.or_eq_true, Bool.not_eq_true, ge_iff_le, gt_iff_lt, Int.not_le, Int.not_lt, beq_eq_false_iff_ne, bne_eq_false_iff_eq, ne_eq, Decidable.not_not, wd_zero, wd_one, wd_inj] at hc1
    refine B_skip ?_
    refine K_seq ?_
    refine B_seq ?_
    refine B_block ?_
    refine B_seq ?_
    refine B_region ?_
    refine L_op (env' := uS26n22) rfl rfl (v_move (.inl rfl) rfl) rfl ?_
    refine L_op (env' := uS26n22) rfl rfl (v_move (.inl rfl) rfl) rfl ?_
    refine L_op (env' := uS26n22) rfl rfl (v_shrW rfl rfl rfl (by first | assumption | omega | (simp [*]; done) | (simp at *; omega))) rfl ?_
    refine L_op (env' := uS26n22) rfl rfl (v_andW (b := 1#64) rfl rfl rfl) rfl ?_
    refine L_op (env' := uS26n22) rfl rfl (rfl) rfl ?_
    refine L_nil ?_
    refine K_seq ?_
    refine B_cond _ rfl (fun hc2 => ?_) (fun hc2 => ?_)
    · try simp only [decide_eq_true_eq, decide_eq_false_iff_not, Bool.not_eq_true', Bool.not_eq_false', bne_iff_ne, beq_iff_eq, Bool.and_eq_true, Bool.or_eq_true, Bool.not_eq_true, ge_iff_le, gt_iff_lt, Int.not_le, Int.not_lt, beq_eq_false_iff_ne, bne_eq_false_iff_eq, ne_eq, Decidable.not_not, wd_zero, wd_one, wd_inj] at hc2
      refine B_region ?_
      refine L_op (env' := uS26n22) rfl rfl (v_move (.inl rfl) rfl) rfl ?_
      refine L_op (env' := uS26n22) rfl rfl (v_move (.inl rfl) rfl) rfl ?_
      refine L_op (env' := uS26n22) rfl rfl (v_move (.inl rfl) rfl) rfl ?_
      refine L_call rfl rfl rfl (by exact rBelow_spec _ _ _ _ (hr.app _) hL J r co _) ?_
      rintro v2 _ ⟨hv, rfl⟩; obtain rfl : v2 = iW (spr J (1#64 <<< a)) := hv.trans (by rw [blw, if_pos (by omega)]; rfl)
      refine L_env (env' := uS26n22) rfl ?_
      refine L_op (env' := uS26n22) rfl rfl (v_orW rfl rfl rfl) rfl ?_
      refine L_op (env' := uS26n22) rfl rfl (v_move (.inr rfl) rfl) rfl ?_
      refine L_nil ?_
      refine K_blk ?_
      refine K_seq ?_
      refine B_region ?_
      refine L_op (env' := uS26n22) rfl rfl (v_move (.inl rfl) rfl) rfl ?_
      refine L_op (env' := uS26n22) rfl rfl (v_addI rfl rfl rfl (by first | assumption | omega | (simp [*]; done) | (simp at *; omega))) rfl ?_
      refine L_op (env' := uS26n22) rfl rfl (v_move (.inr rfl) rfl) rfl ?_
      refine L_nil ?_
      first
        | (have hE := spT_yes (J := J) (s := s) (a := a) (sh1.1 (by assumption))); rw [hE]
        | (have hE := spT_no (J := J) (s := s) (a := a) (sh1n.1 (by assumption))); rw [hE]
      refine K_loop [false,false,true,true,true,false,false,true,true,true,true,true,true,true,true,true,true,true,true,true,true,true] (env' := uS26n22) rfl ⟨a + 1, ?_, rfl, ?_⟩
      · first | omega | (simp only []; omega)
      · exact ⟨by omega, rfl⟩
    · try simp only [decide_eq_true_eq, decide_eq_false_iff_not, Bool.not_eq_true', Bool.not_eq_false', bne_iff_ne, beq_iff_eq, Bool.and_eq_true, Bool.or_eq_true, Bool.not_eq_true, ge_iff_le, gt_iff_lt, Int.not_le, Int.not_lt, beq_eq_false_iff_ne, bne_eq_false_iff_eq, ne_eq, Decidable.not_not, wd_zero, wd_one, wd_inj] at hc2
      refine B_skip ?_
      refine K_blk ?_
      refine K_seq ?_
      refine B_region ?_
      refine L_op (env' := uS26n22) rfl rfl (v_move (.inl rfl) rfl) rfl ?_
      refine L_op (env' := uS26n22) rfl rfl (v_addI rfl rfl rfl (by first | assumption | omega | (simp [*]; done) | (simp at *; omega))) rfl ?_
      refine L_op (env' := uS26n22) rfl rfl (v_move (.inr rfl) rfl) rfl ?_
      refine L_nil ?_
      first
        | (have hE := spT_yes (J := J) (s := s) (a := a) (sh1.1 (by assumption))); rw [hE]
        | (have hE := spT_no (J := J) (s := s) (a := a) (sh1n.1 (by assumption))); rw [hE]
      refine K_loop [false,false,true,true,true,false,false,true,true,true,true,true,true,true,true,true,true,true,true,true,true,true] (env' := uS26n22) rfl ⟨a + 1, ?_, rfl, ?_⟩
      · first | omega | (simp only []; omega)
      · exact ⟨by omega, rfl⟩
  · try simp only [decide_eq_true_eq, decide_eq_false_iff_not, Bool.not_eq_true', Bool.not_eq_false', bne_iff_ne, beq_iff_eq, Bool.and_eq_true, Bool.or_eq_true, Bool.not_eq_true, ge_iff_le, gt_iff_lt, Int.not_le, Int.not_lt, beq_eq_false_iff_ne, bne_eq_false_iff_eq, ne_eq, Decidable.not_not, wd_zero, wd_one, wd_inj] at hc1
    refine B_exit ?_
    refine K_seqX ?_
    refine K_loopX ?_
    refine K_blkX ?_
    refine K_seq ?_
    refine B_seq ?_
    refine B_region ?_
    refine L_op (env' := uS26n22) rfl rfl (v_move (.inl rfl) rfl) rfl ?_
    refine L_op (env' := uS26n22) rfl rfl (v_move (.inr rfl) rfl) rfl ?_
    refine L_nil ?_
    refine K_seq ?_
    refine B_ret ?_
    refine E_app (.inr rfl) (vres_tmp rfl rfl) (by first | exact BaseOk.refl _ | exact BaseOk.set (BaseOk.refl _) _ rfl) (by first | rfl | simp [VVal.under, VVal.underL, *]) ?_
    obtain rfl : a = 64 := by omega
    exact ⟨by rw [wdP_self], rfl⟩

theorem lkR_yes {J : List (BitVec 64)} {a b : Nat} (h : lk J a b = true) : lkR J a ((List.range (b + 1)).filter (J.getD a 0).getLsbD) = lkR J a ((List.range b).filter (J.getD a 0).getLsbD) ++ [((a : Int), (b : Int))] := by
  rw [List.range_succ, List.filter_append, List.filter_cons, if_pos (show (J.getD a 0).getLsbD b = true from h)]; unfold lkR; simp
theorem lkR_no {J : List (BitVec 64)} {a b : Nat} (h : lk J a b = false) : lkR J a ((List.range (b + 1)).filter (J.getD a 0).getLsbD) = lkR J a ((List.range b).filter (J.getD a 0).getLsbD) := by
  rw [List.range_succ, List.filter_append, List.filter_cons, if_neg (by rw [show (J.getD a 0).getLsbD b = false from h]; decide)]; simp
theorem lkR_end {J : List (BitVec 64)} {a : Nat} : lkTo J a ++ lkR J a ((List.range 64).filter (J.getD a 0).getLsbD) = lkTo J (a + 1) := by
  rw [lkTo_succ]; unfold pl; rw [← List.range_eq_range']
theorem lkT_len {J : List (BitVec 64)} {a b : Nat} (ha : a < 64) (hb : b < 64) : (lkTo J a ++ lkR J a ((List.range b).filter (J.getD a 0).getLsbD)).length ≤ 4096 + 64 := by
  have h1 := @lkTo_len J a
  have h2 : ((List.range b).filter (J.getD a 0).getLsbD).length ≤ b := Nat.le_trans (List.length_filter_le _ _) (by simp)
  rw [List.length_append]; unfold lkR; rw [List.length_map]; omega

theorem rLinks_spec {x : SW} (H : VHeap) (q : Nat) (L : List (Int × Int)) (v : VVal) (hr : RL H q L v) (hL : L.length ≤ 1000000) (J : List (BitVec 64)) (r : Rk J) (co : CoL L J) : F (psys x) 78 [.ptr (some (q, 0))] H fun u G => u = fzP (lkL J) ∧ G = H := by
  refine F_body Tryd.func78 rfl uS26n25 rfl ?_
  refine B_seq ?_
  refine B_region ?_
  refine L_op (env' := uS26n25) rfl rfl (v_const (VVal.slice none 0 0 true 0) (.inr rfl) rfl) rfl ?_
  refine L_nil ?_
  refine K_seq ?_
  refine B_seq ?_
  refine B_region ?_
  refine L_op (env' := uS26n25) rfl rfl (v_const (VVal.slice none 0 0 true 0) (.inr rfl) rfl) rfl ?_
  refine L_nil ?_
  refine K_seq ?_
  refine B_seq ?_
  refine B_seq ?_
  refine B_region ?_
  refine L_op (env' := uS26n25) rfl rfl (v_const (VVal.int .i64 0) (.inr rfl) rfl) rfl ?_
  refine L_nil ?_
  refine K_seq ?_
  refine B_block ?_
  refine B_clear [false,true,true,false,false,true,true,true,true,true,true,true,true,true,true,true,true,true,true,true,true,true,true,true,true] (env' := uS26n25) rfl ?_
  refine B_loopE (fun (⟨a, lv⟩ : Nat × VVal) => 64 - a) (fun (⟨a, lv⟩ : Nat × VVal) => [(3, lv), (4, iI (a : Nat))]) (fun (⟨a, lv⟩ : Nat × VVal) G => (a ≤ 64) ∧ ∃ X, G = H ++ X ∧ LV H.length 2 X lv ((lkTo J a).flatMap enP) (lkTo J a).length) ⟨0, _⟩ rfl ?_ ?_
  · refine ⟨?_, ⟨_, rfl, LV.nil _ _ _⟩⟩
    exact Nat.zero_le _
  rintro ⟨a, lv⟩ _ ⟨ha, ⟨X, rfl, hl⟩⟩
  refine B_env (env' := uS26n25) rfl ?_
  refine B_seq ?_
  refine B_seq ?_
  refine B_region ?_
  refine L_op (env' := uS26n25) rfl rfl (v_move (.inl rfl) rfl) rfl ?_
  refine L_op (env' := uS26n25) rfl rfl (rfl) rfl ?_
  refine L_nil ?_
  refine K_seq ?_
  refine B_cond _ rfl (fun hc1 => ?_) (fun hc1 => ?_)
  · try simp only [decide_eq_true_eq, decide_eq_false_iff_not, Bool.not_eq_true', Bool.not_eq_false', bne_iff_ne, beq_iff_eq, Bool.and_eq_true, Bool.or_eq_true, Bool.not_eq_true, ge_iff_le, gt_iff_lt, Int.not_le, Int.not_lt, beq_eq_false_iff_ne, bne_eq_false_iff_eq, ne_eq, Decidable.not_not, wd_zero, wd_one, wd_inj] at hc1
    refine B_skip ?_
    refine K_seq ?_
    refine B_seq ?_
    refine B_block ?_
    refine B_seq ?_
    refine B_region ?_
    refine L_op (env' := uS26n25) rfl rfl (v_const (VVal.int .i64 0) (.inr rfl) rfl) rfl ?_
    refine L_nil ?_
    refine K_seq ?_
    refine B_block ?_
    refine B_clear [false,true,true,false,false,false,true,true,true,true,true,true,true,true,true,true,true,true,true,true,true,true,true,true,true] (env' := uS26n25) rfl ?_
    refine B_loopE (fun (⟨b, lv⟩ : Nat × VVal) => 64 - b) (fun (⟨b, lv⟩ : Nat × VVal) => [(3, lv), (5, iI (b : Nat))]) (fun (⟨b, lv⟩ : Nat × VVal) G => (b ≤ 64) ∧ ∃ X, G = H ++ X ∧ LV H.length 2 X lv (((lkTo J a ++ lkR J a ((List.range b).filter (J.getD a 0).getLsbD))).flatMap enP) ((lkTo J a ++ lkR J a ((List.range b).filter (J.getD a 0).getLsbD))).length) ⟨0, _⟩ rfl ?_ ?_
    · refine ⟨?_, ⟨_, rfl, by show LV _ _ _ _ ((lkTo J a ++ lkR J a []).flatMap enP) (lkTo J a ++ lkR J a []).length; rw [show lkR J a [] = [] from rfl, List.append_nil]; exact hl⟩⟩
      exact Nat.zero_le _
    rintro ⟨b, lv⟩ _ ⟨hb, ⟨X, rfl, hl⟩⟩
    refine B_env (env' := uS26n25) rfl ?_
    refine B_seq ?_
    refine B_seq ?_
    refine B_region ?_
    refine L_op (env' := uS26n25) rfl rfl (v_move (.inl rfl) rfl) rfl ?_
    refine L_op (env' := uS26n25) rfl rfl (rfl) rfl ?_
    refine L_nil ?_
    refine K_seq ?_
    refine B_cond _ rfl (fun hc2 => ?_) (fun hc2 => ?_)
    · try simp only [decide_eq_true_eq, decide_eq_false_iff_not, Bool.not_eq_true', Bool.not_eq_false', bne_iff_ne, beq_iff_eq, Bool.and_eq_true, Bool.or_eq_true, Bool.not_eq_true, ge_iff_le, gt_iff_lt, Int.not_le, Int.not_lt, beq_eq_false_iff_ne, bne_eq_false_iff_eq, ne_eq, Decidable.not_not, wd_zero, wd_one, wd_inj] at hc2
      refine B_skip ?_
      refine K_seq ?_
      refine B_seq ?_
      refine B_block ?_
      refine B_seq ?_
      refine B_region ?_
      refine L_op (env' := uS26n25) rfl rfl (v_move (.inl rfl) rfl) rfl ?_
      refine L_op (env' := uS26n25) rfl rfl (v_move (.inl rfl) rfl) rfl ?_
      refine L_op (env' := uS26n25) rfl rfl (v_move (.inl rfl) rfl) rfl ?_
      refine L_call rfl rfl rfl (by exact rHas_spec _ _ _ _ (hr.app _) hL _ _) ?_
      rintro v2 _ ⟨hv, rfl⟩; obtain rfl : v2 = .bool (lk J a b) := hv.trans (by rw [co_has co r (by omega)])
      refine L_env (env' := uS26n25) rfl ?_
      refine L_nil ?_
      refine K_seq ?_
      refine B_cond _ rfl (fun hc3 => ?_) (fun hc3 => ?_)
      · try simp only [decide_eq_true_eq, decide_eq_false_iff_not, Bool.not_eq_true', Bool.not_eq_false', bne_iff_ne, beq_iff_eq, Bool.and_eq_true, Bool.or_eq_true, Bool.not_eq_true, ge_iff_le, gt_iff_lt, Int.not_le, Int.not_lt, beq_eq_false_iff_ne, bne_eq_false_iff_eq, ne_eq, Decidable.not_not, wd_zero, wd_one, wd_inj] at hc3
        refine B_region ?_
        refine L_op (env' := uS26n25) rfl rfl (v_move (.inl rfl) rfl) rfl ?_
        refine L_op (env' := uS26n25) rfl rfl (v_move (.inl rfl) rfl) rfl ?_
        refine L_op (env' := uS26n25) rfl rfl (v_move (.inl rfl) rfl) rfl ?_
        refine L_op (env' := uS26n25) rfl rfl (rfl) rfl ?_
        refine L_op (env' := uS26n25) rfl rfl (v_buildSlice rfl rfl (by decide) rfl) rfl ?_
        refine L_opX rfl rfl (v_appX rfl rfl rfl rfl rfl rfl rfl hl rfl rfl (by decide) (by have := lkT_len (J := J) (a := a) (b := b) (by omega) (by omega); show (_ + 1) * 16 ≤ _ ∧ _ + 1 ≤ _; omega) (by decide)) ?_
        rintro _ _ ⟨Y1, rfl, rfl, hY1, hY2, hY3⟩
        refine L_env (env' := uS26n25) rfl ?_
        refine L_op (env' := uS26n25) rfl rfl (v_move (.inr rfl) rfl) rfl ?_
        refine L_nil ?_
        refine K_blk ?_
        refine K_seq ?_
        refine B_region ?_
        refine L_op (env' := uS26n25) rfl rfl (v_move (.inl rfl) rfl) rfl ?_
        refine L_op (env' := uS26n25) rfl rfl (v_addI rfl rfl rfl (by first | assumption | omega | (simp [*]; done) | (simp at *; omega))) rfl ?_
        refine L_op (env' := uS26n25) rfl rfl (v_move (.inr rfl) rfl) rfl ?_
        refine L_nil ?_
        refine K_loop [false,true,true,false,false,false,true,true,true,true,true,true,true,true,true,true,true,true,true,true,true,true,true,true,true] (env' := uS26n25) rfl ⟨⟨b + 1, _⟩, ?_, rfl, ?_⟩
        · first | omega | (simp only []; omega)
        · first | exact ⟨by omega, _, rfl, by rw [lkR_yes (by assumption), ← List.append_assoc]; exact LV.pair hY3⟩ | exact ⟨by omega, _, rfl, by rw [lkR_no (by assumption)]; exact hl⟩
      · try simp only [decide_eq_true_eq, decide_eq_false_iff_not, Bool.not_eq_true', Bool.not_eq_false', bne_iff_ne, beq_iff_eq, Bool.and_eq_true, Bool.or_eq_true, Bool.not_eq_true, ge_iff_le, gt_iff_lt, Int.not_le, Int.not_lt, beq_eq_false_iff_ne, bne_eq_false_iff_eq, ne_eq, Decidable.not_not, wd_zero, wd_one, wd_inj] at hc3
        refine B_skip ?_
        refine K_blk ?_
        refine K_seq ?_
        refine B_region ?_
        refine L_op (env' := uS26n25) rfl rfl (v_move (.inl rfl) rfl) rfl ?_
        refine L_op (env' := uS26n25) rfl rfl (v_addI rfl rfl rfl (by first | assumption | omega | (simp [*]; done) | (simp at *; omega))) rfl ?_
        refine L_op (env' := uS26n25) rfl rfl (v_move (.inr rfl) rfl) rfl ?_
        refine L_nil ?_
        refine K_loop [false,true,true,false,false,false,true,true,true,true,true,true,true,true,true,true,true,true,true,true,true,true,true,true,true] (env' := uS26n25) rfl ⟨⟨b + 1, _⟩, ?_, rfl, ?_⟩
        · first | omega | (simp only []; omega)
        · first | exact ⟨by omega, _, rfl, by rw [lkR_yes (by assumption), ← List.append_assoc]; exact LV.pair hY3⟩ | exact ⟨by omega, _, rfl, by rw [lkR_no (by assumption)]; exact hl⟩
    · try simp only [decide_eq_true_eq, decide_eq_false_iff_not, Bool.not_eq_true', Bool.not_eq_false', bne_iff_ne, beq_iff_eq, Bool.and_eq_true, Bool.or_eq_true, Bool.not_eq_true, ge_iff_le, gt_iff_lt, Int.not_le, Int.not_lt, beq_eq_false_iff_ne, bne_eq_false_iff_eq, ne_eq, Decidable.not_not, wd_zero, wd_one, wd_inj] at hc2
      refine B_exit ?_
      refine K_seqX ?_
      refine K_loopX ?_
      refine K_blkX ?_
      refine K_blk ?_
      refine K_seq ?_
      refine B_region ?_
      refine L_op (env' := uS26n25) rfl rfl (v_move (.inl rfl) rfl) rfl ?_
      refine L_op (env' := uS26n25) rfl rfl (v_addI rfl rfl rfl (by first | assumption | omega | (simp [*]; done) | (simp at *; omega))) rfl ?_
      refine L_op (env' := uS26n25) rfl rfl (v_move (.inr rfl) rfl) rfl ?_
      refine L_nil ?_
      obtain rfl : b = 64 := by omega
      refine K_loop [false,true,true,false,false,true,true,true,true,true,true,true,true,true,true,true,true,true,true,true,true,true,true,true,true] (env' := uS26n25) rfl ⟨⟨a + 1, _⟩, ?_, rfl, ?_⟩
      · first | omega | (simp only []; omega)
      · exact ⟨by omega, _, rfl, by rw [← lkR_end]; exact hl⟩
  · try simp only [decide_eq_true_eq, decide_eq_false_iff_not, Bool.not_eq_true', Bool.not_eq_false', bne_iff_ne, beq_iff_eq, Bool.and_eq_true, Bool.or_eq_true, Bool.not_eq_true, ge_iff_le, gt_iff_lt, Int.not_le, Int.not_lt, beq_eq_false_iff_ne, bne_eq_false_iff_eq, ne_eq, Decidable.not_not, wd_zero, wd_one, wd_inj] at hc1
    refine B_exit ?_
    refine K_seqX ?_
    refine K_loopX ?_
    refine K_blkX ?_
    refine K_seq ?_
    refine B_seq ?_
    refine B_region ?_
    refine L_op (env' := uS26n25) rfl rfl (v_move (.inl rfl) rfl) rfl ?_
    refine L_op (env' := uS26n25) rfl rfl (v_move (.inr rfl) rfl) rfl ?_
    refine L_nil ?_
    refine K_seq ?_
    refine B_ret ?_
    refine E_gh (.inr rfl) (vres_tmp rfl rfl) (Gh.ansLV (BaseOk.refl _) hl (under_flatP _ _)) ?_
    obtain rfl : a = 64 := by omega
    exact ⟨rfl, rfl⟩

abbrev dB (d : List Int) : VBlk := .cells (d.map iI) true
theorem splice_iI {l : List Int} {k : Nat} {r : Int} (h : k < l.length) : splice (l.map iI) (0 + k * 1) [iI r] = (l.set k r).map iI := by
  rw [show 0 + k * 1 = k by omega]
  unfold splice
  rw [List.map_set, List.set_eq_take_append_cons_drop, if_pos (by rw [List.length_map]; exact h)]; simp
def dT (L : List (Int × Int)) (k i : Nat) : List Int := dPass (L.take i) (dRnd L k)
theorem dT_len {L : List (Int × Int)} {k i : Nat} : (dT L k i).length = 64 := by unfold dT; rw [dPass_len, dRnd_len]
theorem dT_bd {L : List (Int × Int)} {J : List (BitVec 64)} (c : CoL L J) (r : Rk J) {k i v : Nat} (hv : v < 64) : 0 ≤ (dT L k i).getD v 0 ∧ (dT L k i).getD v 0 ≤ 65 := by
  have hm : ∀ p, p ∈ L → p.1.toNat < 64 := fun p hp => by have := r.lnk_lt ((c.mem p).1 hp); omega
  have hr : ∀ k v, v < 64 → (dRnd L k).getD v 0 ≤ dpt J v := by
    intro k
    induction k with
    | zero => intro v hv; rw [dRnd, List.getD_eq_getElem?_getD, List.getElem?_replicate, if_pos hv]; simp
    | succ k ih => intro v hv; rw [dRnd]; exact dPass_le r dRnd_len (fun p hp => (c.mem p).1 hp) ih v hv
  have h1 : (dT L k i).getD v 0 ≤ dpt J v := dPass_le r dRnd_len (fun p hp => (c.mem p).1 (List.mem_of_mem_take hp)) (hr k) v hv
  have h2 : (dRnd L k).getD v 0 ≤ (dT L k i).getD v 0 := dPass_ge (fun p hp => by rw [dRnd_len]; exact hm p (List.mem_of_mem_take hp)) v
  have h3 := dRnd_nn (L := L) hm (k := k) v hv
  have h4 : dpt J v ≤ 65 := dep_le
  omega
theorem dT_step {L : List (Int × Int)} {k i : Nat} (hi : i < L.length) : dT L k (i + 1) = dStep (dT L k i) (L.getD (i : Int).toNat (0, 0)) := dPass_take hi
theorem dT_all {L : List (Int × Int)} {k : Nat} : dT L k L.length = dRnd L (k + 1) := by unfold dT; rw [List.take_length]; rfl

theorem rDepth_spec {x : SW} (H : VHeap) (q : Nat) (L : List (Int × Int)) (v : VVal) (hr : RL H q L v) (hL : L.length ≤ 1000000) (J : List (BitVec 64)) (r : Rk J) (co : CoL L J) (a : Int) : F (psys x) 76 [.ptr (some (q, 0)), iI a] H fun u G => u = iI (dptI J a) ∧ G = H := by
  refine F_body Tryd.func76 rfl uS26n75 rfl ?_
  refine B_seq ?_
  refine B_region ?_
  refine L_op (env' := uS26n75) rfl rfl (v_const (VVal.int .i64 0) (.inr rfl) rfl) rfl ?_
  refine L_nil ?_
  refine K_seq ?_
  refine B_seq ?_
  refine B_region ?_
  refine L_op (env' := uS26n75) rfl rfl (v_makeSlice rfl rfl rfl rfl rfl (by decide) (by decide)) rfl ?_
  refine L_op (env' := uS26n75) rfl rfl (v_move (.inr rfl) rfl) rfl ?_
  refine L_nil ?_
  refine K_seq ?_
  refine B_seq ?_
  refine B_seq ?_
  refine B_region ?_
  refine L_op (env' := uS26n75) rfl rfl (v_const (VVal.int .i64 0) (.inr rfl) rfl) rfl ?_
  refine L_nil ?_
  refine K_seq ?_
  refine B_block ?_
  refine B_clear (false :: false :: true :: true :: true :: false :: false :: true :: true :: true :: true :: true :: true :: true :: true :: true :: true :: true :: true :: true :: true :: true :: true :: true :: true :: true :: true :: true :: true :: true :: true :: true :: true :: true :: true :: true :: true :: true :: true :: true :: true :: true :: true :: true :: true :: true :: true :: true :: true :: true :: true :: true :: true :: true :: true :: true :: true :: true :: true :: true :: true :: true :: true :: true :: true :: true :: true :: true :: true :: true :: true :: true :: true :: true :: true :: []) (env' := uS26n75) rfl ?_
  refine B_loopE (fun (k : Nat) => 64 - k) (fun (k : Nat) => [(6, iI (k : Nat))]) (fun (k : Nat) G => (k ≤ 64) ∧ G = H ++ [dB (dRnd L k)]) 0 rfl ?_ ?_
  · refine ⟨?_, rfl⟩
    exact Nat.zero_le _
  rintro k _ ⟨hk, rfl⟩
  refine B_env (env' := uS26n75) rfl ?_
  refine B_seq ?_
  refine B_seq ?_
  refine B_region ?_
  refine L_op (env' := uS26n75) rfl rfl (v_move (.inl rfl) rfl) rfl ?_
  refine L_op (env' := uS26n75) rfl rfl (rfl) rfl ?_
  refine L_nil ?_
  refine K_seq ?_
  refine B_cond _ rfl (fun hc1 => ?_) (fun hc1 => ?_)
  · try simp only [decide_eq_true_eq, decide_eq_false_iff_not, Bool.not_eq_true', Bool.not_eq_false', bne_iff_ne, beq_iff_eq, Bool.and_eq_true, Bool.or_eq_true, Bool.not_eq_true, ge_iff_le, gt_iff_lt, Int.not_le, Int.not_lt, beq_eq_false_iff_ne, bne_eq_false_iff_eq, ne_eq, Decidable.not_not, wd_zero, wd_one, wd_inj] at hc1
    refine B_skip ?_
    refine K_seq ?_
    refine B_seq ?_
    refine B_block ?_
    refine B_seq ?_
    refine B_region ?_
    refine L_op (env' := uS26n75) rfl rfl (v_const (VVal.int .i64 0) (.inr rfl) rfl) rfl ?_
    refine L_nil ?_
    refine K_seq ?_
    refine B_block ?_
    refine B_clear (false :: false :: true :: true :: true :: false :: false :: false :: true :: true :: true :: true :: true :: true :: true :: true :: true :: true :: true :: true :: true :: true :: true :: true :: true :: true :: true :: true :: true :: true :: true :: true :: true :: true :: true :: true :: true :: true :: true :: true :: true :: true :: true :: true :: true :: true :: true :: true :: true :: true :: true :: true :: true :: true :: true :: true :: true :: true :: true :: true :: true :: true :: true :: true :: true :: true :: true :: true :: true :: true :: true :: true :: true :: true :: true :: []) (env' := uS26n75) rfl ?_
    refine B_loopE (fun (i : Nat) => L.length - i) (fun (i : Nat) => [(7, iI (i : Nat))]) (fun (i : Nat) G => (i ≤ L.length) ∧ G = H ++ [dB (dT L k i)]) 0 rfl ?_ ?_
    · refine ⟨?_, rfl⟩
      exact Nat.zero_le _
    rintro i _ ⟨hi, rfl⟩
    refine B_env (env' := uS26n75) rfl ?_
    refine B_seq ?_
    refine B_seq ?_
    refine B_region ?_
    refine L_op (env' := uS26n75) rfl rfl (v_move (.inl rfl) rfl) rfl ?_
    refine L_op (env' := uS26n75) rfl rfl (v_move (.inl rfl) rfl) rfl ?_
    refine L_op (env' := uS26n75) rfl rfl (rfl) rfl ?_
    refine L_op (env' := uS26n75) rfl rfl (rfl) rfl ?_
    refine L_op (env' := uS26n75) rfl rfl (by first | exact v_loadF rfl rfl rfl rfl (by first | rfl | exact pairs_c0 (by omega) | exact pairs_c1 (by omega)) | exact v_load rfl rfl rfl rfl (by first | exact get_out hr.c | exact get_out hb1 | exact get_out hb2 | exact get_out hb3 | exact get_out hb4 | exact get_app rfl rfl) (by first | rfl | exact pairs_c0 (by omega) | exact pairs_c1 (by omega))) rfl ?_
    refine L_op (env' := uS26n75) rfl rfl (v_len rfl rfl rfl rfl hr.l) rfl ?_
    refine L_op (env' := uS26n75) rfl rfl (rfl) rfl ?_
    refine L_nil ?_
    refine K_seq ?_
    refine B_cond _ rfl (fun hc2 => ?_) (fun hc2 => ?_)
    · try simp only [decide_eq_true_eq, decide_eq_false_iff_not, Bool.not_eq_true', Bool.not_eq_false', bne_iff_ne, beq_iff_eq, Bool.and_eq_true, Bool.or_eq_true, Bool.not_eq_true, ge_iff_le, gt_iff_lt, Int.not_le, Int.not_lt, beq_eq_false_iff_ne, bne_eq_false_iff_eq, ne_eq, Decidable.not_not, wd_zero, wd_one, wd_inj] at hc2
      refine B_skip ?_
      refine K_seq ?_
      refine B_seq ?_
      refine B_block ?_
      refine B_seq ?_
      have hrg := co.rg r (i := (i : Int).toNat) (show (i : Int).toNat < L.length by omega)
      have hbd := dT_bd co r (k := k) (i := i) (v := ((L.getD (i : Int).toNat (0, 0)).2).toNat) (by omega)
      refine B_draw [0, 1, 2, 3, 4, 5, 6, 7, 8, 9, 10, 11, 12, 13, 14, 15, 16, 17, 18, 19, 20, 21, 22, 23] #[0, 0, 2, 6, 14, 0, 62, 126, 254, 511, 1023, 2047, 0, 0, 8192, 24576, 57344, 0, 253952, 516096, 1040384, 2093056, 4190208, 8388607] (by kernel_rfl) (by kernel_rfl) (by kernel_rfl) ?_
      refine O_op (env' := uS26n75) (c := .calm) rfl rfl rfl (v_move (.inl rfl) rfl) rfl rfl rfl ?_
      refine O_op (env' := uS26n75) (c := .calm) rfl rfl rfl (v_move (.inl rfl) rfl) rfl rfl rfl ?_
      refine O_op (env' := uS26n75) (c := .calm) rfl rfl rfl (rfl) rfl rfl rfl ?_
      refine O_op (env' := uS26n75) (c := .calm) rfl rfl rfl (rfl) rfl rfl rfl ?_
      refine O_op (env' := uS26n75) (c := .look) rfl rfl rfl (by first | exact v_loadF rfl rfl rfl rfl (by first | rfl | exact pairs_c0 (by omega) | exact pairs_c1 (by omega)) | exact v_load rfl rfl rfl rfl (by first | exact get_out hr.c | exact get_out hb1 | exact get_out hb2 | exact get_out hb3 | exact get_out hb4 | exact get_app rfl rfl) (by first | rfl | exact pairs_c0 (by omega) | exact pairs_c1 (by omega))) rfl rfl rfl ?_
      refine O_op (env' := uS26n75) (c := .calm) rfl rfl rfl (v_move (.inl rfl) rfl) rfl rfl rfl ?_
      refine O_opX .calm rfl rfl rfl (v_idxRL rfl rfl rfl rfl rfl rfl rfl hr.l (by omega)) rfl rfl ?_
      rintro _ _ ⟨b1, rfl, rfl, hb1⟩
      refine O_env (env' := uS26n75) rfl ?_
      refine O_op (env' := uS26n75) (c := .calm) rfl rfl rfl (by first | exact v_idxFA rfl rfl rfl rfl rfl rfl (by first | assumption | omega | (simp [*]; done) | (simp at *; omega)) | exact v_idxA rfl rfl rfl rfl rfl rfl (by first | assumption | omega | (simp [*]; done) | (simp at *; omega))) rfl rfl rfl ?_
      refine O_op (env' := uS26n75) (c := .look) rfl rfl rfl (by first | exact v_loadF rfl rfl rfl rfl (by first | rfl | exact pairs_c0 (by omega) | exact pairs_c1 (by omega)) | exact v_load rfl rfl rfl rfl (by first | exact get_out hr.c | exact get_out hb1 | exact get_out hb2 | exact get_out hb3 | exact get_out hb4 | exact get_app rfl rfl) (by first | rfl | exact pairs_c0 (by omega) | exact pairs_c1 (by omega))) rfl rfl rfl ?_
      refine O_op (env' := uS26n75) (c := .calm) rfl rfl rfl (by first | exact v_idxF rfl rfl rfl rfl rfl rfl rfl (by first | assumption | omega | (simp [*]; done) | (simp at *; omega)) | exact v_idx rfl rfl rfl rfl rfl rfl rfl (by first | assumption | omega | (simp [*]; done) | (simp at *; omega))) rfl rfl rfl ?_
      refine O_op (env' := uS26n75) (c := .look) rfl rfl rfl (by first | exact v_loadF rfl rfl rfl rfl (by exact fget0 (α := Int) (l := dT L k i) (n := ((L.getD (i : Int).toNat (0, 0)).2)) 0 (by rw [dT_len]; omega)) | exact v_load rfl rfl rfl rfl (by exact get_app rfl rfl) (by exact fget0 (α := Int) (l := dT L k i) (n := ((L.getD (i : Int).toNat (0, 0)).2)) 0 (by rw [dT_len]; omega))) rfl rfl rfl ?_
      refine O_op (env' := uS26n75) (c := .calm) rfl rfl rfl (v_addI rfl rfl rfl (by first | assumption | omega | (simp [*]; done) | (simp at *; omega))) rfl rfl rfl ?_
      refine O_op (env' := uS26n75) (c := .calm) rfl rfl rfl (v_move (.inl rfl) rfl) rfl rfl rfl ?_
      refine O_op (env' := uS26n75) (c := .calm) rfl rfl rfl (v_move (.inl rfl) rfl) rfl rfl rfl ?_
      refine O_op (env' := uS26n75) (c := .calm) rfl rfl rfl (rfl) rfl rfl rfl ?_
      refine O_op (env' := uS26n75) (c := .calm) rfl rfl rfl (rfl) rfl rfl rfl ?_
      refine O_op (env' := uS26n75) (c := .look) rfl rfl rfl (by first | exact v_loadF rfl rfl rfl rfl (by first | rfl | exact pairs_c0 (by omega) | exact pairs_c1 (by omega)) | exact v_load rfl rfl rfl rfl (by first | exact get_out hr.c | exact get_out hb1 | exact get_out hb2 | exact get_out hb3 | exact get_out hb4 | exact get_app rfl rfl) (by first | rfl | exact pairs_c0 (by omega) | exact pairs_c1 (by omega))) rfl rfl rfl ?_
      refine O_op (env' := uS26n75) (c := .calm) rfl rfl rfl (v_move (.inl rfl) rfl) rfl rfl rfl ?_
      refine O_opX .calm rfl rfl rfl (v_idxRL rfl rfl rfl rfl rfl rfl rfl hr.l (by omega)) rfl rfl ?_
      rintro _ _ ⟨b2, rfl, rfl, hb2⟩
      refine O_env (env' := uS26n75) rfl ?_
      refine O_op (env' := uS26n75) (c := .calm) rfl rfl rfl (by first | exact v_idxFA rfl rfl rfl rfl rfl rfl (by first | assumption | omega | (simp [*]; done) | (simp at *; omega)) | exact v_idxA rfl rfl rfl rfl rfl rfl (by first | assumption | omega | (simp [*]; done) | (simp at *; omega))) rfl rfl rfl ?_
      refine O_op (env' := uS26n75) (c := .look) rfl rfl rfl (by first | exact v_loadF rfl rfl rfl rfl (by first | rfl | exact pairs_c0 (by omega) | exact pairs_c1 (by omega)) | exact v_load rfl rfl rfl rfl (by first | exact get_out hr.c | exact get_out hb1 | exact get_out hb2 | exact get_out hb3 | exact get_out hb4 | exact get_app rfl rfl) (by first | rfl | exact pairs_c0 (by omega) | exact pairs_c1 (by omega))) rfl rfl rfl ?_
      refine O_op (env' := uS26n75) (c := .calm) rfl rfl rfl (by first | exact v_idxF rfl rfl rfl rfl rfl rfl rfl (by first | assumption | omega | (simp [*]; done) | (simp at *; omega)) | exact v_idx rfl rfl rfl rfl rfl rfl rfl (by first | assumption | omega | (simp [*]; done) | (simp at *; omega))) rfl rfl rfl ?_
      refine O_op (env' := uS26n75) (c := .look) rfl rfl rfl (by first | exact v_loadF rfl rfl rfl rfl (by exact fget0 (α := Int) (l := dT L k i) (n := ((L.getD (i : Int).toNat (0, 0)).1)) 0 (by rw [dT_len]; omega)) | exact v_load rfl rfl rfl rfl (by exact get_app rfl rfl) (by exact fget0 (α := Int) (l := dT L k i) (n := ((L.getD (i : Int).toNat (0, 0)).1)) 0 (by rw [dT_len]; omega))) rfl rfl rfl ?_
      refine O_op (env' := uS26n75) (c := .calm) rfl rfl rfl (rfl) rfl rfl rfl ?_
      refine O_nil [] (by kernel_rfl) (trivial) ?_
      refine K_seq ?_
      refine B_cond _ rfl (fun hc3 => ?_) (fun hc3 => ?_)
      · try simp only [decide_eq_true_eq, decide_eq_false_iff_not, Bool.not_eq_true', Bool.not_eq_false', bne_iff_ne, beq_iff_eq, Bool.and_eq_true, Bool.or_eq_true, Bool.not_eq_true, ge_iff_le, gt_iff_lt, Int.not_le, Int.not_lt, beq_eq_false_iff_ne, bne_eq_false_iff_eq, ne_eq, Decidable.not_not, wd_zero, wd_one, wd_inj] at hc3
        refine B_draw [0, 1, 2, 3, 4, 5, 6, 7, 8, 9, 10, 11, 12, 13, 14, 15, 16, 17, 18, 19, 20, 21, 22] #[0, 0, 2, 6, 14, 0, 62, 126, 254, 0, 0, 1024, 3072, 7168, 0, 31744, 64512, 130048, 261632, 523776, 1048064, 2097151, 4194303] (by kernel_rfl) (by kernel_rfl) (by kernel_rfl) ?_
        refine O_op (env' := uS26n75) (c := .calm) rfl rfl rfl (v_move (.inl rfl) rfl) rfl rfl rfl ?_
        refine O_op (env' := uS26n75) (c := .calm) rfl rfl rfl (v_move (.inl rfl) rfl) rfl rfl rfl ?_
        refine O_op (env' := uS26n75) (c := .calm) rfl rfl rfl (rfl) rfl rfl rfl ?_
        refine O_op (env' := uS26n75) (c := .calm) rfl rfl rfl (rfl) rfl rfl rfl ?_
        refine O_op (env' := uS26n75) (c := .look) rfl rfl rfl (by first | exact v_loadF rfl rfl rfl rfl (by first | rfl | exact pairs_c0 (by omega) | exact pairs_c1 (by omega)) | exact v_load rfl rfl rfl rfl (by first | exact get_out hr.c | exact get_out hb1 | exact get_out hb2 | exact get_out hb3 | exact get_out hb4 | exact get_app rfl rfl) (by first | rfl | exact pairs_c0 (by omega) | exact pairs_c1 (by omega))) rfl rfl rfl ?_
        refine O_op (env' := uS26n75) (c := .calm) rfl rfl rfl (v_move (.inl rfl) rfl) rfl rfl rfl ?_
        refine O_opX .calm rfl rfl rfl (v_idxRL rfl rfl rfl rfl rfl rfl rfl hr.l (by omega)) rfl rfl ?_
        rintro _ _ ⟨b3, rfl, rfl, hb3⟩
        refine O_env (env' := uS26n75) rfl ?_
        refine O_op (env' := uS26n75) (c := .calm) rfl rfl rfl (by first | exact v_idxFA rfl rfl rfl rfl rfl rfl (by first | assumption | omega | (simp [*]; done) | (simp at *; omega)) | exact v_idxA rfl rfl rfl rfl rfl rfl (by first | assumption | omega | (simp [*]; done) | (simp at *; omega))) rfl rfl rfl ?_
        refine O_op (env' := uS26n75) (c := .look) rfl rfl rfl (by first | exact v_loadF rfl rfl rfl rfl (by first | rfl | exact pairs_c0 (by omega) | exact pairs_c1 (by omega)) | exact v_load rfl rfl rfl rfl (by first | exact get_out hr.c | exact get_out hb1 | exact get_out hb2 | exact get_out hb3 | exact get_out hb4 | exact get_app rfl rfl) (by first | rfl | exact pairs_c0 (by omega) | exact pairs_c1 (by omega))) rfl rfl rfl ?_
        refine O_op (env' := uS26n75) (c := .calm) rfl rfl rfl (v_move (.inl rfl) rfl) rfl rfl rfl ?_
        refine O_op (env' := uS26n75) (c := .calm) rfl rfl rfl (v_move (.inl rfl) rfl) rfl rfl rfl ?_
        refine O_op (env' := uS26n75) (c := .calm) rfl rfl rfl (rfl) rfl rfl rfl ?_
        refine O_op (env' := uS26n75) (c := .calm) rfl rfl rfl (rfl) rfl rfl rfl ?_
        refine O_op (env' := uS26n75) (c := .look) rfl rfl rfl (by first | exact v_loadF rfl rfl rfl rfl (by first | rfl | exact pairs_c0 (by omega) | exact pairs_c1 (by omega)) | exact v_load rfl rfl rfl rfl (by first | exact get_out hr.c | exact get_out hb1 | exact get_out hb2 | exact get_out hb3 | exact get_out hb4 | exact get_app rfl rfl) (by first | rfl | exact pairs_c0 (by omega) | exact pairs_c1 (by omega))) rfl rfl rfl ?_
        refine O_op (env' := uS26n75) (c := .calm) rfl rfl rfl (v_move (.inl rfl) rfl) rfl rfl rfl ?_
        refine O_opX .calm rfl rfl rfl (v_idxRL rfl rfl rfl rfl rfl rfl rfl hr.l (by omega)) rfl rfl ?_
        rintro _ _ ⟨b4, rfl, rfl, hb4⟩
        refine O_env (env' := uS26n75) rfl ?_
        refine O_op (env' := uS26n75) (c := .calm) rfl rfl rfl (by first | exact v_idxFA rfl rfl rfl rfl rfl rfl (by first | assumption | omega | (simp [*]; done) | (simp at *; omega)) | exact v_idxA rfl rfl rfl rfl rfl rfl (by first | assumption | omega | (simp [*]; done) | (simp at *; omega))) rfl rfl rfl ?_
        refine O_op (env' := uS26n75) (c := .look) rfl rfl rfl (by first | exact v_loadF rfl rfl rfl rfl (by first | rfl | exact pairs_c0 (by omega) | exact pairs_c1 (by omega)) | exact v_load rfl rfl rfl rfl (by first | exact get_out hr.c | exact get_out hb1 | exact get_out hb2 | exact get_out hb3 | exact get_out hb4 | exact get_app rfl rfl) (by first | rfl | exact pairs_c0 (by omega) | exact pairs_c1 (by omega))) rfl rfl rfl ?_
        refine O_op (env' := uS26n75) (c := .calm) rfl rfl rfl (by first | exact v_idxF rfl rfl rfl rfl rfl rfl rfl (by first | assumption | omega | (simp [*]; done) | (simp at *; omega)) | exact v_idx rfl rfl rfl rfl rfl rfl rfl (by first | assumption | omega | (simp [*]; done) | (simp at *; omega))) rfl rfl rfl ?_
        refine O_op (env' := uS26n75) (c := .look) rfl rfl rfl (by first | exact v_loadF rfl rfl rfl rfl (by exact fget0 (α := Int) (l := dT L k i) (n := ((L.getD (i : Int).toNat (0, 0)).2)) 0 (by rw [dT_len]; omega)) | exact v_load rfl rfl rfl rfl (by exact get_app rfl rfl) (by exact fget0 (α := Int) (l := dT L k i) (n := ((L.getD (i : Int).toNat (0, 0)).2)) 0 (by rw [dT_len]; omega))) rfl rfl rfl ?_
        refine O_op (env' := uS26n75) (c := .calm) rfl rfl rfl (v_addI rfl rfl rfl (by first | assumption | omega | (simp [*]; done) | (simp at *; omega))) rfl rfl rfl ?_
        refine O_op (env' := uS26n75) (c := .calm) rfl rfl rfl (by first | exact v_idxF rfl rfl rfl rfl rfl rfl rfl (by first | assumption | omega | (simp [*]; done) | (simp at *; omega)) | exact v_idx rfl rfl rfl rfl rfl rfl rfl (by first | assumption | omega | (simp [*]; done) | (simp at *; omega))) rfl rfl rfl ?_
        refine O_op (env' := uS26n75) (c := .turn) rfl rfl rfl (v_storeT rfl rfl rfl rfl rfl rfl rfl (by exact get_app rfl rfl) (by rw [List.length_map, dT_len]; show 0 + ((L.getD (i : Int).toNat (0, 0)).1).toNat * 1 + 1 ≤ 64; omega) (by exact (set_app rfl).trans (congrArg (fun c => H ++ [VBlk.cells c true]) (splice_iI (l := dT L k i) (k := ((L.getD (i : Int).toNat (0, 0)).1).toNat) (by rw [dT_len]; omega))))) rfl rfl rfl ?_
        refine O_nil [] (by kernel_rfl) (trivial) ?_
        refine K_blk ?_
        refine K_seq ?_
        refine B_region ?_
        refine L_op (env' := uS26n75) rfl rfl (v_move (.inl rfl) rfl) rfl ?_
        refine L_op (env' := uS26n75) rfl rfl (v_addI rfl rfl rfl (by first | assumption | omega | (simp [*]; done) | (simp at *; omega))) rfl ?_
        refine L_op (env' := uS26n75) rfl rfl (v_move (.inr rfl) rfl) rfl ?_
        refine L_nil ?_
        have hst := dT_step (L := L) (k := k) (i := i) (by omega)
        unfold dStep at hst
        first
          | rw [if_pos (by omega)] at hst
          | rw [if_neg (by omega)] at hst
        refine K_loop (false :: false :: true :: true :: true :: false :: false :: false :: true :: true :: true :: true :: true :: true :: true :: true :: true :: true :: true :: true :: true :: true :: true :: true :: true :: true :: true :: true :: true :: true :: true :: true :: true :: true :: true :: true :: true :: true :: true :: true :: true :: true :: true :: true :: true :: true :: true :: true :: true :: true :: true :: true :: true :: true :: true :: true :: true :: true :: true :: true :: true :: true :: true :: true :: true :: true :: true :: true :: true :: true :: true :: true :: true :: true :: true :: []) (env' := uS26n75) rfl ⟨i + 1, ?_, rfl, ?_⟩
        · first | omega | (simp only []; omega)
        · exact ⟨by omega, by rw [hst]⟩
      · try simp only [decide_eq_true_eq, decide_eq_false_iff_not, Bool.not_eq_true', Bool.not_eq_false', bne_iff_ne, beq_iff_eq, Bool.and_eq_true, Bool.or_eq_true, Bool.not_eq_true, ge_iff_le, gt_iff_lt, Int.not_le, Int.not_lt, beq_eq_false_iff_ne, bne_eq_false_iff_eq, ne_eq, Decidable.not_not, wd_zero, wd_one, wd_inj] at hc3
        refine B_skip ?_
        refine K_blk ?_
        refine K_seq ?_
        refine B_region ?_
        refine L_op (env' := uS26n75) rfl rfl (v_move (.inl rfl) rfl) rfl ?_
        refine L_op (env' := uS26n75) rfl rfl (v_addI rfl rfl rfl (by first | assumption | omega | (simp [*]; done) | (simp at *; omega))) rfl ?_
        refine L_op (env' := uS26n75) rfl rfl (v_move (.inr rfl) rfl) rfl ?_
        refine L_nil ?_
        have hst := dT_step (L := L) (k := k) (i := i) (by omega)
        unfold dStep at hst
        first
          | rw [if_pos (by omega)] at hst
          | rw [if_neg (by omega)] at hst
        refine K_loop (false :: false :: true :: true :: true :: false :: false :: false :: true :: true :: true :: true :: true :: true :: true :: true :: true :: true :: true :: true :: true :: true :: true :: true :: true :: true :: true :: true :: true :: true :: true :: true :: true :: true :: true :: true :: true :: true :: true :: true :: true :: true :: true :: true :: true :: true :: true :: true :: true :: true :: true :: true :: true :: true :: true :: true :: true :: true :: true :: true :: true :: true :: true :: true :: true :: true :: true :: true :: true :: true :: true :: true :: true :: true :: true :: []) (env' := uS26n75) rfl ⟨i + 1, ?_, rfl, ?_⟩
        · first | omega | (simp only []; omega)
        · exact ⟨by omega, by rw [hst]⟩
    · try simp only [decide_eq_true_eq, decide_eq_false_iff_not, Bool.not_eq_true', Bool.not_eq_false', bne_iff_ne, beq_iff_eq, Bool.and_eq_true, Bool.or_eq_true, Bool.not_eq_true, ge_iff_le, gt_iff_lt, Int.not_le, Int.not_lt, beq_eq_false_iff_ne, bne_eq_false_iff_eq, ne_eq, Decidable.not_not, wd_zero, wd_one, wd_inj] at hc2
      refine B_exit ?_
      refine K_seqX ?_
      refine K_loopX ?_
      refine K_blkX ?_
      refine K_blk ?_
      refine K_seq ?_
      refine B_region ?_
      refine L_op (env' := uS26n75) rfl rfl (v_move (.inl rfl) rfl) rfl ?_
      refine L_op (env' := uS26n75) rfl rfl (v_addI rfl rfl rfl (by first | assumption | omega | (simp [*]; done) | (simp at *; omega))) rfl ?_
      refine L_op (env' := uS26n75) rfl rfl (v_move (.inr rfl) rfl) rfl ?_
      refine L_nil ?_
      obtain rfl : i = L.length := by omega
      refine K_loop (false :: false :: true :: true :: true :: false :: false :: true :: true :: true :: true :: true :: true :: true :: true :: true :: true :: true :: true :: true :: true :: true :: true :: true :: true :: true :: true :: true :: true :: true :: true :: true :: true :: true :: true :: true :: true :: true :: true :: true :: true :: true :: true :: true :: true :: true :: true :: true :: true :: true :: true :: true :: true :: true :: true :: true :: true :: true :: true :: true :: true :: true :: true :: true :: true :: true :: true :: true :: true :: true :: true :: true :: true :: true :: true :: []) (env' := uS26n75) rfl ⟨k + 1, ?_, rfl, ?_⟩
      · first | omega | (simp only []; omega)
      · exact ⟨by omega, by rw [← dT_all]⟩
  · try simp only [decide_eq_true_eq, decide_eq_false_iff_not, Bool.not_eq_true', Bool.not_eq_false', bne_iff_ne, beq_iff_eq, Bool.and_eq_true, Bool.or_eq_true, Bool.not_eq_true, ge_iff_le, gt_iff_lt, Int.not_le, Int.not_lt, beq_eq_false_iff_ne, bne_eq_false_iff_eq, ne_eq, Decidable.not_not, wd_zero, wd_one, wd_inj] at hc1
    refine B_exit ?_
    refine K_seqX ?_
    refine K_loopX ?_
    refine K_blkX ?_
    refine K_seq ?_
    refine B_seq ?_
    refine B_seq ?_
    refine B_region ?_
    refine L_op (env' := uS26n75) rfl rfl (v_move (.inl rfl) rfl) rfl ?_
    refine L_call rfl rfl rfl (by exact place_spec _ _) ?_
    rintro _ _ ⟨rfl, rfl⟩
    refine L_env (env' := uS26n75) rfl ?_
    refine L_op (env' := uS26n75) rfl rfl (rfl) rfl ?_
    refine L_nil ?_
    refine K_seq ?_
    refine B_cond _ rfl (fun hc4 => ?_) (fun hc4 => ?_)
    · try simp only [decide_eq_true_eq, decide_eq_false_iff_not, Bool.not_eq_true', Bool.not_eq_false', bne_iff_ne, beq_iff_eq, Bool.and_eq_true, Bool.or_eq_true, Bool.not_eq_true, ge_iff_le, gt_iff_lt, Int.not_le, Int.not_lt, beq_eq_false_iff_ne, bne_eq_false_iff_eq, ne_eq, Decidable.not_not, wd_zero, wd_one, wd_inj] at hc4
      refine B_seq ?_
      refine B_region ?_
      refine L_op (env' := uS26n75) rfl rfl (v_const (VVal.int .i64 0) (.inr rfl) rfl) rfl ?_
      refine L_nil ?_
      refine K_seq ?_
      refine B_ret ?_
      refine K_seqR ?_
      refine E_app (.inr rfl) (vres_tmp rfl rfl) (by first | exact BaseOk.refl _ | exact BaseOk.set (BaseOk.refl _) _ rfl) (by first | rfl | simp [VVal.under, VVal.underL, *]) ?_
      obtain rfl : k = 64 := by omega
      first
        | exact ⟨by rw [dptI, if_neg (by assumption)], rfl⟩
        | exact ⟨by rw [dptI, if_pos (by assumption), dRnd_is co r (by omega)], rfl⟩
    · try simp only [decide_eq_true_eq, decide_eq_false_iff_not, Bool.not_eq_true', Bool.not_eq_false', bne_iff_ne, beq_iff_eq, Bool.and_eq_true, Bool.or_eq_true, Bool.not_eq_true, ge_iff_le, gt_iff_lt, Int.not_le, Int.not_lt, beq_eq_false_iff_ne, bne_eq_false_iff_eq, ne_eq, Decidable.not_not, wd_zero, wd_one, wd_inj] at hc4
      refine B_skip ?_
      refine K_seq ?_
      refine B_seq ?_
      refine B_region ?_
      refine L_op (env' := uS26n75) rfl rfl (v_move (.inl rfl) rfl) rfl ?_
      refine L_op (env' := uS26n75) rfl rfl (v_move (.inl rfl) rfl) rfl ?_
      refine L_op (env' := uS26n75) rfl rfl (by first | exact v_idxF rfl rfl rfl rfl rfl rfl rfl (by first | assumption | omega | (simp [*]; done) | (simp at *; omega)) | exact v_idx rfl rfl rfl rfl rfl rfl rfl (by first | assumption | omega | (simp [*]; done) | (simp at *; omega))) rfl ?_
      refine L_op (env' := uS26n75) rfl rfl (by first | exact v_loadF rfl rfl rfl rfl (by exact fget0 (α := Int) (l := dRnd L k) (n := a) 0 (by rw [dRnd_len]; omega)) | exact v_load rfl rfl rfl rfl (by exact get_app rfl rfl) (by exact fget0 (α := Int) (l := dRnd L k) (n := a) 0 (by rw [dRnd_len]; omega))) rfl ?_
      refine L_op (env' := uS26n75) rfl rfl (v_move (.inr rfl) rfl) rfl ?_
      refine L_nil ?_
      refine K_seq ?_
      refine B_ret ?_
      refine E_app (.inr rfl) (vres_tmp rfl rfl) (by first | exact BaseOk.refl _ | exact BaseOk.set (BaseOk.refl _) _ rfl) (by first | rfl | simp [VVal.under, VVal.underL, *]) ?_
      obtain rfl : k = 64 := by omega
      first
        | exact ⟨by rw [dptI, if_neg (by assumption)], rfl⟩
        | exact ⟨by rw [dptI, if_pos (by assumption), dRnd_is co r (by omega)], rfl⟩
end Go.Proofs.YteocbhgdmpdklaaDoor.VT
