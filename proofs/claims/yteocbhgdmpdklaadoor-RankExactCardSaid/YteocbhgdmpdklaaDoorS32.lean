/- two hierarchies play: walk -/
import Derived.Test.YteocbhgdmpdklaaDoorS29
import Derived.Test.YteocbhgdmpdklaaDoorV25
import Derived.Test.YteocbhgdmpdklaaDoorS31
set_option autoImplicit false
set_option linter.unusedVariables false
set_option linter.unusedSimpArgs false
set_option maxHeartbeats 4000000
set_option maxRecDepth 100000
namespace Go.Proofs.YteocbhgdmpdklaaDoor.VT
open Go Go.V Go.RowKit

abbrev uS32n132 {a0 a1 a2 a3 a4 a5 a6 a7 a8 a9 a10 a11 a12 a13 a14 a15 a16 a17 a18 a19 a20 a21 a22 a23 a24 a25 a26 a27 a28 a29 a30 a31 a32 a33 a34 a35 a36 a37 a38 a39 a40 a41 a42 a43 a44 a45 a46 a47 a48 a49 a50 a51 a52 a53 a54 a55 a56 a57 a58 a59 a60 a61 a62 a63 a64 a65 a66 a67 a68 a69 a70 a71 a72 a73 a74 a75 a76 a77 a78 a79 a80 a81 a82 a83 a84 a85 a86 a87 a88 a89 a90 a91 a92 a93 a94 a95 a96 a97 a98 a99 a100 a101 a102 a103 a104 a105 a106 a107 a108 a109 a110 a111 a112 a113 a114 a115 a116 a117 a118 a119 a120 a121 a122 a123 a124 a125 a126 a127 a128 a129 a130 a131 : VVal} : VEnv := a0 :: a1 :: a2 :: a3 :: a4 :: a5 :: a6 :: a7 :: a8 :: a9 :: a10 :: a11 :: a12 :: a13 :: a14 :: a15 :: a16 :: a17 :: a18 :: a19 :: a20 :: a21 :: a22 :: a23 :: a24 :: a25 :: a26 :: a27 :: a28 :: a29 :: a30 :: a31 :: a32 :: a33 :: a34 :: a35 :: a36 :: a37 :: a38 :: a39 :: a40 :: a41 :: a42 :: a43 :: a44 :: a45 :: a46 :: a47 :: a48 :: a49 :: a50 :: a51 :: a52 :: a53 :: a54 :: a55 :: a56 :: a57 :: a58 :: a59 :: a60 :: a61 :: a62 :: a63 :: a64 :: a65 :: a66 :: a67 :: a68 :: a69 :: a70 :: a71 :: a72 :: a73 :: a74 :: a75 :: a76 :: a77 :: a78 :: a79 :: a80 :: a81 :: a82 :: a83 :: a84 :: a85 :: a86 :: a87 :: a88 :: a89 :: a90 :: a91 :: a92 :: a93 :: a94 :: a95 :: a96 :: a97 :: a98 :: a99 :: a100 :: a101 :: a102 :: a103 :: a104 :: a105 :: a106 :: a107 :: a108 :: a109 :: a110 :: a111 :: a112 :: a113 :: a114 :: a115 :: a116 :: a117 :: a118 :: a119 :: a120 :: a121 :: a122 :: a123 :: a124 :: a125 :: a126 :: a127 :: a128 :: a129 :: a130 :: a131 :: []

theorem Over_out {x : SW} (H X : VHeap) (p : Nat) (J : List (BitVec 64)) (hp : H[p]? = some (rkB J)) (hJ : J.length = 64) (s j : Int) : F (psys x) 30 [.ptr (some (p, 0)), iI s, iI j] (H ++ X) fun v G => v = iI (ovE J s j) ∧ G = H.set p (rkB (ovJ J s j)) ++ X := by
  have := Over_spec (x := x) (H ++ X) p J (get_out hp) hJ s j
  rw [set_out (lt_of_get hp)] at this; exact this
theorem Cut_out {x : SW} (H X : VHeap) (p : Nat) (J : List (BitVec 64)) (hp : H[p]? = some (rkB J)) (hJ : J.length = 64) (s j : Int) : F (psys x) 29 [.ptr (some (p, 0)), iI s, iI j] (H ++ X) fun v G => v = iI (ctE J s j) ∧ G = H.set p (rkB (ctJ J s j)) ++ X := by
  have := Cut_spec (x := x) (H ++ X) p J (get_out hp) hJ s j
  rw [set_out (lt_of_get hp)] at this; exact this
theorem Drop_out {x : SW} (H X : VHeap) (p : Nat) (J : List (BitVec 64)) (hp : H[p]? = some (rkB J)) (hJ : J.length = 64) (s : Int) : F (psys x) 35 [.ptr (some (p, 0)), iI s] (H ++ X) fun v G => v = iI (drN J s) ∧ G = H.set p (rkB (drJ J s)) ++ X := by
  have := Drop_spec (x := x) (H ++ X) p J (get_out hp) hJ s
  rw [set_out (lt_of_get hp)] at this; exact this
/-- one hierarchy of the program's, and the document's -/
structure Side (H : VHeap) (p q : Nat) (J : List (BitVec 64)) (L : List (Int × Int)) (v : VVal) : Prop where
  pc : H[p]? = some (rkB J)
  rl : RL H q L v
  pq : p ≠ q
  pv : vidx v ≠ some p
  rk : Rk J
  co : CoL L J
/-- what a call leaves of the rest -/
structure Upd2 (H G : VHeap) (p q : Nat) (v v' : VVal) : Prop where
  len : H.length ≤ G.length
  fr : ∀ i, i < H.length → i ≠ p → i ≠ q → vidx v ≠ some i → G[i]? = H[i]?
  nv : vidx v' = vidx v ∨ ∀ n, vidx v' = some n → H.length ≤ n
theorem Upd2.same {H X : VHeap} {p q : Nat} {v : VVal} : Upd2 H (H ++ X) p q v v := ⟨by simp, fun i hi _ _ _ => List.getElem?_append_left hi, .inl rfl⟩
theorem Side.app {H : VHeap} {p q : Nat} {J : List (BitVec 64)} {L : List (Int × Int)} {v : VVal} (s : Side H p q J L v) (X : VHeap) : Side (H ++ X) p q J L v := ⟨get_append s.pc, s.rl.app X, s.pq, s.pv, s.rk, s.co⟩
theorem RL.setp {H : VHeap} {p q : Nat} {L : List (Int × Int)} {v : VVal} {k : VBlk} (r : RL H q L v) (h1 : p ≠ q) (h2 : vidx v ≠ some p) : RL (H.set p k) q L v :=
  ⟨by rw [List.getElem?_set_ne h1]; exact r.c, r.l.frame fun i hi => by rw [Nat.zero_add] at hi; rw [List.getElem?_set_ne (fun e => h2 (by rw [hi, e]))], r.n⟩
theorem side_new {H X G : VHeap} {p q : Nat} {J J' : List (BitVec 64)} {L L' : List (Int × Int)} {v v' : VVal} (s : Side H p q J L v) (rk : Rk J') (rl : RL G q L' v') (co : CoL L' J') (u : Upd (H.set p (rkB J') ++ X) G q v v') : Side G p q J' L' v' ∧ Upd2 H G p q v v' := by
  have hp := lt_of_get s.pc
  have hl : (H.set p (rkB J') ++ X).length = H.length + X.length := by simp
  refine ⟨⟨?_, rl, s.pq, ?_, rk, co⟩, ⟨by have := u.len; omega, fun i hi h1 h2 h3 => ?_, ?_⟩⟩
  · rw [u.fr p (by omega) s.pq s.pv]; exact get_out (List.getElem?_set_self hp)
  · rcases u.nv with e | e
    · rw [e]; exact s.pv
    · intro e2; have := e p e2; omega
  · rw [u.fr i (by omega) h2 h3, List.getElem?_append_left (by rw [List.length_set]; exact hi), List.getElem?_set_ne (Ne.symm h1)]
  · rcases u.nv with e | e
    · exact .inl e
    · exact .inr fun n h => by have := e n h; omega
theorem has_same {L : List (Int × Int)} {J : List (BitVec 64)} (c : CoL L J) (r : Rk J) {a b : Int} : hasB J a b = hasL L a b := by
  by_cases h : (0 ≤ a ∧ a < 64) ∧ 0 ≤ b ∧ b < 64
  · exact (has_B c r h).symm
  · have h1 : hasB J a b = false := by
      unfold hasB
      by_cases ha : 0 ≤ a ∧ a < 64
      · rw [decide_eq_false (fun hb => h ⟨ha, hb⟩), Bool.false_and, Bool.and_false]
      · rw [decide_eq_false ha, Bool.false_and]
    rw [h1]
    cases hh : hasL L a b with
    | false => rfl
    | true =>
      have := r.lnk_lt ((c.mem _).1 (hasL_iff.1 hh))
      exact absurd ⟨⟨this.1, this.2.1⟩, this.2.2.1, this.2.2.2.1⟩ h
abbrev PL (H : VHeap) (p q : Nat) (L : List (Int × Int)) (v u : VVal) (G : VHeap) : Prop := u = .bool true ∧ ∃ J' L' v', Side G p q J' L' v' ∧ L'.length ≤ L.length + 1 ∧ Upd2 H G p q v v'

theorem plays_spec {x : SW} (H : VHeap) (p q : Nat) (J : List (BitVec 64)) (L : List (Int × Int)) (v : VVal) (s : Side H p q J L v) (hL : L.length ≤ 1000000) (o : OpT) : F (psys x) 45 [.agg [.ptr (some (p, 0)), .ptr (some (q, 0))], .agg (enO o)] H fun u G => PL H p q L v u G := by
  refine F_body Tryd.func45 rfl uS32n132 rfl ?_
  refine B_seq ?_
  refine B_region ?_
  refine L_op (env' := uS32n132) rfl rfl (v_boxT rfl rfl rfl) rfl ?_
  refine L_op (env' := uS32n132) rfl rfl (v_boxT rfl rfl rfl) rfl ?_
  refine L_op (env' := uS32n132) rfl rfl (v_const (VVal.bool false) (.inr rfl) rfl) rfl ?_
  refine L_nil ?_
  refine K_seq ?_
  refine B_seq ?_
  refine B_seq ?_
  refine B_region ?_
  refine L_op (env' := uS32n132) rfl rfl (rfl) rfl ?_
  refine L_op (env' := uS32n132) rfl rfl (by first | exact v_loadF rfl rfl rfl rfl (by rfl) | exact v_load rfl rfl rfl rfl (by first | exact get_app rfl rfl | exact get_app (by simp) rfl) (by rfl)) rfl ?_
  refine L_nil ?_
  refine K_seq ?_
  refine B_block ?_
  refine B_seq ?_
  refine B_region ?_
  refine L_op (env' := uS32n132) rfl rfl (rfl) rfl ?_
  refine L_op (env' := uS32n132) rfl rfl (v_move (.inr rfl) rfl) rfl ?_
  refine L_nil ?_
  refine K_seq ?_
  refine B_cond _ rfl (fun hc1 => ?_) (fun hc1 => ?_)
  · try simp only [decide_eq_true_eq, decide_eq_false_iff_not, Bool.not_eq_true', Bool.not_eq_false', bne_iff_ne, beq_iff_eq, Bool.and_eq_true, Bool.or_eq_true, Bool.not_eq_true, ge_iff_le, gt_iff_lt, Int.not_le, Int.not_lt, beq_eq_false_iff_ne, bne_eq_false_iff_eq, ne_eq, Decidable.not_not, wd_zero, wd_one, wd_inj] at hc1
    refine B_seq ?_
    refine B_drawP #[0, 1, 0, 4, 0, 16, 63, 0, 128, 0, 512, 0, 2048, 8191, 16383, 32767] (by kernel_rfl) ?_
    refine P_seg [0, 1, 2, 3, 4, 5, 7, 8, 9, 10, 11, 12, 6] (bef := #[0, 1, 0, 4, 0, 16, 63, 0, 128, 0, 512, 0, 2048, 8191, 16383, 32767]) (by kernel_rfl) (by kernel_rfl) (by kernel_rfl) ?_
    refine O_op (env' := uS32n132) (c := .calm) rfl rfl rfl (rfl) rfl rfl rfl ?_
    refine O_op (env' := uS32n132) (c := .look) rfl rfl rfl (by first | exact v_loadF rfl rfl rfl rfl (by rfl) | exact v_load rfl rfl rfl rfl (by first | exact get_app rfl rfl | exact get_app (by simp) rfl) (by rfl)) rfl rfl rfl ?_
    refine O_op (env' := uS32n132) (c := .calm) rfl rfl rfl (rfl) rfl rfl rfl ?_
    refine O_op (env' := uS32n132) (c := .look) rfl rfl rfl (by first | exact v_loadF rfl rfl rfl rfl (by rfl) | exact v_load rfl rfl rfl rfl (by first | exact get_app rfl rfl | exact get_app (by simp) rfl) (by rfl)) rfl rfl rfl ?_
    refine O_op (env' := uS32n132) (c := .calm) rfl rfl rfl (rfl) rfl rfl rfl ?_
    refine O_op (env' := uS32n132) (c := .look) rfl rfl rfl (by first | exact v_loadF rfl rfl rfl rfl (by rfl) | exact v_load rfl rfl rfl rfl (by first | exact get_app rfl rfl | exact get_app (by simp) rfl) (by rfl)) rfl rfl rfl ?_
    refine O_op (env' := uS32n132) (c := .calm) rfl rfl rfl (rfl) rfl rfl rfl ?_
    refine O_opI (env' := uS32n132) (x := .look _ _) rfl rfl rfl (by first | exact v_loadF rfl rfl rfl rfl (by rfl) | exact v_load rfl rfl rfl rfl (by first | exact get_app rfl rfl | exact get_app (by simp) rfl) (by rfl)) rfl rfl rfl ?_
    refine O_op (env' := uS32n132) (c := .calm) rfl rfl rfl (rfl) rfl rfl rfl ?_
    refine O_opI (env' := uS32n132) (x := .look _ _) rfl rfl rfl (by first | exact v_loadF rfl rfl rfl rfl (by rfl) | exact v_load rfl rfl rfl rfl (by first | exact get_app rfl rfl | exact get_app (by simp) rfl) (by rfl)) rfl rfl rfl ?_
    refine O_op (env' := uS32n132) (c := .calm) rfl rfl rfl (rfl) rfl rfl rfl ?_
    refine O_opI (env' := uS32n132) (x := .look _ _) rfl rfl rfl (by first | exact v_loadF rfl rfl rfl rfl (by rfl) | exact v_load rfl rfl rfl rfl (by first | exact get_app rfl rfl | exact get_app (by simp) rfl) (by rfl)) rfl rfl rfl ?_
    refine O_call (env' := uS32n132) rfl rfl rfl rfl rfl (by exact Over_out _ _ p J s.pc s.rk.len _ _) (by first | exact Nat.le_refl _ | (simp; done)) rfl rfl ?_
    refine O_nilP [(7, 12), (9, 12), (11, 12)] (by kernel_rfl) (And.intro ⟨_, _, _, _, ⟨(gA (gA (gA (gA (gA (gL (by kernel_rfl))))))), (gL (by kernel_rfl)), And.intro (by first | exact v_loadF rfl rfl rfl rfl (by rfl) | exact v_load rfl rfl rfl rfl (by first | exact get_app rfl rfl | exact get_app (by simp) rfl) (by rfl)) (by first | exact v_loadF rfl rfl rfl rfl (by rfl) | exact v_load rfl rfl rfl rfl (by first | exact get_app rfl rfl | exact get_app (by simp) rfl) (by rfl))⟩⟩ (And.intro ⟨_, _, _, _, ⟨(gA (gA (gA (gL (by kernel_rfl))))), (gL (by kernel_rfl)), And.intro (by first | exact v_loadF rfl rfl rfl rfl (by rfl) | exact v_load rfl rfl rfl rfl (by first | exact get_app rfl rfl | exact get_app (by simp) rfl) (by rfl)) (by first | exact v_loadF rfl rfl rfl rfl (by rfl) | exact v_load rfl rfl rfl rfl (by first | exact get_app rfl rfl | exact get_app (by simp) rfl) (by rfl))⟩⟩ (And.intro ⟨_, _, _, _, ⟨(gA (gL (by kernel_rfl))), (gL (by kernel_rfl)), And.intro (by first | exact v_loadF rfl rfl rfl rfl (by rfl) | exact v_load rfl rfl rfl rfl (by first | exact get_app rfl rfl | exact get_app (by simp) rfl) (by rfl)) (by first | exact v_loadF rfl rfl rfl rfl (by rfl) | exact v_load rfl rfl rfl rfl (by first | exact get_app rfl rfl | exact get_app (by simp) rfl) (by rfl))⟩⟩ (trivial)))) ?_
    refine P_call 13 (bef := #[0, 1, 0, 4, 0, 16, 63, 0, 128, 0, 512, 0, 2048, 8191, 16383, 32767]) (by kernel_rfl) (by kernel_rfl) rfl rfl rfl rfl (by exact rOver_spec _ q L v ((s.rl.setp s.pq s.pv).app _) hL J s.rk s.co _ _) ?_
    rintro _ G2 ⟨rfl, L2, v2, h1, h2, h3, h4⟩
    refine P_env (env' := uS32n132) rfl ?_
    refine P_seg [14, 15] (bef := #[0, 1, 0, 4, 0, 16, 63, 0, 128, 0, 512, 0, 2048, 8191, 16383, 32767]) (by kernel_rfl) (by kernel_rfl) (by kernel_rfl) ?_
    refine O_op (env' := uS32n132) (c := .calm) rfl rfl rfl (v_is true rfl (by simp)) rfl rfl rfl ?_
    refine O_op (env' := uS32n132) (c := .calm) rfl rfl rfl (v_move (.inr rfl) rfl) rfl rfl rfl ?_
    refine O_nil [] (by kernel_rfl) (trivial) ?_
    refine P_end (by kernel_rfl) ?_
    refine K_seq ?_
    refine B_ret ?_
    refine K_blkR ?_
    refine K_seqR ?_
    refine E_keep (.inr rfl) (vres_tmp rfl rfl) ?_
    first
      | exact ⟨by first | rfl | (rw [decide_eq_true rfl]; done) | (rw [decide_eq_true rfl]; rfl), J, L, v, s.app _, by omega, Upd2.same⟩
      | exact ⟨rfl, _, L2, v2, (side_new s s.rk.ovJ h1 h2 h4).1, h3, (side_new s s.rk.ovJ h1 h2 h4).2⟩
      | exact ⟨rfl, _, L2, v2, (side_new s s.rk.ctJ h1 h2 h4).1, h3, (side_new s s.rk.ctJ h1 h2 h4).2⟩
      | exact ⟨rfl, _, L2, v2, (side_new s s.rk.drJ h1 h2 h4).1, h3, (side_new s s.rk.drJ h1 h2 h4).2⟩
  · try simp only [decide_eq_true_eq, decide_eq_false_iff_not, Bool.not_eq_true', Bool.not_eq_false', bne_iff_ne, beq_iff_eq, Bool.and_eq_true, Bool.or_eq_true, Bool.not_eq_true, ge_iff_le, gt_iff_lt, Int.not_le, Int.not_lt, beq_eq_false_iff_ne, bne_eq_false_iff_eq, ne_eq, Decidable.not_not, wd_zero, wd_one, wd_inj] at hc1
    refine B_seq ?_
    refine B_region ?_
    refine L_op (env' := uS32n132) rfl rfl (rfl) rfl ?_
    refine L_op (env' := uS32n132) rfl rfl (v_move (.inr rfl) rfl) rfl ?_
    refine L_nil ?_
    refine K_seq ?_
    refine B_cond _ rfl (fun hc2 => ?_) (fun hc2 => ?_)
    · try simp only [decide_eq_true_eq, decide_eq_false_iff_not, Bool.not_eq_true', Bool.not_eq_false', bne_iff_ne, beq_iff_eq, Bool.and_eq_true, Bool.or_eq_true, Bool.not_eq_true, ge_iff_le, gt_iff_lt, Int.not_le, Int.not_lt, beq_eq_false_iff_ne, bne_eq_false_iff_eq, ne_eq, Decidable.not_not, wd_zero, wd_one, wd_inj] at hc2
      refine B_seq ?_
      refine B_drawP #[0, 1, 0, 4, 0, 16, 63, 0, 128, 0, 512, 0, 2048, 8191, 16383, 32767] (by kernel_rfl) ?_
      refine P_seg [0, 1, 2, 3, 4, 5, 7, 8, 9, 10, 11, 12, 6] (bef := #[0, 1, 0, 4, 0, 16, 63, 0, 128, 0, 512, 0, 2048, 8191, 16383, 32767]) (by kernel_rfl) (by kernel_rfl) (by kernel_rfl) ?_
      refine O_op (env' := uS32n132) (c := .calm) rfl rfl rfl (rfl) rfl rfl rfl ?_
      refine O_op (env' := uS32n132) (c := .look) rfl rfl rfl (by first | exact v_loadF rfl rfl rfl rfl (by rfl) | exact v_load rfl rfl rfl rfl (by first | exact get_app rfl rfl | exact get_app (by simp) rfl) (by rfl)) rfl rfl rfl ?_
      refine O_op (env' := uS32n132) (c := .calm) rfl rfl rfl (rfl) rfl rfl rfl ?_
      refine O_op (env' := uS32n132) (c := .look) rfl rfl rfl (by first | exact v_loadF rfl rfl rfl rfl (by rfl) | exact v_load rfl rfl rfl rfl (by first | exact get_app rfl rfl | exact get_app (by simp) rfl) (by rfl)) rfl rfl rfl ?_
      refine O_op (env' := uS32n132) (c := .calm) rfl rfl rfl (rfl) rfl rfl rfl ?_
      refine O_op (env' := uS32n132) (c := .look) rfl rfl rfl (by first | exact v_loadF rfl rfl rfl rfl (by rfl) | exact v_load rfl rfl rfl rfl (by first | exact get_app rfl rfl | exact get_app (by simp) rfl) (by rfl)) rfl rfl rfl ?_
      refine O_op (env' := uS32n132) (c := .calm) rfl rfl rfl (rfl) rfl rfl rfl ?_
      refine O_opI (env' := uS32n132) (x := .look _ _) rfl rfl rfl (by first | exact v_loadF rfl rfl rfl rfl (by rfl) | exact v_load rfl rfl rfl rfl (by first | exact get_app rfl rfl | exact get_app (by simp) rfl) (by rfl)) rfl rfl rfl ?_
      refine O_op (env' := uS32n132) (c := .calm) rfl rfl rfl (rfl) rfl rfl rfl ?_
      refine O_opI (env' := uS32n132) (x := .look _ _) rfl rfl rfl (by first | exact v_loadF rfl rfl rfl rfl (by rfl) | exact v_load rfl rfl rfl rfl (by first | exact get_app rfl rfl | exact get_app (by simp) rfl) (by rfl)) rfl rfl rfl ?_
      refine O_op (env' := uS32n132) (c := .calm) rfl rfl rfl (rfl) rfl rfl rfl ?_
      refine O_opI (env' := uS32n132) (x := .look _ _) rfl rfl rfl (by first | exact v_loadF rfl rfl rfl rfl (by rfl) | exact v_load rfl rfl rfl rfl (by first | exact get_app rfl rfl | exact get_app (by simp) rfl) (by rfl)) rfl rfl rfl ?_
      refine O_call (env' := uS32n132) rfl rfl rfl rfl rfl (by exact Cut_out _ _ p J s.pc s.rk.len _ _) (by first | exact Nat.le_refl _ | (simp; done)) rfl rfl ?_
      refine O_nilP [(7, 12), (9, 12), (11, 12)] (by kernel_rfl) (And.intro ⟨_, _, _, _, ⟨(gA (gA (gA (gA (gA (gL (by kernel_rfl))))))), (gL (by kernel_rfl)), And.intro (by first | exact v_loadF rfl rfl rfl rfl (by rfl) | exact v_load rfl rfl rfl rfl (by first | exact get_app rfl rfl | exact get_app (by simp) rfl) (by rfl)) (by first | exact v_loadF rfl rfl rfl rfl (by rfl) | exact v_load rfl rfl rfl rfl (by first | exact get_app rfl rfl | exact get_app (by simp) rfl) (by rfl))⟩⟩ (And.intro ⟨_, _, _, _, ⟨(gA (gA (gA (gL (by kernel_rfl))))), (gL (by kernel_rfl)), And.intro (by first | exact v_loadF rfl rfl rfl rfl (by rfl) | exact v_load rfl rfl rfl rfl (by first | exact get_app rfl rfl | exact get_app (by simp) rfl) (by rfl)) (by first | exact v_loadF rfl rfl rfl rfl (by rfl) | exact v_load rfl rfl rfl rfl (by first | exact get_app rfl rfl | exact get_app (by simp) rfl) (by rfl))⟩⟩ (And.intro ⟨_, _, _, _, ⟨(gA (gL (by kernel_rfl))), (gL (by kernel_rfl)), And.intro (by first | exact v_loadF rfl rfl rfl rfl (by rfl) | exact v_load rfl rfl rfl rfl (by first | exact get_app rfl rfl | exact get_app (by simp) rfl) (by rfl)) (by first | exact v_loadF rfl rfl rfl rfl (by rfl) | exact v_load rfl rfl rfl rfl (by first | exact get_app rfl rfl | exact get_app (by simp) rfl) (by rfl))⟩⟩ (trivial)))) ?_
      refine P_call 13 (bef := #[0, 1, 0, 4, 0, 16, 63, 0, 128, 0, 512, 0, 2048, 8191, 16383, 32767]) (by kernel_rfl) (by kernel_rfl) rfl rfl rfl rfl (by exact rCut_spec _ q L v ((s.rl.setp s.pq s.pv).app _) hL J s.rk s.co _ _) ?_
      rintro _ G2 ⟨rfl, L2, v2, h1, h2, h3, h4⟩
      refine P_env (env' := uS32n132) rfl ?_
      refine P_seg [14, 15] (bef := #[0, 1, 0, 4, 0, 16, 63, 0, 128, 0, 512, 0, 2048, 8191, 16383, 32767]) (by kernel_rfl) (by kernel_rfl) (by kernel_rfl) ?_
      refine O_op (env' := uS32n132) (c := .calm) rfl rfl rfl (v_is true rfl (by simp)) rfl rfl rfl ?_
      refine O_op (env' := uS32n132) (c := .calm) rfl rfl rfl (v_move (.inr rfl) rfl) rfl rfl rfl ?_
      refine O_nil [] (by kernel_rfl) (trivial) ?_
      refine P_end (by kernel_rfl) ?_
      refine K_seq ?_
      refine B_ret ?_
      refine K_blkR ?_
      refine K_seqR ?_
      refine E_keep (.inr rfl) (vres_tmp rfl rfl) ?_
      first
        | exact ⟨by first | rfl | (rw [decide_eq_true rfl]; done) | (rw [decide_eq_true rfl]; rfl), J, L, v, s.app _, by omega, Upd2.same⟩
        | exact ⟨rfl, _, L2, v2, (side_new s s.rk.ovJ h1 h2 h4).1, h3, (side_new s s.rk.ovJ h1 h2 h4).2⟩
        | exact ⟨rfl, _, L2, v2, (side_new s s.rk.ctJ h1 h2 h4).1, h3, (side_new s s.rk.ctJ h1 h2 h4).2⟩
        | exact ⟨rfl, _, L2, v2, (side_new s s.rk.drJ h1 h2 h4).1, h3, (side_new s s.rk.drJ h1 h2 h4).2⟩
    · try simp only [decide_eq_true_eq, decide_eq_false_iff_not, Bool.not_eq_true', Bool.not_eq_false', bne_iff_ne, beq_iff_eq, Bool.and_eq_true, Bool.or_eq_true, Bool.not_eq_true, ge_iff_le, gt_iff_lt, Int.not_le, Int.not_lt, beq_eq_false_iff_ne, bne_eq_false_iff_eq, ne_eq, Decidable.not_not, wd_zero, wd_one, wd_inj] at hc2
      refine B_seq ?_
      refine B_region ?_
      refine L_op (env' := uS32n132) rfl rfl (rfl) rfl ?_
      refine L_op (env' := uS32n132) rfl rfl (v_move (.inr rfl) rfl) rfl ?_
      refine L_nil ?_
      refine K_seq ?_
      refine B_cond _ rfl (fun hc3 => ?_) (fun hc3 => ?_)
      · try simp only [decide_eq_true_eq, decide_eq_false_iff_not, Bool.not_eq_true', Bool.not_eq_false', bne_iff_ne, beq_iff_eq, Bool.and_eq_true, Bool.or_eq_true, Bool.not_eq_true, ge_iff_le, gt_iff_lt, Int.not_le, Int.not_lt, beq_eq_false_iff_ne, bne_eq_false_iff_eq, ne_eq, Decidable.not_not, wd_zero, wd_one, wd_inj] at hc3
        refine B_seq ?_
        refine B_drawP #[0, 1, 0, 4, 15, 0, 32, 0, 128, 511, 1023, 2047] (by kernel_rfl) ?_
        refine P_seg [0, 1, 2, 3, 5, 6, 7, 8, 4] (bef := #[0, 1, 0, 4, 15, 0, 32, 0, 128, 511, 1023, 2047]) (by kernel_rfl) (by kernel_rfl) (by kernel_rfl) ?_
        refine O_op (env' := uS32n132) (c := .calm) rfl rfl rfl (rfl) rfl rfl rfl ?_
        refine O_op (env' := uS32n132) (c := .look) rfl rfl rfl (by first | exact v_loadF rfl rfl rfl rfl (by rfl) | exact v_load rfl rfl rfl rfl (by first | exact get_app rfl rfl | exact get_app (by simp) rfl) (by rfl)) rfl rfl rfl ?_
        refine O_op (env' := uS32n132) (c := .calm) rfl rfl rfl (rfl) rfl rfl rfl ?_
        refine O_op (env' := uS32n132) (c := .look) rfl rfl rfl (by first | exact v_loadF rfl rfl rfl rfl (by rfl) | exact v_load rfl rfl rfl rfl (by first | exact get_app rfl rfl | exact get_app (by simp) rfl) (by rfl)) rfl rfl rfl ?_
        refine O_op (env' := uS32n132) (c := .calm) rfl rfl rfl (rfl) rfl rfl rfl ?_
        refine O_opI (env' := uS32n132) (x := .look _ _) rfl rfl rfl (by first | exact v_loadF rfl rfl rfl rfl (by rfl) | exact v_load rfl rfl rfl rfl (by first | exact get_app rfl rfl | exact get_app (by simp) rfl) (by rfl)) rfl rfl rfl ?_
        refine O_op (env' := uS32n132) (c := .calm) rfl rfl rfl (rfl) rfl rfl rfl ?_
        refine O_opI (env' := uS32n132) (x := .look _ _) rfl rfl rfl (by first | exact v_loadF rfl rfl rfl rfl (by rfl) | exact v_load rfl rfl rfl rfl (by first | exact get_app rfl rfl | exact get_app (by simp) rfl) (by rfl)) rfl rfl rfl ?_
        refine O_call (env' := uS32n132) rfl rfl rfl rfl rfl (by exact Drop_out _ _ p J s.pc s.rk.len o.2.2.1) (by first | exact Nat.le_refl _ | (simp; done)) rfl rfl ?_
        refine O_nilP [(5, 8), (7, 8)] (by kernel_rfl) (And.intro ⟨_, _, _, _, ⟨(gA (gA (gA (gL (by kernel_rfl))))), (gL (by kernel_rfl)), And.intro (by first | exact v_loadF rfl rfl rfl rfl (by rfl) | exact v_load rfl rfl rfl rfl (by first | exact get_app rfl rfl | exact get_app (by simp) rfl) (by rfl)) (by first | exact v_loadF rfl rfl rfl rfl (by rfl) | exact v_load rfl rfl rfl rfl (by first | exact get_app rfl rfl | exact get_app (by simp) rfl) (by rfl))⟩⟩ (And.intro ⟨_, _, _, _, ⟨(gA (gL (by kernel_rfl))), (gL (by kernel_rfl)), And.intro (by first | exact v_loadF rfl rfl rfl rfl (by rfl) | exact v_load rfl rfl rfl rfl (by first | exact get_app rfl rfl | exact get_app (by simp) rfl) (by rfl)) (by first | exact v_loadF rfl rfl rfl rfl (by rfl) | exact v_load rfl rfl rfl rfl (by first | exact get_app rfl rfl | exact get_app (by simp) rfl) (by rfl))⟩⟩ (trivial))) ?_
        refine P_call 9 (bef := #[0, 1, 0, 4, 15, 0, 32, 0, 128, 511, 1023, 2047]) (by kernel_rfl) (by kernel_rfl) rfl rfl rfl rfl (by exact rDrop_spec _ q L v ((s.rl.setp s.pq s.pv).app _) hL J s.rk s.co _) ?_
        rintro _ G2 ⟨rfl, L2, v2, h1, h2, h3, h4⟩
        refine P_env (env' := uS32n132) rfl ?_
        refine P_seg [10, 11] (bef := #[0, 1, 0, 4, 15, 0, 32, 0, 128, 511, 1023, 2047]) (by kernel_rfl) (by kernel_rfl) (by kernel_rfl) ?_
        refine O_op (env' := uS32n132) (c := .calm) rfl rfl rfl (v_is true rfl (by simp)) rfl rfl rfl ?_
        refine O_op (env' := uS32n132) (c := .calm) rfl rfl rfl (v_move (.inr rfl) rfl) rfl rfl rfl ?_
        refine O_nil [] (by kernel_rfl) (trivial) ?_
        refine P_end (by kernel_rfl) ?_
        refine K_seq ?_
        refine B_ret ?_
        refine K_blkR ?_
        refine K_seqR ?_
        refine E_keep (.inr rfl) (vres_tmp rfl rfl) ?_
        first
          | exact ⟨by first | rfl | (rw [decide_eq_true rfl]; done) | (rw [decide_eq_true rfl]; rfl), J, L, v, s.app _, by omega, Upd2.same⟩
          | exact ⟨rfl, _, L2, v2, (side_new s s.rk.ovJ h1 h2 h4).1, h3, (side_new s s.rk.ovJ h1 h2 h4).2⟩
          | exact ⟨rfl, _, L2, v2, (side_new s s.rk.ctJ h1 h2 h4).1, h3, (side_new s s.rk.ctJ h1 h2 h4).2⟩
          | exact ⟨rfl, _, L2, v2, (side_new s s.rk.drJ h1 h2 h4).1, h3, (side_new s s.rk.drJ h1 h2 h4).2⟩
      · try simp only [decide_eq_true_eq, decide_eq_false_iff_not, Bool.not_eq_true', Bool.not_eq_false', bne_iff_ne, beq_iff_eq, Bool.and_eq_true, Bool.or_eq_true, Bool.not_eq_true, ge_iff_le, gt_iff_lt, Int.not_le, Int.not_lt, beq_eq_false_iff_ne, bne_eq_false_iff_eq, ne_eq, Decidable.not_not, wd_zero, wd_one, wd_inj] at hc3
        refine B_seq ?_
        refine B_region ?_
        refine L_op (env' := uS32n132) rfl rfl (rfl) rfl ?_
        refine L_op (env' := uS32n132) rfl rfl (v_move (.inr rfl) rfl) rfl ?_
        refine L_nil ?_
        refine K_seq ?_
        refine B_cond _ rfl (fun hc4 => ?_) (fun hc4 => ?_)
        · try simp only [decide_eq_true_eq, decide_eq_false_iff_not, Bool.not_eq_true', Bool.not_eq_false', bne_iff_ne, beq_iff_eq, Bool.and_eq_true, Bool.or_eq_true, Bool.not_eq_true, ge_iff_le, gt_iff_lt, Int.not_le, Int.not_lt, beq_eq_false_iff_ne, bne_eq_false_iff_eq, ne_eq, Decidable.not_not, wd_zero, wd_one, wd_inj] at hc4
          refine B_seq ?_
          refine B_draw [0, 1, 2, 3, 5, 6, 7, 8, 4, 9, 10, 11] #[0, 1, 0, 4, 15, 0, 32, 0, 128, 511, 1023, 2047] (by kernel_rfl) (by kernel_rfl) (by kernel_rfl) ?_
          refine O_op (env' := uS32n132) (c := .calm) rfl rfl rfl (rfl) rfl rfl rfl ?_
          refine O_op (env' := uS32n132) (c := .look) rfl rfl rfl (by first | exact v_loadF rfl rfl rfl rfl (by rfl) | exact v_load rfl rfl rfl rfl (by first | exact get_app rfl rfl | exact get_app (by simp) rfl) (by rfl)) rfl rfl rfl ?_
          refine O_op (env' := uS32n132) (c := .calm) rfl rfl rfl (rfl) rfl rfl rfl ?_
          refine O_op (env' := uS32n132) (c := .look) rfl rfl rfl (by first | exact v_loadF rfl rfl rfl rfl (by rfl) | exact v_load rfl rfl rfl rfl (by first | exact get_app rfl rfl | exact get_app (by simp) rfl) (by rfl)) rfl rfl rfl ?_
          refine O_op (env' := uS32n132) (c := .calm) rfl rfl rfl (rfl) rfl rfl rfl ?_
          refine O_opI (env' := uS32n132) (x := .look _ _) rfl rfl rfl (by first | exact v_loadF rfl rfl rfl rfl (by rfl) | exact v_load rfl rfl rfl rfl (by first | exact get_app rfl rfl | exact get_app (by simp) rfl) (by rfl)) rfl rfl rfl ?_
          refine O_op (env' := uS32n132) (c := .calm) rfl rfl rfl (rfl) rfl rfl rfl ?_
          refine O_opI (env' := uS32n132) (x := .look _ _) rfl rfl rfl (by first | exact v_loadF rfl rfl rfl rfl (by rfl) | exact v_load rfl rfl rfl rfl (by first | exact get_app rfl rfl | exact get_app (by simp) rfl) (by rfl)) rfl rfl rfl ?_
          refine O_call (env' := uS32n132) rfl rfl rfl rfl rfl (by exact rkBelow_spec _ p J (get_out s.pc) s.rk.len _) (by first | exact Nat.le_refl _ | (simp; done)) rfl rfl ?_
          refine O_call (env' := uS32n132) rfl rfl rfl rfl rfl (by exact rBelow_spec _ q L v (s.rl.app _) hL J s.rk s.co _) (by first | exact Nat.le_refl _ | (simp; done)) rfl rfl ?_
          refine O_op (env' := uS32n132) (c := .calm) rfl rfl rfl (v_is true rfl (by simp)) rfl rfl rfl ?_
          refine O_op (env' := uS32n132) (c := .calm) rfl rfl rfl (v_move (.inr rfl) rfl) rfl rfl rfl ?_
          refine O_nilP [(5, 8), (7, 8)] (by kernel_rfl) (And.intro ⟨_, _, _, _, ⟨(gA (gA (gA (gA (gA (gA (gL (by kernel_rfl)))))))), (gA (gA (gA (gL (by kernel_rfl))))), And.intro (by first | exact v_loadF rfl rfl rfl rfl (by rfl) | exact v_load rfl rfl rfl rfl (by first | exact get_app rfl rfl | exact get_app (by simp) rfl) (by rfl)) (by first | exact v_loadF rfl rfl rfl rfl (by rfl) | exact v_load rfl rfl rfl rfl (by first | exact get_app rfl rfl | exact get_app (by simp) rfl) (by rfl))⟩⟩ (And.intro ⟨_, _, _, _, ⟨(gA (gA (gA (gA (gL (by kernel_rfl)))))), (gA (gA (gA (gL (by kernel_rfl))))), And.intro (by first | exact v_loadF rfl rfl rfl rfl (by rfl) | exact v_load rfl rfl rfl rfl (by first | exact get_app rfl rfl | exact get_app (by simp) rfl) (by rfl)) (by first | exact v_loadF rfl rfl rfl rfl (by rfl) | exact v_load rfl rfl rfl rfl (by first | exact get_app rfl rfl | exact get_app (by simp) rfl) (by rfl))⟩⟩ (trivial))) ?_
          refine K_seq ?_
          refine B_ret ?_
          refine K_blkR ?_
          refine K_seqR ?_
          refine E_keep (.inr rfl) (vres_tmp rfl rfl) ?_
          first
            | exact ⟨by first | rfl | (rw [decide_eq_true rfl]; done) | (rw [decide_eq_true rfl]; rfl), J, L, v, s.app _, by omega, Upd2.same⟩
            | exact ⟨rfl, _, L2, v2, (side_new s s.rk.ovJ h1 h2 h4).1, h3, (side_new s s.rk.ovJ h1 h2 h4).2⟩
            | exact ⟨rfl, _, L2, v2, (side_new s s.rk.ctJ h1 h2 h4).1, h3, (side_new s s.rk.ctJ h1 h2 h4).2⟩
            | exact ⟨rfl, _, L2, v2, (side_new s s.rk.drJ h1 h2 h4).1, h3, (side_new s s.rk.drJ h1 h2 h4).2⟩
        · try simp only [decide_eq_true_eq, decide_eq_false_iff_not, Bool.not_eq_true', Bool.not_eq_false', bne_iff_ne, beq_iff_eq, Bool.and_eq_true, Bool.or_eq_true, Bool.not_eq_true, ge_iff_le, gt_iff_lt, Int.not_le, Int.not_lt, beq_eq_false_iff_ne, bne_eq_false_iff_eq, ne_eq, Decidable.not_not, wd_zero, wd_one, wd_inj] at hc4
          refine B_seq ?_
          refine B_region ?_
          refine L_op (env' := uS32n132) rfl rfl (rfl) rfl ?_
          refine L_op (env' := uS32n132) rfl rfl (v_move (.inr rfl) rfl) rfl ?_
          refine L_nil ?_
          refine K_seq ?_
          refine B_cond _ rfl (fun hc5 => ?_) (fun hc5 => ?_)
          · try simp only [decide_eq_true_eq, decide_eq_false_iff_not, Bool.not_eq_true', Bool.not_eq_false', bne_iff_ne, beq_iff_eq, Bool.and_eq_true, Bool.or_eq_true, Bool.not_eq_true, ge_iff_le, gt_iff_lt, Int.not_le, Int.not_lt, beq_eq_false_iff_ne, bne_eq_false_iff_eq, ne_eq, Decidable.not_not, wd_zero, wd_one, wd_inj] at hc5
            refine B_seq ?_
            refine B_draw [0, 1, 2, 3, 5, 6, 7, 8, 4, 9, 10, 11] #[0, 1, 0, 4, 15, 0, 32, 0, 128, 511, 1023, 2047] (by kernel_rfl) (by kernel_rfl) (by kernel_rfl) ?_
            refine O_op (env' := uS32n132) (c := .calm) rfl rfl rfl (rfl) rfl rfl rfl ?_
            refine O_op (env' := uS32n132) (c := .look) rfl rfl rfl (by first | exact v_loadF rfl rfl rfl rfl (by rfl) | exact v_load rfl rfl rfl rfl (by first | exact get_app rfl rfl | exact get_app (by simp) rfl) (by rfl)) rfl rfl rfl ?_
            refine O_op (env' := uS32n132) (c := .calm) rfl rfl rfl (rfl) rfl rfl rfl ?_
            refine O_op (env' := uS32n132) (c := .look) rfl rfl rfl (by first | exact v_loadF rfl rfl rfl rfl (by rfl) | exact v_load rfl rfl rfl rfl (by first | exact get_app rfl rfl | exact get_app (by simp) rfl) (by rfl)) rfl rfl rfl ?_
            refine O_op (env' := uS32n132) (c := .calm) rfl rfl rfl (rfl) rfl rfl rfl ?_
            refine O_opI (env' := uS32n132) (x := .look _ _) rfl rfl rfl (by first | exact v_loadF rfl rfl rfl rfl (by rfl) | exact v_load rfl rfl rfl rfl (by first | exact get_app rfl rfl | exact get_app (by simp) rfl) (by rfl)) rfl rfl rfl ?_
            refine O_op (env' := uS32n132) (c := .calm) rfl rfl rfl (rfl) rfl rfl rfl ?_
            refine O_opI (env' := uS32n132) (x := .look _ _) rfl rfl rfl (by first | exact v_loadF rfl rfl rfl rfl (by rfl) | exact v_load rfl rfl rfl rfl (by first | exact get_app rfl rfl | exact get_app (by simp) rfl) (by rfl)) rfl rfl rfl ?_
            refine O_call (env' := uS32n132) rfl rfl rfl rfl rfl (by exact Above_spec _ p J (get_out s.pc) s.rk.len _) (by first | exact Nat.le_refl _ | (simp; done)) rfl rfl ?_
            refine O_call (env' := uS32n132) rfl rfl rfl rfl rfl (by exact rAbove_spec _ q L v (s.rl.app _) hL J s.rk s.co _) (by first | exact Nat.le_refl _ | (simp; done)) rfl rfl ?_
            refine O_op (env' := uS32n132) (c := .calm) rfl rfl rfl (v_is true rfl (by simp)) rfl rfl rfl ?_
            refine O_op (env' := uS32n132) (c := .calm) rfl rfl rfl (v_move (.inr rfl) rfl) rfl rfl rfl ?_
            refine O_nilP [(5, 8), (7, 8)] (by kernel_rfl) (And.intro ⟨_, _, _, _, ⟨(gA (gA (gA (gA (gA (gA (gL (by kernel_rfl)))))))), (gA (gA (gA (gL (by kernel_rfl))))), And.intro (by first | exact v_loadF rfl rfl rfl rfl (by rfl) | exact v_load rfl rfl rfl rfl (by first | exact get_app rfl rfl | exact get_app (by simp) rfl) (by rfl)) (by first | exact v_loadF rfl rfl rfl rfl (by rfl) | exact v_load rfl rfl rfl rfl (by first | exact get_app rfl rfl | exact get_app (by simp) rfl) (by rfl))⟩⟩ (And.intro ⟨_, _, _, _, ⟨(gA (gA (gA (gA (gL (by kernel_rfl)))))), (gA (gA (gA (gL (by kernel_rfl))))), And.intro (by first | exact v_loadF rfl rfl rfl rfl (by rfl) | exact v_load rfl rfl rfl rfl (by first | exact get_app rfl rfl | exact get_app (by simp) rfl) (by rfl)) (by first | exact v_loadF rfl rfl rfl rfl (by rfl) | exact v_load rfl rfl rfl rfl (by first | exact get_app rfl rfl | exact get_app (by simp) rfl) (by rfl))⟩⟩ (trivial))) ?_
            refine K_seq ?_
            refine B_ret ?_
            refine K_blkR ?_
            refine K_seqR ?_
            refine E_keep (.inr rfl) (vres_tmp rfl rfl) ?_
            first
              | exact ⟨by first | rfl | (rw [decide_eq_true rfl]; done) | (rw [decide_eq_true rfl]; rfl), J, L, v, s.app _, by omega, Upd2.same⟩
              | exact ⟨rfl, _, L2, v2, (side_new s s.rk.ovJ h1 h2 h4).1, h3, (side_new s s.rk.ovJ h1 h2 h4).2⟩
              | exact ⟨rfl, _, L2, v2, (side_new s s.rk.ctJ h1 h2 h4).1, h3, (side_new s s.rk.ctJ h1 h2 h4).2⟩
              | exact ⟨rfl, _, L2, v2, (side_new s s.rk.drJ h1 h2 h4).1, h3, (side_new s s.rk.drJ h1 h2 h4).2⟩
          · try simp only [decide_eq_true_eq, decide_eq_false_iff_not, Bool.not_eq_true', Bool.not_eq_false', bne_iff_ne, beq_iff_eq, Bool.and_eq_true, Bool.or_eq_true, Bool.not_eq_true, ge_iff_le, gt_iff_lt, Int.not_le, Int.not_lt, beq_eq_false_iff_ne, bne_eq_false_iff_eq, ne_eq, Decidable.not_not, wd_zero, wd_one, wd_inj] at hc5
            refine B_seq ?_
            refine B_region ?_
            refine L_op (env' := uS32n132) rfl rfl (rfl) rfl ?_
            refine L_op (env' := uS32n132) rfl rfl (v_move (.inr rfl) rfl) rfl ?_
            refine L_nil ?_
            refine K_seq ?_
            refine B_cond _ rfl (fun hc6 => ?_) (fun hc6 => ?_)
            · try simp only [decide_eq_true_eq, decide_eq_false_iff_not, Bool.not_eq_true', Bool.not_eq_false', bne_iff_ne, beq_iff_eq, Bool.and_eq_true, Bool.or_eq_true, Bool.not_eq_true, ge_iff_le, gt_iff_lt, Int.not_le, Int.not_lt, beq_eq_false_iff_ne, bne_eq_false_iff_eq, ne_eq, Decidable.not_not, wd_zero, wd_one, wd_inj] at hc6
              refine B_seq ?_
              refine B_draw [0, 1, 2, 3, 5, 6, 7, 8, 4, 9, 10, 11] #[0, 1, 0, 4, 15, 0, 32, 0, 128, 511, 1023, 2047] (by kernel_rfl) (by kernel_rfl) (by kernel_rfl) ?_
              refine O_op (env' := uS32n132) (c := .calm) rfl rfl rfl (rfl) rfl rfl rfl ?_
              refine O_op (env' := uS32n132) (c := .look) rfl rfl rfl (by first | exact v_loadF rfl rfl rfl rfl (by rfl) | exact v_load rfl rfl rfl rfl (by first | exact get_app rfl rfl | exact get_app (by simp) rfl) (by rfl)) rfl rfl rfl ?_
              refine O_op (env' := uS32n132) (c := .calm) rfl rfl rfl (rfl) rfl rfl rfl ?_
              refine O_op (env' := uS32n132) (c := .look) rfl rfl rfl (by first | exact v_loadF rfl rfl rfl rfl (by rfl) | exact v_load rfl rfl rfl rfl (by first | exact get_app rfl rfl | exact get_app (by simp) rfl) (by rfl)) rfl rfl rfl ?_
              refine O_op (env' := uS32n132) (c := .calm) rfl rfl rfl (rfl) rfl rfl rfl ?_
              refine O_opI (env' := uS32n132) (x := .look _ _) rfl rfl rfl (by first | exact v_loadF rfl rfl rfl rfl (by rfl) | exact v_load rfl rfl rfl rfl (by first | exact get_app rfl rfl | exact get_app (by simp) rfl) (by rfl)) rfl rfl rfl ?_
              refine O_op (env' := uS32n132) (c := .calm) rfl rfl rfl (rfl) rfl rfl rfl ?_
              refine O_opI (env' := uS32n132) (x := .look _ _) rfl rfl rfl (by first | exact v_loadF rfl rfl rfl rfl (by rfl) | exact v_load rfl rfl rfl rfl (by first | exact get_app rfl rfl | exact get_app (by simp) rfl) (by rfl)) rfl rfl rfl ?_
              refine O_call (env' := uS32n132) rfl rfl rfl rfl rfl (by exact Spread_spec _ p J (get_out s.pc) s.rk.len _) (by first | exact Nat.le_refl _ | (simp; done)) rfl rfl ?_
              refine O_call (env' := uS32n132) rfl rfl rfl rfl rfl (by exact rSpread_spec _ q L v (s.rl.app _) hL J s.rk s.co _) (by first | exact Nat.le_refl _ | (simp; done)) rfl rfl ?_
              refine O_op (env' := uS32n132) (c := .calm) rfl rfl rfl (v_is true rfl (by simp)) rfl rfl rfl ?_
              refine O_op (env' := uS32n132) (c := .calm) rfl rfl rfl (v_move (.inr rfl) rfl) rfl rfl rfl ?_
              refine O_nilP [(5, 8), (7, 8)] (by kernel_rfl) (And.intro ⟨_, _, _, _, ⟨(gA (gA (gA (gA (gA (gA (gL (by kernel_rfl)))))))), (gA (gA (gA (gL (by kernel_rfl))))), And.intro (by first | exact v_loadF rfl rfl rfl rfl (by rfl) | exact v_load rfl rfl rfl rfl (by first | exact get_app rfl rfl | exact get_app (by simp) rfl) (by rfl)) (by first | exact v_loadF rfl rfl rfl rfl (by rfl) | exact v_load rfl rfl rfl rfl (by first | exact get_app rfl rfl | exact get_app (by simp) rfl) (by rfl))⟩⟩ (And.intro ⟨_, _, _, _, ⟨(gA (gA (gA (gA (gL (by kernel_rfl)))))), (gA (gA (gA (gL (by kernel_rfl))))), And.intro (by first | exact v_loadF rfl rfl rfl rfl (by rfl) | exact v_load rfl rfl rfl rfl (by first | exact get_app rfl rfl | exact get_app (by simp) rfl) (by rfl)) (by first | exact v_loadF rfl rfl rfl rfl (by rfl) | exact v_load rfl rfl rfl rfl (by first | exact get_app rfl rfl | exact get_app (by simp) rfl) (by rfl))⟩⟩ (trivial))) ?_
              refine K_seq ?_
              refine B_ret ?_
              refine K_blkR ?_
              refine K_seqR ?_
              refine E_keep (.inr rfl) (vres_tmp rfl rfl) ?_
              first
                | exact ⟨by first | rfl | (rw [decide_eq_true rfl]; done) | (rw [decide_eq_true rfl]; rfl), J, L, v, s.app _, by omega, Upd2.same⟩
                | exact ⟨rfl, _, L2, v2, (side_new s s.rk.ovJ h1 h2 h4).1, h3, (side_new s s.rk.ovJ h1 h2 h4).2⟩
                | exact ⟨rfl, _, L2, v2, (side_new s s.rk.ctJ h1 h2 h4).1, h3, (side_new s s.rk.ctJ h1 h2 h4).2⟩
                | exact ⟨rfl, _, L2, v2, (side_new s s.rk.drJ h1 h2 h4).1, h3, (side_new s s.rk.drJ h1 h2 h4).2⟩
            · try simp only [decide_eq_true_eq, decide_eq_false_iff_not, Bool.not_eq_true', Bool.not_eq_false', bne_iff_ne, beq_iff_eq, Bool.and_eq_true, Bool.or_eq_true, Bool.not_eq_true, ge_iff_le, gt_iff_lt, Int.not_le, Int.not_lt, beq_eq_false_iff_ne, bne_eq_false_iff_eq, ne_eq, Decidable.not_not, wd_zero, wd_one, wd_inj] at hc6
              refine B_seq ?_
              refine B_region ?_
              refine L_op (env' := uS32n132) rfl rfl (rfl) rfl ?_
              refine L_op (env' := uS32n132) rfl rfl (v_move (.inr rfl) rfl) rfl ?_
              refine L_nil ?_
              refine K_seq ?_
              refine B_cond _ rfl (fun hc7 => ?_) (fun hc7 => ?_)
              · try simp only [decide_eq_true_eq, decide_eq_false_iff_not, Bool.not_eq_true', Bool.not_eq_false', bne_iff_ne, beq_iff_eq, Bool.and_eq_true, Bool.or_eq_true, Bool.not_eq_true, ge_iff_le, gt_iff_lt, Int.not_le, Int.not_lt, beq_eq_false_iff_ne, bne_eq_false_iff_eq, ne_eq, Decidable.not_not, wd_zero, wd_one, wd_inj] at hc7
                refine B_seq ?_
                refine B_draw [0, 1, 2, 3, 5, 6, 7, 8, 4, 9, 10, 11] #[0, 1, 0, 4, 15, 0, 32, 0, 128, 511, 1023, 2047] (by kernel_rfl) (by kernel_rfl) (by kernel_rfl) ?_
                refine O_op (env' := uS32n132) (c := .calm) rfl rfl rfl (rfl) rfl rfl rfl ?_
                refine O_op (env' := uS32n132) (c := .look) rfl rfl rfl (by first | exact v_loadF rfl rfl rfl rfl (by rfl) | exact v_load rfl rfl rfl rfl (by first | exact get_app rfl rfl | exact get_app (by simp) rfl) (by rfl)) rfl rfl rfl ?_
                refine O_op (env' := uS32n132) (c := .calm) rfl rfl rfl (rfl) rfl rfl rfl ?_
                refine O_op (env' := uS32n132) (c := .look) rfl rfl rfl (by first | exact v_loadF rfl rfl rfl rfl (by rfl) | exact v_load rfl rfl rfl rfl (by first | exact get_app rfl rfl | exact get_app (by simp) rfl) (by rfl)) rfl rfl rfl ?_
                refine O_op (env' := uS32n132) (c := .calm) rfl rfl rfl (rfl) rfl rfl rfl ?_
                refine O_opI (env' := uS32n132) (x := .look _ _) rfl rfl rfl (by first | exact v_loadF rfl rfl rfl rfl (by rfl) | exact v_load rfl rfl rfl rfl (by first | exact get_app rfl rfl | exact get_app (by simp) rfl) (by rfl)) rfl rfl rfl ?_
                refine O_op (env' := uS32n132) (c := .calm) rfl rfl rfl (rfl) rfl rfl rfl ?_
                refine O_opI (env' := uS32n132) (x := .look _ _) rfl rfl rfl (by first | exact v_loadF rfl rfl rfl rfl (by rfl) | exact v_load rfl rfl rfl rfl (by first | exact get_app rfl rfl | exact get_app (by simp) rfl) (by rfl)) rfl rfl rfl ?_
                refine O_call (env' := uS32n132) rfl rfl rfl rfl rfl (by exact Depth_spec _ p J (get_out s.pc) s.rk _) (by first | exact Nat.le_refl _ | (simp; done)) rfl rfl ?_
                refine O_call (env' := uS32n132) rfl rfl rfl rfl rfl (by exact rDepth_spec _ q L v (s.rl.app _) hL J s.rk s.co _) (by first | exact Nat.le_refl _ | (simp; done)) rfl rfl ?_
                refine O_op (env' := uS32n132) (c := .calm) rfl rfl rfl (v_is true rfl (by simp)) rfl rfl rfl ?_
                refine O_op (env' := uS32n132) (c := .calm) rfl rfl rfl (v_move (.inr rfl) rfl) rfl rfl rfl ?_
                refine O_nilP [(5, 8), (7, 8)] (by kernel_rfl) (And.intro ⟨_, _, _, _, ⟨(gA (gA (gA (gA (gA (gA (gL (by kernel_rfl)))))))), (gA (gA (gA (gL (by kernel_rfl))))), And.intro (by first | exact v_loadF rfl rfl rfl rfl (by rfl) | exact v_load rfl rfl rfl rfl (by first | exact get_app rfl rfl | exact get_app (by simp) rfl) (by rfl)) (by first | exact v_loadF rfl rfl rfl rfl (by rfl) | exact v_load rfl rfl rfl rfl (by first | exact get_app rfl rfl | exact get_app (by simp) rfl) (by rfl))⟩⟩ (And.intro ⟨_, _, _, _, ⟨(gA (gA (gA (gA (gL (by kernel_rfl)))))), (gA (gA (gA (gL (by kernel_rfl))))), And.intro (by first | exact v_loadF rfl rfl rfl rfl (by rfl) | exact v_load rfl rfl rfl rfl (by first | exact get_app rfl rfl | exact get_app (by simp) rfl) (by rfl)) (by first | exact v_loadF rfl rfl rfl rfl (by rfl) | exact v_load rfl rfl rfl rfl (by first | exact get_app rfl rfl | exact get_app (by simp) rfl) (by rfl))⟩⟩ (trivial))) ?_
                refine K_seq ?_
                refine B_ret ?_
                refine K_blkR ?_
                refine K_seqR ?_
                refine E_keep (.inr rfl) (vres_tmp rfl rfl) ?_
                first
                  | exact ⟨by first | rfl | (rw [decide_eq_true rfl]; done) | (rw [decide_eq_true rfl]; rfl), J, L, v, s.app _, by omega, Upd2.same⟩
                  | exact ⟨rfl, _, L2, v2, (side_new s s.rk.ovJ h1 h2 h4).1, h3, (side_new s s.rk.ovJ h1 h2 h4).2⟩
                  | exact ⟨rfl, _, L2, v2, (side_new s s.rk.ctJ h1 h2 h4).1, h3, (side_new s s.rk.ctJ h1 h2 h4).2⟩
                  | exact ⟨rfl, _, L2, v2, (side_new s s.rk.drJ h1 h2 h4).1, h3, (side_new s s.rk.drJ h1 h2 h4).2⟩
              · try simp only [decide_eq_true_eq, decide_eq_false_iff_not, Bool.not_eq_true', Bool.not_eq_false', bne_iff_ne, beq_iff_eq, Bool.and_eq_true, Bool.or_eq_true, Bool.not_eq_true, ge_iff_le, gt_iff_lt, Int.not_le, Int.not_lt, beq_eq_false_iff_ne, bne_eq_false_iff_eq, ne_eq, Decidable.not_not, wd_zero, wd_one, wd_inj] at hc7
                refine B_seq ?_
                refine B_region ?_
                refine L_op (env' := uS32n132) rfl rfl (rfl) rfl ?_
                refine L_op (env' := uS32n132) rfl rfl (v_move (.inr rfl) rfl) rfl ?_
                refine L_nil ?_
                refine K_seq ?_
                refine B_cond _ rfl (fun hc8 => ?_) (fun hc8 => ?_)
                · try simp only [decide_eq_true_eq, decide_eq_false_iff_not, Bool.not_eq_true', Bool.not_eq_false', bne_iff_ne, beq_iff_eq, Bool.and_eq_true, Bool.or_eq_true, Bool.not_eq_true, ge_iff_le, gt_iff_lt, Int.not_le, Int.not_lt, beq_eq_false_iff_ne, bne_eq_false_iff_eq, ne_eq, Decidable.not_not, wd_zero, wd_one, wd_inj] at hc8
                  refine B_seq ?_
                  refine B_draw [0, 1, 2, 3, 4, 5, 7, 8, 9, 10, 11, 12, 6, 13, 14, 15] #[0, 1, 0, 4, 0, 16, 63, 0, 128, 0, 512, 0, 2048, 8191, 16383, 32767] (by kernel_rfl) (by kernel_rfl) (by kernel_rfl) ?_
                  refine O_op (env' := uS32n132) (c := .calm) rfl rfl rfl (rfl) rfl rfl rfl ?_
                  refine O_op (env' := uS32n132) (c := .look) rfl rfl rfl (by first | exact v_loadF rfl rfl rfl rfl (by rfl) | exact v_load rfl rfl rfl rfl (by first | exact get_app rfl rfl | exact get_app (by simp) rfl) (by rfl)) rfl rfl rfl ?_
                  refine O_op (env' := uS32n132) (c := .calm) rfl rfl rfl (rfl) rfl rfl rfl ?_
                  refine O_op (env' := uS32n132) (c := .look) rfl rfl rfl (by first | exact v_loadF rfl rfl rfl rfl (by rfl) | exact v_load rfl rfl rfl rfl (by first | exact get_app rfl rfl | exact get_app (by simp) rfl) (by rfl)) rfl rfl rfl ?_
                  refine O_op (env' := uS32n132) (c := .calm) rfl rfl rfl (rfl) rfl rfl rfl ?_
                  refine O_op (env' := uS32n132) (c := .look) rfl rfl rfl (by first | exact v_loadF rfl rfl rfl rfl (by rfl) | exact v_load rfl rfl rfl rfl (by first | exact get_app rfl rfl | exact get_app (by simp) rfl) (by rfl)) rfl rfl rfl ?_
                  refine O_op (env' := uS32n132) (c := .calm) rfl rfl rfl (rfl) rfl rfl rfl ?_
                  refine O_opI (env' := uS32n132) (x := .look _ _) rfl rfl rfl (by first | exact v_loadF rfl rfl rfl rfl (by rfl) | exact v_load rfl rfl rfl rfl (by first | exact get_app rfl rfl | exact get_app (by simp) rfl) (by rfl)) rfl rfl rfl ?_
                  refine O_op (env' := uS32n132) (c := .calm) rfl rfl rfl (rfl) rfl rfl rfl ?_
                  refine O_opI (env' := uS32n132) (x := .look _ _) rfl rfl rfl (by first | exact v_loadF rfl rfl rfl rfl (by rfl) | exact v_load rfl rfl rfl rfl (by first | exact get_app rfl rfl | exact get_app (by simp) rfl) (by rfl)) rfl rfl rfl ?_
                  refine O_op (env' := uS32n132) (c := .calm) rfl rfl rfl (rfl) rfl rfl rfl ?_
                  refine O_opI (env' := uS32n132) (x := .look _ _) rfl rfl rfl (by first | exact v_loadF rfl rfl rfl rfl (by rfl) | exact v_load rfl rfl rfl rfl (by first | exact get_app rfl rfl | exact get_app (by simp) rfl) (by rfl)) rfl rfl rfl ?_
                  refine O_call (env' := uS32n132) rfl rfl rfl rfl rfl (by exact rkHas_spec _ p J (get_out s.pc) s.rk.len _ _) (by first | exact Nat.le_refl _ | (simp; done)) rfl rfl ?_
                  refine O_call (env' := uS32n132) rfl rfl rfl rfl rfl (by exact rHas_spec _ q L v (s.rl.app _) hL _ _) (by first | exact Nat.le_refl _ | (simp; done)) rfl rfl ?_
                  refine O_op (env' := uS32n132) (c := .calm) rfl rfl rfl (v_is true rfl (by rw [has_same s.co s.rk]; simp)) rfl rfl rfl ?_
                  refine O_op (env' := uS32n132) (c := .calm) rfl rfl rfl (v_move (.inr rfl) rfl) rfl rfl rfl ?_
                  refine O_nilP [(7, 12), (9, 12), (11, 12)] (by kernel_rfl) (And.intro ⟨_, _, _, _, ⟨(gA (gA (gA (gA (gA (gA (gA (gA (gL (by kernel_rfl)))))))))), (gA (gA (gA (gL (by kernel_rfl))))), And.intro (by first | exact v_loadF rfl rfl rfl rfl (by rfl) | exact v_load rfl rfl rfl rfl (by first | exact get_app rfl rfl | exact get_app (by simp) rfl) (by rfl)) (by first | exact v_loadF rfl rfl rfl rfl (by rfl) | exact v_load rfl rfl rfl rfl (by first | exact get_app rfl rfl | exact get_app (by simp) rfl) (by rfl))⟩⟩ (And.intro ⟨_, _, _, _, ⟨(gA (gA (gA (gA (gA (gA (gL (by kernel_rfl)))))))), (gA (gA (gA (gL (by kernel_rfl))))), And.intro (by first | exact v_loadF rfl rfl rfl rfl (by rfl) | exact v_load rfl rfl rfl rfl (by first | exact get_app rfl rfl | exact get_app (by simp) rfl) (by rfl)) (by first | exact v_loadF rfl rfl rfl rfl (by rfl) | exact v_load rfl rfl rfl rfl (by first | exact get_app rfl rfl | exact get_app (by simp) rfl) (by rfl))⟩⟩ (And.intro ⟨_, _, _, _, ⟨(gA (gA (gA (gA (gL (by kernel_rfl)))))), (gA (gA (gA (gL (by kernel_rfl))))), And.intro (by first | exact v_loadF rfl rfl rfl rfl (by rfl) | exact v_load rfl rfl rfl rfl (by first | exact get_app rfl rfl | exact get_app (by simp) rfl) (by rfl)) (by first | exact v_loadF rfl rfl rfl rfl (by rfl) | exact v_load rfl rfl rfl rfl (by first | exact get_app rfl rfl | exact get_app (by simp) rfl) (by rfl))⟩⟩ (trivial)))) ?_
                  refine K_seq ?_
                  refine B_ret ?_
                  refine K_blkR ?_
                  refine K_seqR ?_
                  refine E_keep (.inr rfl) (vres_tmp rfl rfl) ?_
                  first
                    | exact ⟨by first | rfl | (rw [decide_eq_true rfl]; done) | (rw [decide_eq_true rfl]; rfl), J, L, v, s.app _, by omega, Upd2.same⟩
                    | exact ⟨rfl, _, L2, v2, (side_new s s.rk.ovJ h1 h2 h4).1, h3, (side_new s s.rk.ovJ h1 h2 h4).2⟩
                    | exact ⟨rfl, _, L2, v2, (side_new s s.rk.ctJ h1 h2 h4).1, h3, (side_new s s.rk.ctJ h1 h2 h4).2⟩
                    | exact ⟨rfl, _, L2, v2, (side_new s s.rk.drJ h1 h2 h4).1, h3, (side_new s s.rk.drJ h1 h2 h4).2⟩
                · try simp only [decide_eq_true_eq, decide_eq_false_iff_not, Bool.not_eq_true', Bool.not_eq_false', bne_iff_ne, beq_iff_eq, Bool.and_eq_true, Bool.or_eq_true, Bool.not_eq_true, ge_iff_le, gt_iff_lt, Int.not_le, Int.not_lt, beq_eq_false_iff_ne, bne_eq_false_iff_eq, ne_eq, Decidable.not_not, wd_zero, wd_one, wd_inj] at hc8
                  refine B_seq ?_
                  refine B_region ?_
                  refine L_op (env' := uS32n132) rfl rfl (rfl) rfl ?_
                  refine L_op (env' := uS32n132) rfl rfl (v_move (.inr rfl) rfl) rfl ?_
                  refine L_nil ?_
                  refine K_seq ?_
                  refine B_cond _ rfl (fun hc9 => ?_) (fun hc9 => ?_)
                  · try simp only [decide_eq_true_eq, decide_eq_false_iff_not, Bool.not_eq_true', Bool.not_eq_false', bne_iff_ne, beq_iff_eq, Bool.and_eq_true, Bool.or_eq_true, Bool.not_eq_true, ge_iff_le, gt_iff_lt, Int.not_le, Int.not_lt, beq_eq_false_iff_ne, bne_eq_false_iff_eq, ne_eq, Decidable.not_not, wd_zero, wd_one, wd_inj] at hc9
                    refine B_seq ?_
                    refine B_draw [0, 1, 3, 4, 2, 5, 6, 7] #[0, 1, 3, 0, 8, 31, 63, 127] (by kernel_rfl) (by kernel_rfl) (by kernel_rfl) ?_
                    refine O_op (env' := uS32n132) (c := .calm) rfl rfl rfl (rfl) rfl rfl rfl ?_
                    refine O_op (env' := uS32n132) (c := .look) rfl rfl rfl (by first | exact v_loadF rfl rfl rfl rfl (by rfl) | exact v_load rfl rfl rfl rfl (by first | exact get_app rfl rfl | exact get_app (by simp) rfl) (by rfl)) rfl rfl rfl ?_
                    refine O_op (env' := uS32n132) (c := .calm) rfl rfl rfl (rfl) rfl rfl rfl ?_
                    refine O_opI (env' := uS32n132) (x := .look _ _) rfl rfl rfl (by first | exact v_loadF rfl rfl rfl rfl (by rfl) | exact v_load rfl rfl rfl rfl (by first | exact get_app rfl rfl | exact get_app (by simp) rfl) (by rfl)) rfl rfl rfl ?_
                    refine O_call (env' := uS32n132) rfl rfl rfl rfl rfl (by exact Links_spec _ p J (get_out s.pc) s.rk.len) (by first | exact Nat.le_refl _ | (simp; done)) rfl rfl ?_
                    refine O_call (env' := uS32n132) rfl rfl rfl rfl rfl (by exact rLinks_spec _ q L v (s.rl.app _) hL J s.rk s.co) (by first | exact Nat.le_refl _ | (simp; done)) rfl rfl ?_
                    refine O_call (env' := uS32n132) rfl rfl rfl rfl rfl (by exact Pairs_spec _ (lkL J) (lkL J) (by have := @lkTo_len J 64; show (lkTo J 64).length < _; omega)) (by first | exact Nat.le_refl _ | (simp; done)) rfl rfl ?_
                    refine O_op (env' := uS32n132) (c := .calm) rfl rfl rfl (v_move (.inr rfl) rfl) rfl rfl rfl ?_
                    refine O_nilP [(3, 4)] (by kernel_rfl) (And.intro ⟨_, _, _, _, ⟨(gA (gA (gA (gA (gL (by kernel_rfl)))))), (gA (gA (gA (gL (by kernel_rfl))))), And.intro (by first | exact v_loadF rfl rfl rfl rfl (by rfl) | exact v_load rfl rfl rfl rfl (by first | exact get_app rfl rfl | exact get_app (by simp) rfl) (by rfl)) (by first | exact v_loadF rfl rfl rfl rfl (by rfl) | exact v_load rfl rfl rfl rfl (by first | exact get_app rfl rfl | exact get_app (by simp) rfl) (by rfl))⟩⟩ (trivial)) ?_
                    refine K_seq ?_
                    refine B_ret ?_
                    refine K_blkR ?_
                    refine K_seqR ?_
                    refine E_keep (.inr rfl) (vres_tmp rfl rfl) ?_
                    first
                      | exact ⟨by first | rfl | (rw [decide_eq_true rfl]; done) | (rw [decide_eq_true rfl]; rfl), J, L, v, s.app _, by omega, Upd2.same⟩
                      | exact ⟨rfl, _, L2, v2, (side_new s s.rk.ovJ h1 h2 h4).1, h3, (side_new s s.rk.ovJ h1 h2 h4).2⟩
                      | exact ⟨rfl, _, L2, v2, (side_new s s.rk.ctJ h1 h2 h4).1, h3, (side_new s s.rk.ctJ h1 h2 h4).2⟩
                      | exact ⟨rfl, _, L2, v2, (side_new s s.rk.drJ h1 h2 h4).1, h3, (side_new s s.rk.drJ h1 h2 h4).2⟩
                  · try simp only [decide_eq_true_eq, decide_eq_false_iff_not, Bool.not_eq_true', Bool.not_eq_false', bne_iff_ne, beq_iff_eq, Bool.and_eq_true, Bool.or_eq_true, Bool.not_eq_true, ge_iff_le, gt_iff_lt, Int.not_le, Int.not_lt, beq_eq_false_iff_ne, bne_eq_false_iff_eq, ne_eq, Decidable.not_not, wd_zero, wd_one, wd_inj] at hc9
                    refine B_skip ?_
                    refine K_blk ?_
                    refine K_seq ?_
                    refine B_seq ?_
                    refine B_region ?_
                    refine L_op (env' := uS32n132) rfl rfl (v_const (VVal.bool true) (.inr rfl) rfl) rfl ?_
                    refine L_nil ?_
                    refine K_seq ?_
                    refine B_ret ?_
                    refine E_keep (.inr rfl) (vres_tmp rfl rfl) ?_
                    first
                      | exact ⟨by first | rfl | (rw [decide_eq_true rfl]; done) | (rw [decide_eq_true rfl]; rfl), J, L, v, s.app _, by omega, Upd2.same⟩
                      | exact ⟨rfl, _, L2, v2, (side_new s s.rk.ovJ h1 h2 h4).1, h3, (side_new s s.rk.ovJ h1 h2 h4).2⟩
                      | exact ⟨rfl, _, L2, v2, (side_new s s.rk.ctJ h1 h2 h4).1, h3, (side_new s s.rk.ctJ h1 h2 h4).2⟩
                      | exact ⟨rfl, _, L2, v2, (side_new s s.rk.drJ h1 h2 h4).1, h3, (side_new s s.rk.drJ h1 h2 h4).2⟩
end Go.Proofs.YteocbhgdmpdklaaDoor.VT
