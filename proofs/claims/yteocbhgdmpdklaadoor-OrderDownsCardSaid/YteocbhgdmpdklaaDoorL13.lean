/- OrderDowns: the law -/
import Derived.Test.YteocbhgdmpdklaaDoorR1
import Derived.Test.YteocbhgdmpdklaaDoorS8
import Derived.Test.YteocbhgdmpdklaaDoorS13
set_option autoImplicit false
set_option linter.unusedVariables false
set_option linter.unusedSimpArgs false
set_option maxHeartbeats 4000000
set_option maxRecDepth 100000
namespace Go.Proofs.YteocbhgdmpdklaaDoor.VT
open Go Go.V Go.RowKit

abbrev uL13n109 {a0 a1 a2 a3 a4 a5 a6 a7 a8 a9 a10 a11 a12 a13 a14 a15 a16 a17 a18 a19 a20 a21 a22 a23 a24 a25 a26 a27 a28 a29 a30 a31 a32 a33 a34 a35 a36 a37 a38 a39 a40 a41 a42 a43 a44 a45 a46 a47 a48 a49 a50 a51 a52 a53 a54 a55 a56 a57 a58 a59 a60 a61 a62 a63 a64 a65 a66 a67 a68 a69 a70 a71 a72 a73 a74 a75 a76 a77 a78 a79 a80 a81 a82 a83 a84 a85 a86 a87 a88 a89 a90 a91 a92 a93 a94 a95 a96 a97 a98 a99 a100 a101 a102 a103 a104 a105 a106 a107 a108 : VVal} : VEnv := a0 :: a1 :: a2 :: a3 :: a4 :: a5 :: a6 :: a7 :: a8 :: a9 :: a10 :: a11 :: a12 :: a13 :: a14 :: a15 :: a16 :: a17 :: a18 :: a19 :: a20 :: a21 :: a22 :: a23 :: a24 :: a25 :: a26 :: a27 :: a28 :: a29 :: a30 :: a31 :: a32 :: a33 :: a34 :: a35 :: a36 :: a37 :: a38 :: a39 :: a40 :: a41 :: a42 :: a43 :: a44 :: a45 :: a46 :: a47 :: a48 :: a49 :: a50 :: a51 :: a52 :: a53 :: a54 :: a55 :: a56 :: a57 :: a58 :: a59 :: a60 :: a61 :: a62 :: a63 :: a64 :: a65 :: a66 :: a67 :: a68 :: a69 :: a70 :: a71 :: a72 :: a73 :: a74 :: a75 :: a76 :: a77 :: a78 :: a79 :: a80 :: a81 :: a82 :: a83 :: a84 :: a85 :: a86 :: a87 :: a88 :: a89 :: a90 :: a91 :: a92 :: a93 :: a94 :: a95 :: a96 :: a97 :: a98 :: a99 :: a100 :: a101 :: a102 :: a103 :: a104 :: a105 :: a106 :: a107 :: a108 :: []

theorem OrderDowns_no {x : SW} (H : VHeap) (N A B : Int) (pairs : List (Int × Int)) (w : BitVec 64) (pr : List Int) (most : BitVec 64) (hl : pairs.length * 16 ≤ 140737488355328) (e : Int) (h1 : newV N pairs = .tuple [.ptr none, iI e]) (h2 : refNewV N pairs = .tuple [.ptr none, iI e]) : F (psys x) 4 [.agg [iI N, fzP pairs, iI A, iI B, iW w, fzI pr, iW most]] H fun v G => v = .bool true ∧ G = H := by
  refine F_body Tryd.func4 rfl uL13n109 rfl ?_
  refine B_seq ?_
  refine B_region ?_
  refine L_op (env' := uL13n109) rfl rfl (v_boxT rfl rfl rfl) rfl ?_
  refine L_op (env' := uL13n109) rfl rfl (v_alloc rfl rfl) rfl ?_
  refine L_nil ?_
  refine K_seq ?_
  refine B_seq ?_
  refine B_region ?_
  refine L_op (env' := uL13n109) rfl rfl (by first | exact v_loadFA rfl rfl rfl rfl (by first | rfl | assumption | exact fget (α := BitVec 64) 0 (by omega) | exact fget (α := Int) 0 (by omega) | exact fget0 (α := BitVec 64) 0 (by omega) | exact fget0 (α := Int) 0 (by omega) | exact fget (α := Bool) false (by omega) | exact fget0 (α := Bool) false (by omega) | (simp [*]; done)) | exact v_loadA rfl rfl rfl rfl (by first | exact get_app rfl rfl | exact get_out (by assumption) | assumption | (simp [*]; done)) (by first | rfl | assumption | exact fget (α := BitVec 64) 0 (by omega) | exact fget (α := Int) 0 (by omega) | exact fget0 (α := BitVec 64) 0 (by omega) | exact fget0 (α := Int) 0 (by omega) | exact fget (α := Bool) false (by omega) | exact fget0 (α := Bool) false (by omega) | (simp [*]; done))) rfl ?_
  refine L_call rfl rfl rfl (by exact both_no _ _ _ _ _ _ _ _ hl _ h1 h2) ?_
  rintro _ _ ⟨rfl, rfl⟩
  refine L_env (env' := uL13n109) rfl ?_
  refine L_op (env' := uL13n109) rfl rfl (v_move (.inl rfl) rfl) rfl ?_
  refine L_op (env' := uL13n109) rfl rfl (rfl) rfl ?_
  refine L_op (env' := uL13n109) rfl rfl (rfl) rfl ?_
  refine L_op (env' := uL13n109) rfl rfl (rfl) rfl ?_
  refine L_op (env' := uL13n109) rfl rfl (v_alloc rfl rfl) rfl ?_
  refine L_op (env' := uL13n109) rfl rfl (v_move (.inr rfl) rfl) rfl ?_
  refine L_op (env' := uL13n109) rfl rfl (v_storeT rfl rfl rfl rfl rfl rfl rfl (by first | exact get_app rfl rfl | exact get_out (by assumption) | assumption | (simp [*]; done)) (by first | exact Nat.le_of_ble_eq_true rfl | (simp only [List.length_map, List.length_cons, List.length_nil]; omega) | omega | (simp; done) | (simp; omega)) (by first | exact set_app rfl | exact set_out (lt_of_get (by assumption)) | rfl)) rfl ?_
  refine L_op (env' := uL13n109) rfl rfl (v_move (.inr rfl) rfl) rfl ?_
  refine L_nil ?_
  refine K_seq ?_
  refine B_seq ?_
  refine B_seq ?_
  refine B_region ?_
  refine L_op (env' := uL13n109) rfl rfl (v_move (.inl rfl) rfl) rfl ?_
  refine L_op (env' := uL13n109) rfl rfl (rfl) rfl ?_
  refine L_op (env' := uL13n109) rfl rfl (v_move (.inl rfl) rfl) rfl ?_
  refine L_op (env' := uL13n109) rfl rfl (v_move (.inl rfl) rfl) rfl ?_
  refine L_op (env' := uL13n109) rfl rfl (rfl) rfl ?_
  refine L_op (env' := uL13n109) rfl rfl (v_pickF rfl rfl rfl) rfl ?_
  refine L_nil ?_
  refine K_seq ?_
  refine B_true rfl rfl ?_
  refine B_seq ?_
  refine B_region ?_
  refine L_op (env' := uL13n109) rfl rfl (v_move (.inl rfl) rfl) rfl ?_
  refine L_op (env' := uL13n109) rfl rfl (v_storeT rfl rfl rfl rfl rfl rfl rfl (by first | exact get_app rfl rfl | exact get_out (by assumption) | assumption | (simp [*]; done)) (by first | exact Nat.le_of_ble_eq_true rfl | (simp only [List.length_map, List.length_cons, List.length_nil]; omega) | omega | (simp; done) | (simp; omega)) (by first | exact set_app rfl | exact set_out (lt_of_get (by assumption)) | rfl)) rfl ?_
  refine L_nil ?_
  refine K_seq ?_
  refine B_ret ?_
  refine K_seqR ?_
  refine E_app (.inr rfl) (vres_cell rfl rfl rfl rfl (by first | exact get_app rfl rfl | exact get_out (by assumption) | assumption | (simp [*]; done)) (by first | rfl | assumption | exact fget (α := BitVec 64) 0 (by omega) | exact fget (α := Int) 0 (by omega) | exact fget0 (α := BitVec 64) 0 (by omega) | exact fget0 (α := Int) 0 (by omega) | exact fget (α := Bool) false (by omega) | exact fget0 (α := Bool) false (by omega) | (simp [*]; done))) (by first | exact BaseOk.refl _ | exact BaseOk.set (BaseOk.refl _) _ rfl) (by simp [VVal.underL, VVal.under, VBlk.under, rows_under, fz_under, rows_under, fz_underI, fzP_under, under_mapW, under_mapI, under_flatP, under_repW, *]) ?_
  exact ⟨rfl, rfl⟩

theorem OrderDowns_yes {x : SW} (H : VHeap) (N A B : Int) (pairs : List (Int × Int)) (w : BitVec 64) (pr : List Int) (most : BitVec 64) (hl : pairs.length * 16 ≤ 140737488355328) (m : Nat) (hN : N = m) (ho : Ord m (rch pairs m) (preL pairs m) (sucL pairs m)) (h1 : newV N pairs = .tuple [ordV (preL pairs m) (sucL pairs m), iI 0]) (h2 : refNewV N pairs = .tuple [refV m (rch pairs m), iI 0]) : F (psys x) 4 [.agg [iI N, fzP pairs, iI A, iI B, iW w, fzI pr, iW most]] H fun v G => v = .bool true ∧ G = H := by
  subst hN
  have hm := ho.le
  refine F_body Tryd.func4 rfl uL13n109 rfl ?_
  refine B_seq ?_
  refine B_region ?_
  refine L_op (env' := uL13n109) rfl rfl (v_boxT rfl rfl rfl) rfl ?_
  refine L_op (env' := uL13n109) rfl rfl (v_alloc rfl rfl) rfl ?_
  refine L_nil ?_
  refine K_seq ?_
  refine B_seq ?_
  refine B_region ?_
  refine L_op (env' := uL13n109) rfl rfl (by first | exact v_loadFA rfl rfl rfl rfl (by first | rfl | assumption | exact fget (α := BitVec 64) 0 (by omega) | exact fget (α := Int) 0 (by omega) | exact fget0 (α := BitVec 64) 0 (by omega) | exact fget0 (α := Int) 0 (by omega) | exact fget (α := Bool) false (by omega) | exact fget0 (α := Bool) false (by omega) | (simp [*]; done)) | exact v_loadA rfl rfl rfl rfl (by first | exact get_app rfl rfl | exact get_out (by assumption) | assumption | (simp [*]; done)) (by first | rfl | assumption | exact fget (α := BitVec 64) 0 (by omega) | exact fget (α := Int) 0 (by omega) | exact fget0 (α := BitVec 64) 0 (by omega) | exact fget0 (α := Int) 0 (by omega) | exact fget (α := Bool) false (by omega) | exact fget0 (α := Bool) false (by omega) | (simp [*]; done))) rfl ?_
  refine L_call rfl rfl rfl (by exact both_yes _ _ _ _ _ _ _ _ hl _ _ _ _ h1 h2) ?_
  rintro _ _ ⟨rfl, rfl⟩
  refine L_env (env' := uL13n109) rfl ?_
  refine L_op (env' := uL13n109) rfl rfl (v_move (.inl rfl) rfl) rfl ?_
  refine L_op (env' := uL13n109) rfl rfl (rfl) rfl ?_
  refine L_op (env' := uL13n109) rfl rfl (rfl) rfl ?_
  refine L_op (env' := uL13n109) rfl rfl (rfl) rfl ?_
  refine L_op (env' := uL13n109) rfl rfl (v_alloc rfl rfl) rfl ?_
  refine L_op (env' := uL13n109) rfl rfl (v_move (.inr rfl) rfl) rfl ?_
  refine L_op (env' := uL13n109) rfl rfl (v_storeT rfl rfl rfl rfl rfl rfl rfl (by first | exact get_app rfl rfl | exact get_out (by assumption) | assumption | (simp [*]; done)) (by first | exact Nat.le_of_ble_eq_true rfl | (simp only [List.length_map, List.length_cons, List.length_nil]; omega) | omega | (simp; done) | (simp; omega)) (by first | exact set_app rfl | exact set_out (lt_of_get (by assumption)) | rfl)) rfl ?_
  refine L_op (env' := uL13n109) rfl rfl (v_move (.inr rfl) rfl) rfl ?_
  refine L_nil ?_
  refine K_seq ?_
  refine B_seq ?_
  refine B_seq ?_
  refine B_region ?_
  refine L_op (env' := uL13n109) rfl rfl (v_move (.inl rfl) rfl) rfl ?_
  refine L_op (env' := uL13n109) rfl rfl (rfl) rfl ?_
  refine L_op (env' := uL13n109) rfl rfl (v_move (.inl rfl) rfl) rfl ?_
  refine L_op (env' := uL13n109) rfl rfl (v_move (.inl rfl) rfl) rfl ?_
  refine L_op (env' := uL13n109) rfl rfl (rfl) rfl ?_
  refine L_op (env' := uL13n109) rfl rfl (v_pickF rfl rfl rfl) rfl ?_
  refine L_nil ?_
  refine K_seq ?_
  refine B_false rfl rfl ?_
  refine B_skip ?_
  refine K_seq ?_
  refine B_seq ?_
  refine B_region ?_
  refine L_op (env' := uL13n109) rfl rfl (v_move (.inl rfl) rfl) rfl ?_
  refine L_call rfl rfl rfl (by exact Downs_spec _ _ _) ?_
  rintro _ _ ⟨rfl, rfl⟩
  refine L_env (env' := uL13n109) rfl ?_
  refine L_op (env' := uL13n109) rfl rfl (v_move (.inr rfl) rfl) rfl ?_
  refine L_nil ?_
  refine K_seq ?_
  refine B_seq ?_
  refine B_seq ?_
  refine B_region ?_
  refine L_op (env' := uL13n109) rfl rfl (v_move (.inl rfl) rfl) rfl ?_
  refine L_op (env' := uL13n109) rfl rfl (rfl) rfl ?_
  refine L_nil ?_
  refine K_seq ?_
  refine B_false rfl rfl ?_
  refine B_skip ?_
  refine K_seq ?_
  refine B_seq ?_
  refine B_region ?_
  refine L_op (env' := uL13n109) rfl rfl (v_alloc rfl rfl) rfl ?_
  refine L_op (env' := uL13n109) rfl rfl (v_storeC (VVal.int .u64 0) rfl rfl rfl rfl rfl rfl rfl (by first | exact get_app rfl rfl | exact get_out (by assumption) | assumption | (simp [*]; done)) (by first | exact Nat.le_of_ble_eq_true rfl | (simp only [List.length_map, List.length_cons, List.length_nil]; omega) | omega | (simp; done) | (simp; omega)) (by first | exact set_app rfl | exact set_out (lt_of_get (by assumption)) | rfl)) rfl ?_
  refine L_nil ?_
  refine K_seq ?_
  refine B_seq ?_
  refine B_region ?_
  refine L_op (env' := uL13n109) rfl rfl (v_alloc rfl rfl) rfl ?_
  refine L_op (env' := uL13n109) rfl rfl (v_storeC (VVal.int .i64 0) rfl rfl rfl rfl rfl rfl rfl (by first | exact get_app rfl rfl | exact get_out (by assumption) | assumption | (simp [*]; done)) (by first | exact Nat.le_of_ble_eq_true rfl | (simp only [List.length_map, List.length_cons, List.length_nil]; omega) | omega | (simp; done) | (simp; omega)) (by first | exact set_app rfl | exact set_out (lt_of_get (by assumption)) | rfl)) rfl ?_
  refine L_nil ?_
  refine K_seq ?_
  refine B_seq ?_
  refine B_seq ?_
  refine B_region ?_
  refine L_op (env' := uL13n109) rfl rfl (v_move (.inl rfl) rfl) rfl ?_
  refine L_nil ?_
  refine K_seq ?_
  refine B_block ?_
  refine B_clear (true :: true :: false :: true :: false :: true :: true :: false :: false :: true :: true :: true :: true :: true :: true :: true :: true :: true :: true :: true :: true :: true :: true :: true :: true :: true :: true :: false :: true :: true :: true :: true :: true :: true :: true :: true :: true :: true :: true :: true :: true :: true :: true :: true :: true :: true :: true :: true :: true :: true :: true :: true :: true :: true :: true :: true :: true :: true :: true :: true :: true :: true :: true :: true :: true :: true :: true :: true :: true :: true :: true :: true :: true :: true :: true :: true :: true :: true :: true :: true :: true :: true :: true :: true :: true :: true :: true :: true :: true :: true :: true :: true :: true :: true :: true :: true :: true :: true :: true :: true :: true :: true :: true :: true :: true :: true :: true :: true :: true :: []) (env' := uL13n109) rfl ?_
  refine B_rangeM iW (dwnL m (preL pairs m) (sucL pairs m)) (fun l0 h => by cases h) rfl (fun l G R h => Downs1_spec l R _ _ (by rw [ho.pl]; exact hm) (by rw [ho.pl, ho.sl]) G (by rw [ho.pl]; exact h)) (σ := BitVec 64 × Nat × Bool) (fun k s => H ++ [.cells [iI (m : Nat), fzP pairs, iI A, iI B, iW w, fzI pr, iW most] true, .cells [.bool s.2.2] true, .cells [refV m (rch pairs m)] true, .cells [iW s.1] true, .cells [iI (s.2.1 : Nat)] true, k]) (0#64, 0, false) (fun k => by rw [List.append_assoc]; rfl) (fun k s => by rw [List.length_append]; exact get_app rfl rfl) (fun k k1 s => by rw [List.length_append]; exact set_app rfl) (fun pre s => ∃ q, dwnL m (preL pairs m) (sucL pairs m) = pre ++ q ∧ At m (rch pairs m) q s.1 ∧ s.2.1 = pre.length ∧ s.2.1 < 500 ∧ s.2.2 = false) ?_ (fun j pre c s => (j = Code.ret ∧ (s.2.2 = true))) rfl ?_ ?_ ?_
  · exact ⟨_, rfl, ho.at0, rfl, by decide, rfl⟩
  · intro pre c post s hx hI kr kb hkr hkb
    obtain ⟨aw, n, res⟩ := s
    try dsimp only at hI ⊢
    obtain ⟨q, hq, hA, hn, hn5, rfl⟩ := hI
    obtain rfl : q = c :: post := List.append_cancel_left (hq.symm.trans hx)
    have hgc := hA.ge c (List.mem_cons_self ..)
    have hdc := hA.dn c (List.mem_cons_self ..)
    refine B_env (env' := uL13n109) rfl ?_
    refine B_region ?_
    refine L_op (env' := uL13n109) rfl rfl (v_move (.inr rfl) rfl) rfl ?_
    refine L_nil ?_
    refine ⟨rfl, (aw, n, false), rfl, ?_⟩
    try dsimp only
    refine B_block ?_
    refine B_seqJ (true :: true :: false :: true :: false :: true :: true :: false :: false :: false :: true :: true :: true :: true :: true :: true :: true :: true :: true :: true :: true :: true :: true :: true :: true :: true :: true :: true :: true :: true :: true :: true :: true :: true :: true :: true :: true :: true :: true :: true :: true :: true :: true :: true :: true :: true :: true :: true :: true :: true :: true :: true :: true :: true :: true :: true :: true :: true :: true :: true :: true :: true :: true :: true :: true :: true :: true :: true :: true :: true :: true :: true :: true :: true :: true :: true :: true :: true :: true :: true :: true :: true :: true :: true :: true :: true :: true :: true :: true :: true :: true :: true :: true :: true :: true :: true :: true :: true :: true :: true :: true :: true :: true :: true :: true :: true :: true :: true :: true :: []) (fun (a1 : BitVec 64) => []) (fun (a1 : BitVec 64) G => (At m (rch pairs m) (c :: post) a1 ∧ (a1 = c ∨ 4096 ≤ a1.toNat)) ∧ G = H ++ [.cells [iI (m : Nat), fzP pairs, iI A, iI B, iW w, fzI pr, iW most] true, .cells [.bool false] true, .cells [refV m (rch pairs m)] true, .cells [iW a1] true, .cells [iI (n : Nat)] true, kb]) ?_ ?_
    · skip
      refine B_block ?_
      refine B_clear (true :: true :: false :: true :: false :: true :: true :: false :: false :: false :: true :: true :: true :: true :: true :: true :: true :: true :: true :: true :: true :: true :: true :: true :: true :: true :: true :: true :: true :: true :: true :: true :: true :: true :: true :: true :: true :: true :: true :: true :: true :: true :: true :: true :: true :: true :: true :: true :: true :: true :: true :: true :: true :: true :: true :: true :: true :: true :: true :: true :: true :: true :: true :: true :: true :: true :: true :: true :: true :: true :: true :: true :: true :: true :: true :: true :: true :: true :: true :: true :: true :: true :: true :: true :: true :: true :: true :: true :: true :: true :: true :: true :: true :: true :: true :: true :: true :: true :: true :: true :: true :: true :: true :: true :: true :: true :: true :: true :: true :: []) (env' := uL13n109) rfl ?_
      refine B_loopE (fun (a1 : BitVec 64) => c.toNat - a1.toNat) (fun (a1 : BitVec 64) => []) (fun (a1 : BitVec 64) G => (At m (rch pairs m) (c :: post) a1) ∧ G = H ++ [.cells [iI (m : Nat), fzP pairs, iI A, iI B, iW w, fzI pr, iW most] true, .cells [.bool false] true, .cells [refV m (rch pairs m)] true, .cells [iW a1] true, .cells [iI (n : Nat)] true, kb]) aw rfl ?_ ?_
      · refine ⟨?_, rfl⟩
        exact hA
      rintro a1 _ ⟨hA1, rfl⟩
      refine B_env (env' := uL13n109) rfl ?_
      have hgc := hA1.ge c (List.mem_cons_self ..)
      refine B_seq ?_
      refine B_seq ?_
      refine B_region ?_
      refine L_op (env' := uL13n109) rfl rfl (by first | exact v_loadF rfl rfl rfl rfl (by first | rfl | assumption | exact fget (α := BitVec 64) 0 (by omega) | exact fget (α := Int) 0 (by omega) | exact fget0 (α := BitVec 64) 0 (by omega) | exact fget0 (α := Int) 0 (by omega) | exact fget (α := Bool) false (by omega) | exact fget0 (α := Bool) false (by omega) | (simp [*]; done)) | exact v_load rfl rfl rfl rfl (by first | exact get_app rfl rfl | exact get_out (by assumption) | assumption | (simp [*]; done)) (by first | rfl | assumption | exact fget (α := BitVec 64) 0 (by omega) | exact fget (α := Int) 0 (by omega) | exact fget0 (α := BitVec 64) 0 (by omega) | exact fget0 (α := Int) 0 (by omega) | exact fget (α := Bool) false (by omega) | exact fget0 (α := Bool) false (by omega) | (simp [*]; done))) rfl ?_
      refine L_op (env' := uL13n109) rfl rfl (v_move (.inl rfl) rfl) rfl ?_
      refine L_op (env' := uL13n109) rfl rfl (rfl) rfl ?_
      refine L_op (env' := uL13n109) rfl rfl (v_move (.inl rfl) rfl) rfl ?_
      refine L_split 32 (env1 := uL13n109) (env2 := uL13n109) rfl rfl rfl (fun hg1 => ?_) (fun hg1 => ?_)
      · try simp only [decide_eq_true_eq, decide_eq_false_iff_not, Bool.not_eq_true', Bool.not_eq_false', bne_iff_ne, beq_iff_eq, Bool.and_eq_true, Bool.or_eq_true, Bool.not_eq_true, ge_iff_le, gt_iff_lt, Int.not_le, Int.not_lt, beq_eq_false_iff_ne, bne_eq_false_iff_eq, ne_eq, Decidable.not_not, wd_zero, wd_one, wd_inj] at hg1
        refine L_op (env' := uL13n109) rfl rfl (by first | exact v_loadF rfl rfl rfl rfl (by first | rfl | assumption | exact fget (α := BitVec 64) 0 (by omega) | exact fget (α := Int) 0 (by omega) | exact fget0 (α := BitVec 64) 0 (by omega) | exact fget0 (α := Int) 0 (by omega) | exact fget (α := Bool) false (by omega) | exact fget0 (α := Bool) false (by omega) | (simp [*]; done)) | exact v_load rfl rfl rfl rfl (by first | exact get_app rfl rfl | exact get_out (by assumption) | assumption | (simp [*]; done)) (by first | rfl | assumption | exact fget (α := BitVec 64) 0 (by omega) | exact fget (α := Int) 0 (by omega) | exact fget0 (α := BitVec 64) 0 (by omega) | exact fget0 (α := Int) 0 (by omega) | exact fget (α := Bool) false (by omega) | exact fget0 (α := Bool) false (by omega) | (simp [*]; done))) rfl ?_
        refine L_op (env' := uL13n109) rfl rfl (rfl) rfl ?_
        refine L_op (env' := uL13n109) rfl rfl (v_pickT rfl rfl rfl) rfl ?_
        refine L_op (env' := uL13n109) rfl rfl (v_move (.inl rfl) rfl) rfl ?_
        refine L_split 36 (env1 := uL13n109) (env2 := uL13n109) rfl rfl rfl (fun hg2 => ?_) (fun hg2 => ?_)
        · try simp only [decide_eq_true_eq, decide_eq_false_iff_not, Bool.not_eq_true', Bool.not_eq_false', bne_iff_ne, beq_iff_eq, Bool.and_eq_true, Bool.or_eq_true, Bool.not_eq_true, ge_iff_le, gt_iff_lt, Int.not_le, Int.not_lt, beq_eq_false_iff_ne, bne_eq_false_iff_eq, ne_eq, Decidable.not_not, wd_zero, wd_one, wd_inj] at hg2
          refine L_op (env' := uL13n109) rfl rfl (by first | exact v_loadF rfl rfl rfl rfl (by first | rfl | assumption | exact fget (α := BitVec 64) 0 (by omega) | exact fget (α := Int) 0 (by omega) | exact fget0 (α := BitVec 64) 0 (by omega) | exact fget0 (α := Int) 0 (by omega) | exact fget (α := Bool) false (by omega) | exact fget0 (α := Bool) false (by omega) | (simp [*]; done)) | exact v_load rfl rfl rfl rfl (by first | exact get_app rfl rfl | exact get_out (by assumption) | assumption | (simp [*]; done)) (by first | rfl | assumption | exact fget (α := BitVec 64) 0 (by omega) | exact fget (α := Int) 0 (by omega) | exact fget0 (α := BitVec 64) 0 (by omega) | exact fget0 (α := Int) 0 (by omega) | exact fget (α := Bool) false (by omega) | exact fget0 (α := Bool) false (by omega) | (simp [*]; done))) rfl ?_
          refine L_op (env' := uL13n109) rfl rfl (by first | exact v_loadF rfl rfl rfl rfl (by first | rfl | assumption | exact fget (α := BitVec 64) 0 (by omega) | exact fget (α := Int) 0 (by omega) | exact fget0 (α := BitVec 64) 0 (by omega) | exact fget0 (α := Int) 0 (by omega) | exact fget (α := Bool) false (by omega) | exact fget0 (α := Bool) false (by omega) | (simp [*]; done)) | exact v_load rfl rfl rfl rfl (by first | exact get_app rfl rfl | exact get_out (by assumption) | assumption | (simp [*]; done)) (by first | rfl | assumption | exact fget (α := BitVec 64) 0 (by omega) | exact fget (α := Int) 0 (by omega) | exact fget0 (α := BitVec 64) 0 (by omega) | exact fget0 (α := Int) 0 (by omega) | exact fget (α := Bool) false (by omega) | exact fget0 (α := Bool) false (by omega) | (simp [*]; done))) rfl ?_
          refine L_call rfl rfl rfl (by exact refDown_spec _ _ _ hm _) ?_
          rintro _ _ ⟨rfl, rfl⟩
          refine L_env (env' := uL13n109) rfl ?_
          refine L_op (env' := uL13n109) rfl rfl (v_is true rfl (by rw [hA1.none (Nat.le_refl _) (by omega)]; rfl)) rfl ?_
          refine L_op (env' := uL13n109) rfl rfl (v_pickT rfl rfl rfl) rfl ?_
          refine L_nil ?_
          refine K_seq ?_
          refine B_true rfl rfl ?_
          refine B_skip ?_
          refine K_seq ?_
          refine B_block ?_
          refine B_region ?_
          refine L_op (env' := uL13n109) rfl rfl (by first | exact v_loadF rfl rfl rfl rfl (by first | rfl | assumption | exact fget (α := BitVec 64) 0 (by omega) | exact fget (α := Int) 0 (by omega) | exact fget0 (α := BitVec 64) 0 (by omega) | exact fget0 (α := Int) 0 (by omega) | exact fget (α := Bool) false (by omega) | exact fget0 (α := Bool) false (by omega) | (simp [*]; done)) | exact v_load rfl rfl rfl rfl (by first | exact get_app rfl rfl | exact get_out (by assumption) | assumption | (simp [*]; done)) (by first | rfl | assumption | exact fget (α := BitVec 64) 0 (by omega) | exact fget (α := Int) 0 (by omega) | exact fget0 (α := BitVec 64) 0 (by omega) | exact fget0 (α := Int) 0 (by omega) | exact fget (α := Bool) false (by omega) | exact fget0 (α := Bool) false (by omega) | (simp [*]; done))) rfl ?_
          refine L_op (env' := uL13n109) rfl rfl (v_addW (b := 1#64) rfl rfl rfl) rfl ?_
          refine L_op (env' := uL13n109) rfl rfl (v_storeT rfl rfl rfl rfl rfl rfl rfl (by first | exact get_app rfl rfl | exact get_out (by assumption) | assumption | (simp [*]; done)) (by first | exact Nat.le_of_ble_eq_true rfl | (simp only [List.length_map, List.length_cons, List.length_nil]; omega) | omega | (simp; done) | (simp; omega)) (by first | exact set_app rfl | exact set_out (lt_of_get (by assumption)) | rfl)) rfl ?_
          refine L_nil ?_
          refine K_blk ?_
          refine K_loop (true :: true :: false :: true :: false :: true :: true :: false :: false :: false :: true :: true :: true :: true :: true :: true :: true :: true :: true :: true :: true :: true :: true :: true :: true :: true :: true :: true :: true :: true :: true :: true :: true :: true :: true :: true :: true :: true :: true :: true :: true :: true :: true :: true :: true :: true :: true :: true :: true :: true :: true :: true :: true :: true :: true :: true :: true :: true :: true :: true :: true :: true :: true :: true :: true :: true :: true :: true :: true :: true :: true :: true :: true :: true :: true :: true :: true :: true :: true :: true :: true :: true :: true :: true :: true :: true :: true :: true :: true :: true :: true :: true :: true :: true :: true :: true :: true :: true :: true :: true :: true :: true :: true :: true :: true :: true :: true :: true :: true :: []) (env' := uL13n109) rfl ⟨(a1 + 1#64), ?_, rfl, ?_⟩
          · have hcl := c.isLt; have e1 := add_one_nat (a := a1) (by omega); show c.toNat - (a1 + 1#64).toNat < c.toNat - a1.toNat; omega
          · exact ⟨hA1.up (by omega), rfl⟩
        · try simp only [decide_eq_true_eq, decide_eq_false_iff_not, Bool.not_eq_true', Bool.not_eq_false', bne_iff_ne, beq_iff_eq, Bool.and_eq_true, Bool.or_eq_true, Bool.not_eq_true, ge_iff_le, gt_iff_lt, Int.not_le, Int.not_lt, beq_eq_false_iff_ne, bne_eq_false_iff_eq, ne_eq, Decidable.not_not, wd_zero, wd_one, wd_inj] at hg2
          refine L_off (env' := uL13n109) rfl rfl ?_
          refine L_off (env' := uL13n109) rfl rfl ?_
          refine L_off (env' := uL13n109) rfl rfl ?_
          refine L_off (env' := uL13n109) rfl rfl ?_
          refine L_op (env' := uL13n109) rfl rfl (v_pickFC (VVal.bool false) rfl rfl rfl) rfl ?_
          refine L_nil ?_
          refine K_seq ?_
          refine B_false rfl rfl ?_
          refine B_exit ?_
          refine K_seqX ?_
          refine K_loopX ?_
          refine K_blkX ?_
          refine K_loop (true :: true :: false :: true :: false :: true :: true :: false :: false :: false :: true :: true :: true :: true :: true :: true :: true :: true :: true :: true :: true :: true :: true :: true :: true :: true :: true :: true :: true :: true :: true :: true :: true :: true :: true :: true :: true :: true :: true :: true :: true :: true :: true :: true :: true :: true :: true :: true :: true :: true :: true :: true :: true :: true :: true :: true :: true :: true :: true :: true :: true :: true :: true :: true :: true :: true :: true :: true :: true :: true :: true :: true :: true :: true :: true :: true :: true :: true :: true :: true :: true :: true :: true :: true :: true :: true :: true :: true :: true :: true :: true :: true :: true :: true :: true :: true :: true :: true :: true :: true :: true :: true :: true :: true :: true :: true :: true :: true :: true :: []) (env' := uL13n109) rfl ⟨a1, rfl, ?_⟩
          exact ⟨⟨hA1, by first | exact .inl (BitVec.eq_of_toNat_eq (by omega)) | exact .inr (by omega)⟩, rfl⟩
      · try simp only [decide_eq_true_eq, decide_eq_false_iff_not, Bool.not_eq_true', Bool.not_eq_false', bne_iff_ne, beq_iff_eq, Bool.and_eq_true, Bool.or_eq_true, Bool.not_eq_true, ge_iff_le, gt_iff_lt, Int.not_le, Int.not_lt, beq_eq_false_iff_ne, bne_eq_false_iff_eq, ne_eq, Decidable.not_not, wd_zero, wd_one, wd_inj] at hg1
        refine L_off (env' := uL13n109) rfl rfl ?_
        refine L_off (env' := uL13n109) rfl rfl ?_
        refine L_op (env' := uL13n109) rfl rfl (v_pickFC (VVal.bool false) rfl rfl rfl) rfl ?_
        refine L_op (env' := uL13n109) rfl rfl (v_move (.inl rfl) rfl) rfl ?_
        refine L_off (env' := uL13n109) rfl rfl ?_
        refine L_off (env' := uL13n109) rfl rfl ?_
        refine L_off (env' := uL13n109) rfl rfl ?_
        refine L_off (env' := uL13n109) rfl rfl ?_
        refine L_op (env' := uL13n109) rfl rfl (v_pickFC (VVal.bool false) rfl rfl rfl) rfl ?_
        refine L_nil ?_
        refine K_seq ?_
        refine B_false rfl rfl ?_
        refine B_exit ?_
        refine K_seqX ?_
        refine K_loopX ?_
        refine K_blkX ?_
        refine K_loop (true :: true :: false :: true :: false :: true :: true :: false :: false :: false :: true :: true :: true :: true :: true :: true :: true :: true :: true :: true :: true :: true :: true :: true :: true :: true :: true :: true :: true :: true :: true :: true :: true :: true :: true :: true :: true :: true :: true :: true :: true :: true :: true :: true :: true :: true :: true :: true :: true :: true :: true :: true :: true :: true :: true :: true :: true :: true :: true :: true :: true :: true :: true :: true :: true :: true :: true :: true :: true :: true :: true :: true :: true :: true :: true :: true :: true :: true :: true :: true :: true :: true :: true :: true :: true :: true :: true :: true :: true :: true :: true :: true :: true :: true :: true :: true :: true :: true :: true :: true :: true :: true :: true :: true :: true :: true :: true :: true :: true :: []) (env' := uL13n109) rfl ⟨a1, rfl, ?_⟩
        exact ⟨⟨hA1, by first | exact .inl (BitVec.eq_of_toNat_eq (by omega)) | exact .inr (by omega)⟩, rfl⟩
    · rintro a1 _ ⟨⟨hA2, hor⟩, rfl⟩
      refine B_env (env' := uL13n109) rfl ?_
      have hgc := hA2.ge c (List.mem_cons_self ..)
      refine B_seq ?_
      refine B_seq ?_
      refine B_region ?_
      refine L_op (env' := uL13n109) rfl rfl (v_move (.inl rfl) rfl) rfl ?_
      refine L_op (env' := uL13n109) rfl rfl (rfl) rfl ?_
      refine L_op (env' := uL13n109) rfl rfl (v_move (.inl rfl) rfl) rfl ?_
      refine L_split 46 (env1 := uL13n109) (env2 := uL13n109) rfl rfl rfl (fun hg3 => ?_) (fun hg3 => ?_)
      · try simp only [decide_eq_true_eq, decide_eq_false_iff_not, Bool.not_eq_true', Bool.not_eq_false', bne_iff_ne, beq_iff_eq, Bool.and_eq_true, Bool.or_eq_true, Bool.not_eq_true, ge_iff_le, gt_iff_lt, Int.not_le, Int.not_lt, beq_eq_false_iff_ne, bne_eq_false_iff_eq, ne_eq, Decidable.not_not, wd_zero, wd_one, wd_inj] at hg3
        refine L_op (env' := uL13n109) rfl rfl (by first | exact v_loadF rfl rfl rfl rfl (by first | rfl | assumption | exact fget (α := BitVec 64) 0 (by omega) | exact fget (α := Int) 0 (by omega) | exact fget0 (α := BitVec 64) 0 (by omega) | exact fget0 (α := Int) 0 (by omega) | exact fget (α := Bool) false (by omega) | exact fget0 (α := Bool) false (by omega) | (simp [*]; done)) | exact v_load rfl rfl rfl rfl (by first | exact get_app rfl rfl | exact get_out (by assumption) | assumption | (simp [*]; done)) (by first | rfl | assumption | exact fget (α := BitVec 64) 0 (by omega) | exact fget (α := Int) 0 (by omega) | exact fget0 (α := BitVec 64) 0 (by omega) | exact fget0 (α := Int) 0 (by omega) | exact fget (α := Bool) false (by omega) | exact fget0 (α := Bool) false (by omega) | (simp [*]; done))) rfl ?_
        refine L_op (env' := uL13n109) rfl rfl (v_move (.inl rfl) rfl) rfl ?_
        refine L_op (env' := uL13n109) rfl rfl (v_is false rfl (by rw [bne_eq_false_iff_eq]; rcases hor with h | h <;> first | omega | (rw [h]; done) | (rw [h]; omega))) rfl ?_
        refine L_op (env' := uL13n109) rfl rfl (v_pickT rfl rfl rfl) rfl ?_
        refine L_op (env' := uL13n109) rfl rfl (v_move (.inl rfl) rfl) rfl ?_
        refine L_op (env' := uL13n109) rfl rfl (by first | exact v_loadF rfl rfl rfl rfl (by first | rfl | assumption | exact fget (α := BitVec 64) 0 (by omega) | exact fget (α := Int) 0 (by omega) | exact fget0 (α := BitVec 64) 0 (by omega) | exact fget0 (α := Int) 0 (by omega) | exact fget (α := Bool) false (by omega) | exact fget0 (α := Bool) false (by omega) | (simp [*]; done)) | exact v_load rfl rfl rfl rfl (by first | exact get_app rfl rfl | exact get_out (by assumption) | assumption | (simp [*]; done)) (by first | rfl | assumption | exact fget (α := BitVec 64) 0 (by omega) | exact fget (α := Int) 0 (by omega) | exact fget0 (α := BitVec 64) 0 (by omega) | exact fget0 (α := Int) 0 (by omega) | exact fget (α := Bool) false (by omega) | exact fget0 (α := Bool) false (by omega) | (simp [*]; done))) rfl ?_
        refine L_op (env' := uL13n109) rfl rfl (rfl) rfl ?_
        refine L_op (env' := uL13n109) rfl rfl (v_move (.inl rfl) rfl) rfl ?_
        refine L_split 54 (env1 := uL13n109) (env2 := uL13n109) rfl rfl rfl (fun hg4 => ?_) (fun hg4 => ?_)
        · try simp only [decide_eq_true_eq, decide_eq_false_iff_not, Bool.not_eq_true', Bool.not_eq_false', bne_iff_ne, beq_iff_eq, Bool.and_eq_true, Bool.or_eq_true, Bool.not_eq_true, ge_iff_le, gt_iff_lt, Int.not_le, Int.not_lt, beq_eq_false_iff_ne, bne_eq_false_iff_eq, ne_eq, Decidable.not_not, wd_zero, wd_one, wd_inj] at hg4
          refine L_op (env' := uL13n109) rfl rfl (by first | exact v_loadF rfl rfl rfl rfl (by first | rfl | assumption | exact fget (α := BitVec 64) 0 (by omega) | exact fget (α := Int) 0 (by omega) | exact fget0 (α := BitVec 64) 0 (by omega) | exact fget0 (α := Int) 0 (by omega) | exact fget (α := Bool) false (by omega) | exact fget0 (α := Bool) false (by omega) | (simp [*]; done)) | exact v_load rfl rfl rfl rfl (by first | exact get_app rfl rfl | exact get_out (by assumption) | assumption | (simp [*]; done)) (by first | rfl | assumption | exact fget (α := BitVec 64) 0 (by omega) | exact fget (α := Int) 0 (by omega) | exact fget0 (α := BitVec 64) 0 (by omega) | exact fget0 (α := Int) 0 (by omega) | exact fget (α := Bool) false (by omega) | exact fget0 (α := Bool) false (by omega) | (simp [*]; done))) rfl ?_
          refine L_op (env' := uL13n109) rfl rfl (v_move (.inl rfl) rfl) rfl ?_
          refine L_op (env' := uL13n109) rfl rfl (v_is false rfl (decide_eq_false (by rcases hor with h | h <;> first | omega | (rw [h]; done) | (rw [h]; omega)))) rfl ?_
          refine L_op (env' := uL13n109) rfl rfl (v_pickT rfl rfl rfl) rfl ?_
          refine L_op (env' := uL13n109) rfl rfl (v_move (.inl rfl) rfl) rfl ?_
          refine L_off (env' := uL13n109) rfl rfl ?_
          refine L_off (env' := uL13n109) rfl rfl ?_
          refine L_off (env' := uL13n109) rfl rfl ?_
          refine L_op (env' := uL13n109) rfl rfl (v_pickFC (VVal.bool false) rfl rfl rfl) rfl ?_
          refine L_op (env' := uL13n109) rfl rfl (v_pickF rfl rfl rfl) rfl ?_
          refine L_op (env' := uL13n109) rfl rfl (v_move (.inl rfl) rfl) rfl ?_
          refine L_op (env' := uL13n109) rfl rfl (by first | exact v_loadF rfl rfl rfl rfl (by first | rfl | assumption | exact fget (α := BitVec 64) 0 (by omega) | exact fget (α := Int) 0 (by omega) | exact fget0 (α := BitVec 64) 0 (by omega) | exact fget0 (α := Int) 0 (by omega) | exact fget (α := Bool) false (by omega) | exact fget0 (α := Bool) false (by omega) | (simp [*]; done)) | exact v_load rfl rfl rfl rfl (by first | exact get_app rfl rfl | exact get_out (by assumption) | assumption | (simp [*]; done)) (by first | rfl | assumption | exact fget (α := BitVec 64) 0 (by omega) | exact fget (α := Int) 0 (by omega) | exact fget0 (α := BitVec 64) 0 (by omega) | exact fget0 (α := Int) 0 (by omega) | exact fget (α := Bool) false (by omega) | exact fget0 (α := Bool) false (by omega) | (simp [*]; done))) rfl ?_
          refine L_op (env' := uL13n109) rfl rfl (v_move (.inl rfl) rfl) rfl ?_
          refine L_call rfl rfl rfl (by exact refDown_spec _ _ _ hm _) ?_
          rintro v _ ⟨hv, rfl⟩; obtain rfl : v = .bool true := hv.trans (by rw [hdc])
          refine L_env (env' := uL13n109) rfl ?_
          refine L_op (env' := uL13n109) rfl rfl (rfl) rfl ?_
          refine L_op (env' := uL13n109) rfl rfl (v_pickF rfl rfl rfl) rfl ?_
          refine L_op (env' := uL13n109) rfl rfl (v_move (.inl rfl) rfl) rfl ?_
          refine L_op (env' := uL13n109) rfl rfl (by first | exact v_loadF rfl rfl rfl rfl (by first | rfl | assumption | exact fget (α := BitVec 64) 0 (by omega) | exact fget (α := Int) 0 (by omega) | exact fget0 (α := BitVec 64) 0 (by omega) | exact fget0 (α := Int) 0 (by omega) | exact fget (α := Bool) false (by omega) | exact fget0 (α := Bool) false (by omega) | (simp [*]; done)) | exact v_load rfl rfl rfl rfl (by first | exact get_app rfl rfl | exact get_out (by assumption) | assumption | (simp [*]; done)) (by first | rfl | assumption | exact fget (α := BitVec 64) 0 (by omega) | exact fget (α := Int) 0 (by omega) | exact fget0 (α := BitVec 64) 0 (by omega) | exact fget0 (α := Int) 0 (by omega) | exact fget (α := Bool) false (by omega) | exact fget0 (α := Bool) false (by omega) | (simp [*]; done))) rfl ?_
          refine L_op (env' := uL13n109) rfl rfl (rfl) rfl ?_
          refine L_op (env' := uL13n109) rfl rfl (v_move (.inl rfl) rfl) rfl ?_
          refine L_split 74 (env1 := uL13n109) (env2 := uL13n109) rfl rfl rfl (fun hg5 => ?_) (fun hg5 => ?_)
          · try simp only [decide_eq_true_eq, decide_eq_false_iff_not, Bool.not_eq_true', Bool.not_eq_false', bne_iff_ne, beq_iff_eq, Bool.and_eq_true, Bool.or_eq_true, Bool.not_eq_true, ge_iff_le, gt_iff_lt, Int.not_le, Int.not_lt, beq_eq_false_iff_ne, bne_eq_false_iff_eq, ne_eq, Decidable.not_not, wd_zero, wd_one, wd_inj] at hg5
            refine L_op (env' := uL13n109) rfl rfl (v_move (.inl rfl) rfl) rfl ?_
            refine L_op (env' := uL13n109) rfl rfl (by first | exact v_loadF rfl rfl rfl rfl (by first | rfl | assumption | exact fget (α := BitVec 64) 0 (by omega) | exact fget (α := Int) 0 (by omega) | exact fget0 (α := BitVec 64) 0 (by omega) | exact fget0 (α := Int) 0 (by omega) | exact fget (α := Bool) false (by omega) | exact fget0 (α := Bool) false (by omega) | (simp [*]; done)) | exact v_load rfl rfl rfl rfl (by first | exact get_app rfl rfl | exact get_out (by assumption) | assumption | (simp [*]; done)) (by first | rfl | assumption | exact fget (α := BitVec 64) 0 (by omega) | exact fget (α := Int) 0 (by omega) | exact fget0 (α := BitVec 64) 0 (by omega) | exact fget0 (α := Int) 0 (by omega) | exact fget (α := Bool) false (by omega) | exact fget0 (α := Bool) false (by omega) | (simp [*]; done))) rfl ?_
            refine L_op (env' := uL13n109) rfl rfl (v_is false rfl (decide_eq_false (by omega))) rfl ?_
            refine L_op (env' := uL13n109) rfl rfl (v_pickT rfl rfl rfl) rfl ?_
            refine L_op (env' := uL13n109) rfl rfl (v_pickF rfl rfl rfl) rfl ?_
            refine L_nil ?_
            refine K_seq ?_
            refine B_false rfl rfl ?_
            refine B_skip ?_
            refine K_seq ?_
            refine B_seq ?_
            refine B_region ?_
            refine L_op (env' := uL13n109) rfl rfl (v_move (.inl rfl) rfl) rfl ?_
            refine L_op (env' := uL13n109) rfl rfl (v_addW (b := 1#64) rfl rfl rfl) rfl ?_
            refine L_op (env' := uL13n109) rfl rfl (v_storeT rfl rfl rfl rfl rfl rfl rfl (by first | exact get_app rfl rfl | exact get_out (by assumption) | assumption | (simp [*]; done)) (by first | exact Nat.le_of_ble_eq_true rfl | (simp only [List.length_map, List.length_cons, List.length_nil]; omega) | omega | (simp; done) | (simp; omega)) (by first | exact set_app rfl | exact set_out (lt_of_get (by assumption)) | rfl)) rfl ?_
            refine L_nil ?_
            refine K_seq ?_
            refine B_seq ?_
            refine B_region ?_
            refine L_op (env' := uL13n109) rfl rfl (by first | exact v_loadF rfl rfl rfl rfl (by first | rfl | assumption | exact fget (α := BitVec 64) 0 (by omega) | exact fget (α := Int) 0 (by omega) | exact fget0 (α := BitVec 64) 0 (by omega) | exact fget0 (α := Int) 0 (by omega) | exact fget (α := Bool) false (by omega) | exact fget0 (α := Bool) false (by omega) | (simp [*]; done)) | exact v_load rfl rfl rfl rfl (by first | exact get_app rfl rfl | exact get_out (by assumption) | assumption | (simp [*]; done)) (by first | rfl | assumption | exact fget (α := BitVec 64) 0 (by omega) | exact fget (α := Int) 0 (by omega) | exact fget0 (α := BitVec 64) 0 (by omega) | exact fget0 (α := Int) 0 (by omega) | exact fget (α := Bool) false (by omega) | exact fget0 (α := Bool) false (by omega) | (simp [*]; done))) rfl ?_
            refine L_op (env' := uL13n109) rfl rfl (v_addI rfl rfl rfl (by first | assumption | omega | (simp [*]; done) | (simp at *; omega))) rfl ?_
            refine L_op (env' := uL13n109) rfl rfl (v_storeT rfl rfl rfl rfl rfl rfl rfl (by first | exact get_app rfl rfl | exact get_out (by assumption) | assumption | (simp [*]; done)) (by first | exact Nat.le_of_ble_eq_true rfl | (simp only [List.length_map, List.length_cons, List.length_nil]; omega) | omega | (simp; done) | (simp; omega)) (by first | exact set_app rfl | exact set_out (lt_of_get (by assumption)) | rfl)) rfl ?_
            refine L_nil ?_
            refine K_seq ?_
            refine B_seq ?_
            refine B_region ?_
            refine L_op (env' := uL13n109) rfl rfl (by first | exact v_loadF rfl rfl rfl rfl (by first | rfl | assumption | exact fget (α := BitVec 64) 0 (by omega) | exact fget (α := Int) 0 (by omega) | exact fget0 (α := BitVec 64) 0 (by omega) | exact fget0 (α := Int) 0 (by omega) | exact fget (α := Bool) false (by omega) | exact fget0 (α := Bool) false (by omega) | (simp [*]; done)) | exact v_load rfl rfl rfl rfl (by first | exact get_app rfl rfl | exact get_out (by assumption) | assumption | (simp [*]; done)) (by first | rfl | assumption | exact fget (α := BitVec 64) 0 (by omega) | exact fget (α := Int) 0 (by omega) | exact fget0 (α := BitVec 64) 0 (by omega) | exact fget0 (α := Int) 0 (by omega) | exact fget (α := Bool) false (by omega) | exact fget0 (α := Bool) false (by omega) | (simp [*]; done))) rfl ?_
            refine L_op (env' := uL13n109) rfl rfl (rfl) rfl ?_
            refine L_op (env' := uL13n109) rfl rfl (v_move (.inl rfl) rfl) rfl ?_
            refine L_split 86 (env1 := uL13n109) (env2 := uL13n109) rfl rfl rfl (fun hg6 => ?_) (fun hg6 => ?_)
            · try simp only [decide_eq_true_eq, decide_eq_false_iff_not, Bool.not_eq_true', Bool.not_eq_false', bne_iff_ne, beq_iff_eq, Bool.and_eq_true, Bool.or_eq_true, Bool.not_eq_true, ge_iff_le, gt_iff_lt, Int.not_le, Int.not_lt, beq_eq_false_iff_ne, bne_eq_false_iff_eq, ne_eq, Decidable.not_not, wd_zero, wd_one, wd_inj] at hg6
              refine L_off (env' := uL13n109) rfl rfl ?_
              refine L_off (env' := uL13n109) rfl rfl ?_
              refine L_op (env' := uL13n109) rfl rfl (v_pickTC (VVal.bool true) rfl rfl rfl) rfl ?_
              refine L_nil ?_
              refine K_seq ?_
              refine B_true rfl rfl ?_
              refine B_seq ?_
              refine B_region ?_
              refine L_op (env' := uL13n109) rfl rfl (by first | exact v_loadF rfl rfl rfl rfl (by first | rfl | assumption | exact fget (α := BitVec 64) 0 (by omega) | exact fget (α := Int) 0 (by omega) | exact fget0 (α := BitVec 64) 0 (by omega) | exact fget0 (α := Int) 0 (by omega) | exact fget (α := Bool) false (by omega) | exact fget0 (α := Bool) false (by omega) | (simp [*]; done)) | exact v_load rfl rfl rfl rfl (by first | exact get_app rfl rfl | exact get_out (by assumption) | assumption | (simp [*]; done)) (by first | rfl | assumption | exact fget (α := BitVec 64) 0 (by omega) | exact fget (α := Int) 0 (by omega) | exact fget0 (α := BitVec 64) 0 (by omega) | exact fget0 (α := Int) 0 (by omega) | exact fget (α := Bool) false (by omega) | exact fget0 (α := Bool) false (by omega) | (simp [*]; done))) rfl ?_
              refine L_op (env' := uL13n109) rfl rfl (rfl) rfl ?_
              refine L_op (env' := uL13n109) rfl rfl (v_move (.inl rfl) rfl) rfl ?_
              refine L_split 92 (env1 := uL13n109) (env2 := uL13n109) rfl rfl rfl (fun hg7 => ?_) (fun hg7 => ?_)
              · try simp only [decide_eq_true_eq, decide_eq_false_iff_not, Bool.not_eq_true', Bool.not_eq_false', bne_iff_ne, beq_iff_eq, Bool.and_eq_true, Bool.or_eq_true, Bool.not_eq_true, ge_iff_le, gt_iff_lt, Int.not_le, Int.not_lt, beq_eq_false_iff_ne, bne_eq_false_iff_eq, ne_eq, Decidable.not_not, wd_zero, wd_one, wd_inj] at hg7
                refine L_off (env' := uL13n109) rfl rfl ?_
                refine L_off (env' := uL13n109) rfl rfl ?_
                refine L_op (env' := uL13n109) rfl rfl (v_pickTC (VVal.bool true) rfl rfl rfl) rfl ?_
                refine L_op (env' := uL13n109) rfl rfl (v_storeT rfl rfl rfl rfl rfl rfl rfl (by first | exact get_app rfl rfl | exact get_out (by assumption) | assumption | (simp [*]; done)) (by first | exact Nat.le_of_ble_eq_true rfl | (simp only [List.length_map, List.length_cons, List.length_nil]; omega) | omega | (simp; done) | (simp; omega)) (by first | exact set_app rfl | exact set_out (lt_of_get (by assumption)) | rfl)) rfl ?_
                refine L_nil ?_
                refine K_seq ?_
                refine B_ret ?_
                refine K_blkR ?_
                refine ⟨(c + 1#64, n + 1, true), rfl, .inr ⟨Code.ret, rfl, ⟨rfl, ?_⟩⟩⟩
                rfl
              · try simp only [decide_eq_true_eq, decide_eq_false_iff_not, Bool.not_eq_true', Bool.not_eq_false', bne_iff_ne, beq_iff_eq, Bool.and_eq_true, Bool.or_eq_true, Bool.not_eq_true, ge_iff_le, gt_iff_lt, Int.not_le, Int.not_lt, beq_eq_false_iff_ne, bne_eq_false_iff_eq, ne_eq, Decidable.not_not, wd_zero, wd_one, wd_inj] at hg7
                refine L_op (env' := uL13n109) rfl rfl (v_move (.inl rfl) rfl) rfl ?_
                refine L_op (env' := uL13n109) rfl rfl (v_is true rfl (by rw [beq_iff_eq]; first | omega | exact sp1 (by assumption))) rfl ?_
                refine L_op (env' := uL13n109) rfl rfl (v_pickF rfl rfl rfl) rfl ?_
                refine L_op (env' := uL13n109) rfl rfl (v_storeT rfl rfl rfl rfl rfl rfl rfl (by first | exact get_app rfl rfl | exact get_out (by assumption) | assumption | (simp [*]; done)) (by first | exact Nat.le_of_ble_eq_true rfl | (simp only [List.length_map, List.length_cons, List.length_nil]; omega) | omega | (simp; done) | (simp; omega)) (by first | exact set_app rfl | exact set_out (lt_of_get (by assumption)) | rfl)) rfl ?_
                refine L_nil ?_
                refine K_seq ?_
                refine B_ret ?_
                refine K_blkR ?_
                refine ⟨(c + 1#64, n + 1, true), rfl, .inr ⟨Code.ret, rfl, ⟨rfl, ?_⟩⟩⟩
                rfl
            · try simp only [decide_eq_true_eq, decide_eq_false_iff_not, Bool.not_eq_true', Bool.not_eq_false', bne_iff_ne, beq_iff_eq, Bool.and_eq_true, Bool.or_eq_true, Bool.not_eq_true, ge_iff_le, gt_iff_lt, Int.not_le, Int.not_lt, beq_eq_false_iff_ne, bne_eq_false_iff_eq, ne_eq, Decidable.not_not, wd_zero, wd_one, wd_inj] at hg6
              refine L_op (env' := uL13n109) rfl rfl (by first | exact v_loadF rfl rfl rfl rfl (by first | rfl | assumption | exact fget (α := BitVec 64) 0 (by omega) | exact fget (α := Int) 0 (by omega) | exact fget0 (α := BitVec 64) 0 (by omega) | exact fget0 (α := Int) 0 (by omega) | exact fget (α := Bool) false (by omega) | exact fget0 (α := Bool) false (by omega) | (simp [*]; done)) | exact v_load rfl rfl rfl rfl (by first | exact get_app rfl rfl | exact get_out (by assumption) | assumption | (simp [*]; done)) (by first | rfl | assumption | exact fget (α := BitVec 64) 0 (by omega) | exact fget (α := Int) 0 (by omega) | exact fget0 (α := BitVec 64) 0 (by omega) | exact fget0 (α := Int) 0 (by omega) | exact fget (α := Bool) false (by omega) | exact fget0 (α := Bool) false (by omega) | (simp [*]; done))) rfl ?_
              refine L_op (env' := uL13n109) rfl rfl (rfl) rfl ?_
              refine L_op (env' := uL13n109) rfl rfl (v_pickF rfl rfl rfl) rfl ?_
              refine L_nil ?_
              refine K_seq ?_
              refine B_cond _ rfl (fun hc8 => ?_) (fun hc8 => ?_)
              · try simp only [decide_eq_true_eq, decide_eq_false_iff_not, Bool.not_eq_true', Bool.not_eq_false', bne_iff_ne, beq_iff_eq, Bool.and_eq_true, Bool.or_eq_true, Bool.not_eq_true, ge_iff_le, gt_iff_lt, Int.not_le, Int.not_lt, beq_eq_false_iff_ne, bne_eq_false_iff_eq, ne_eq, Decidable.not_not, wd_zero, wd_one, wd_inj] at hc8
                refine B_seq ?_
                refine B_region ?_
                refine L_op (env' := uL13n109) rfl rfl (by first | exact v_loadF rfl rfl rfl rfl (by first | rfl | assumption | exact fget (α := BitVec 64) 0 (by omega) | exact fget (α := Int) 0 (by omega) | exact fget0 (α := BitVec 64) 0 (by omega) | exact fget0 (α := Int) 0 (by omega) | exact fget (α := Bool) false (by omega) | exact fget0 (α := Bool) false (by omega) | (simp [*]; done)) | exact v_load rfl rfl rfl rfl (by first | exact get_app rfl rfl | exact get_out (by assumption) | assumption | (simp [*]; done)) (by first | rfl | assumption | exact fget (α := BitVec 64) 0 (by omega) | exact fget (α := Int) 0 (by omega) | exact fget0 (α := BitVec 64) 0 (by omega) | exact fget0 (α := Int) 0 (by omega) | exact fget (α := Bool) false (by omega) | exact fget0 (α := Bool) false (by omega) | (simp [*]; done))) rfl ?_
                refine L_op (env' := uL13n109) rfl rfl (rfl) rfl ?_
                refine L_op (env' := uL13n109) rfl rfl (v_move (.inl rfl) rfl) rfl ?_
                refine L_split 92 (env1 := uL13n109) (env2 := uL13n109) rfl rfl rfl (fun hg9 => ?_) (fun hg9 => ?_)
                · try simp only [decide_eq_true_eq, decide_eq_false_iff_not, Bool.not_eq_true', Bool.not_eq_false', bne_iff_ne, beq_iff_eq, Bool.and_eq_true, Bool.or_eq_true, Bool.not_eq_true, ge_iff_le, gt_iff_lt, Int.not_le, Int.not_lt, beq_eq_false_iff_ne, bne_eq_false_iff_eq, ne_eq, Decidable.not_not, wd_zero, wd_one, wd_inj] at hg9
                  refine L_off (env' := uL13n109) rfl rfl ?_
                  refine L_off (env' := uL13n109) rfl rfl ?_
                  refine L_op (env' := uL13n109) rfl rfl (v_pickTC (VVal.bool true) rfl rfl rfl) rfl ?_
                  refine L_op (env' := uL13n109) rfl rfl (v_storeT rfl rfl rfl rfl rfl rfl rfl (by first | exact get_app rfl rfl | exact get_out (by assumption) | assumption | (simp [*]; done)) (by first | exact Nat.le_of_ble_eq_true rfl | (simp only [List.length_map, List.length_cons, List.length_nil]; omega) | omega | (simp; done) | (simp; omega)) (by first | exact set_app rfl | exact set_out (lt_of_get (by assumption)) | rfl)) rfl ?_
                  refine L_nil ?_
                  refine K_seq ?_
                  refine B_ret ?_
                  refine K_blkR ?_
                  refine ⟨(c + 1#64, n + 1, true), rfl, .inr ⟨Code.ret, rfl, ⟨rfl, ?_⟩⟩⟩
                  rfl
                · try simp only [decide_eq_true_eq, decide_eq_false_iff_not, Bool.not_eq_true', Bool.not_eq_false', bne_iff_ne, beq_iff_eq, Bool.and_eq_true, Bool.or_eq_true, Bool.not_eq_true, ge_iff_le, gt_iff_lt, Int.not_le, Int.not_lt, beq_eq_false_iff_ne, bne_eq_false_iff_eq, ne_eq, Decidable.not_not, wd_zero, wd_one, wd_inj] at hg9
                  refine L_op (env' := uL13n109) rfl rfl (v_move (.inl rfl) rfl) rfl ?_
                  refine L_op (env' := uL13n109) rfl rfl (v_is true rfl (by rw [beq_iff_eq]; first | omega | exact sp1 (by assumption))) rfl ?_
                  refine L_op (env' := uL13n109) rfl rfl (v_pickF rfl rfl rfl) rfl ?_
                  refine L_op (env' := uL13n109) rfl rfl (v_storeT rfl rfl rfl rfl rfl rfl rfl (by first | exact get_app rfl rfl | exact get_out (by assumption) | assumption | (simp [*]; done)) (by first | exact Nat.le_of_ble_eq_true rfl | (simp only [List.length_map, List.length_cons, List.length_nil]; omega) | omega | (simp; done) | (simp; omega)) (by first | exact set_app rfl | exact set_out (lt_of_get (by assumption)) | rfl)) rfl ?_
                  refine L_nil ?_
                  refine K_seq ?_
                  refine B_ret ?_
                  refine K_blkR ?_
                  refine ⟨(c + 1#64, n + 1, true), rfl, .inr ⟨Code.ret, rfl, ⟨rfl, ?_⟩⟩⟩
                  rfl
              · try simp only [decide_eq_true_eq, decide_eq_false_iff_not, Bool.not_eq_true', Bool.not_eq_false', bne_iff_ne, beq_iff_eq, Bool.and_eq_true, Bool.or_eq_true, Bool.not_eq_true, ge_iff_le, gt_iff_lt, Int.not_le, Int.not_lt, beq_eq_false_iff_ne, bne_eq_false_iff_eq, ne_eq, Decidable.not_not, wd_zero, wd_one, wd_inj] at hc8
                refine B_skip ?_
                refine K_blk ?_
                refine ⟨(c + 1#64, n + 1, false), rfl, .inl ⟨rfl, ?_⟩⟩
                refine ⟨post, by rw [hx, List.append_assoc]; rfl, hA.next (by first | assumption | (intro e; simp_all)), by simp [hn], ?_, rfl⟩
                show n + 1 < 500
                omega
          · try simp only [decide_eq_true_eq, decide_eq_false_iff_not, Bool.not_eq_true', Bool.not_eq_false', bne_iff_ne, beq_iff_eq, Bool.and_eq_true, Bool.or_eq_true, Bool.not_eq_true, ge_iff_le, gt_iff_lt, Int.not_le, Int.not_lt, beq_eq_false_iff_ne, bne_eq_false_iff_eq, ne_eq, Decidable.not_not, wd_zero, wd_one, wd_inj] at hg5
            refine L_off (env' := uL13n109) rfl rfl ?_
            refine L_off (env' := uL13n109) rfl rfl ?_
            refine L_off (env' := uL13n109) rfl rfl ?_
            refine L_op (env' := uL13n109) rfl rfl (v_pickFC (VVal.bool false) rfl rfl rfl) rfl ?_
            refine L_op (env' := uL13n109) rfl rfl (v_pickF rfl rfl rfl) rfl ?_
            refine L_nil ?_
            refine K_seq ?_
            refine B_false rfl rfl ?_
            refine B_skip ?_
            refine K_seq ?_
            refine B_seq ?_
            refine B_region ?_
            refine L_op (env' := uL13n109) rfl rfl (v_move (.inl rfl) rfl) rfl ?_
            refine L_op (env' := uL13n109) rfl rfl (v_addW (b := 1#64) rfl rfl rfl) rfl ?_
            refine L_op (env' := uL13n109) rfl rfl (v_storeT rfl rfl rfl rfl rfl rfl rfl (by first | exact get_app rfl rfl | exact get_out (by assumption) | assumption | (simp [*]; done)) (by first | exact Nat.le_of_ble_eq_true rfl | (simp only [List.length_map, List.length_cons, List.length_nil]; omega) | omega | (simp; done) | (simp; omega)) (by first | exact set_app rfl | exact set_out (lt_of_get (by assumption)) | rfl)) rfl ?_
            refine L_nil ?_
            refine K_seq ?_
            refine B_seq ?_
            refine B_region ?_
            refine L_op (env' := uL13n109) rfl rfl (by first | exact v_loadF rfl rfl rfl rfl (by first | rfl | assumption | exact fget (α := BitVec 64) 0 (by omega) | exact fget (α := Int) 0 (by omega) | exact fget0 (α := BitVec 64) 0 (by omega) | exact fget0 (α := Int) 0 (by omega) | exact fget (α := Bool) false (by omega) | exact fget0 (α := Bool) false (by omega) | (simp [*]; done)) | exact v_load rfl rfl rfl rfl (by first | exact get_app rfl rfl | exact get_out (by assumption) | assumption | (simp [*]; done)) (by first | rfl | assumption | exact fget (α := BitVec 64) 0 (by omega) | exact fget (α := Int) 0 (by omega) | exact fget0 (α := BitVec 64) 0 (by omega) | exact fget0 (α := Int) 0 (by omega) | exact fget (α := Bool) false (by omega) | exact fget0 (α := Bool) false (by omega) | (simp [*]; done))) rfl ?_
            refine L_op (env' := uL13n109) rfl rfl (v_addI rfl rfl rfl (by first | assumption | omega | (simp [*]; done) | (simp at *; omega))) rfl ?_
            refine L_op (env' := uL13n109) rfl rfl (v_storeT rfl rfl rfl rfl rfl rfl rfl (by first | exact get_app rfl rfl | exact get_out (by assumption) | assumption | (simp [*]; done)) (by first | exact Nat.le_of_ble_eq_true rfl | (simp only [List.length_map, List.length_cons, List.length_nil]; omega) | omega | (simp; done) | (simp; omega)) (by first | exact set_app rfl | exact set_out (lt_of_get (by assumption)) | rfl)) rfl ?_
            refine L_nil ?_
            refine K_seq ?_
            refine B_seq ?_
            refine B_region ?_
            refine L_op (env' := uL13n109) rfl rfl (by first | exact v_loadF rfl rfl rfl rfl (by first | rfl | assumption | exact fget (α := BitVec 64) 0 (by omega) | exact fget (α := Int) 0 (by omega) | exact fget0 (α := BitVec 64) 0 (by omega) | exact fget0 (α := Int) 0 (by omega) | exact fget (α := Bool) false (by omega) | exact fget0 (α := Bool) false (by omega) | (simp [*]; done)) | exact v_load rfl rfl rfl rfl (by first | exact get_app rfl rfl | exact get_out (by assumption) | assumption | (simp [*]; done)) (by first | rfl | assumption | exact fget (α := BitVec 64) 0 (by omega) | exact fget (α := Int) 0 (by omega) | exact fget0 (α := BitVec 64) 0 (by omega) | exact fget0 (α := Int) 0 (by omega) | exact fget (α := Bool) false (by omega) | exact fget0 (α := Bool) false (by omega) | (simp [*]; done))) rfl ?_
            refine L_op (env' := uL13n109) rfl rfl (rfl) rfl ?_
            refine L_op (env' := uL13n109) rfl rfl (v_move (.inl rfl) rfl) rfl ?_
            refine L_split 86 (env1 := uL13n109) (env2 := uL13n109) rfl rfl rfl (fun hg10 => ?_) (fun hg10 => ?_)
            · try simp only [decide_eq_true_eq, decide_eq_false_iff_not, Bool.not_eq_true', Bool.not_eq_false', bne_iff_ne, beq_iff_eq, Bool.and_eq_true, Bool.or_eq_true, Bool.not_eq_true, ge_iff_le, gt_iff_lt, Int.not_le, Int.not_lt, beq_eq_false_iff_ne, bne_eq_false_iff_eq, ne_eq, Decidable.not_not, wd_zero, wd_one, wd_inj] at hg10
              refine L_off (env' := uL13n109) rfl rfl ?_
              refine L_off (env' := uL13n109) rfl rfl ?_
              refine L_op (env' := uL13n109) rfl rfl (v_pickTC (VVal.bool true) rfl rfl rfl) rfl ?_
              refine L_nil ?_
              refine K_seq ?_
              refine B_true rfl rfl ?_
              refine B_seq ?_
              refine B_region ?_
              refine L_op (env' := uL13n109) rfl rfl (by first | exact v_loadF rfl rfl rfl rfl (by first | rfl | assumption | exact fget (α := BitVec 64) 0 (by omega) | exact fget (α := Int) 0 (by omega) | exact fget0 (α := BitVec 64) 0 (by omega) | exact fget0 (α := Int) 0 (by omega) | exact fget (α := Bool) false (by omega) | exact fget0 (α := Bool) false (by omega) | (simp [*]; done)) | exact v_load rfl rfl rfl rfl (by first | exact get_app rfl rfl | exact get_out (by assumption) | assumption | (simp [*]; done)) (by first | rfl | assumption | exact fget (α := BitVec 64) 0 (by omega) | exact fget (α := Int) 0 (by omega) | exact fget0 (α := BitVec 64) 0 (by omega) | exact fget0 (α := Int) 0 (by omega) | exact fget (α := Bool) false (by omega) | exact fget0 (α := Bool) false (by omega) | (simp [*]; done))) rfl ?_
              refine L_op (env' := uL13n109) rfl rfl (rfl) rfl ?_
              refine L_op (env' := uL13n109) rfl rfl (v_move (.inl rfl) rfl) rfl ?_
              refine L_split 92 (env1 := uL13n109) (env2 := uL13n109) rfl rfl rfl (fun hg11 => ?_) (fun hg11 => ?_)
              · try simp only [decide_eq_true_eq, decide_eq_false_iff_not, Bool.not_eq_true', Bool.not_eq_false', bne_iff_ne, beq_iff_eq, Bool.and_eq_true, Bool.or_eq_true, Bool.not_eq_true, ge_iff_le, gt_iff_lt, Int.not_le, Int.not_lt, beq_eq_false_iff_ne, bne_eq_false_iff_eq, ne_eq, Decidable.not_not, wd_zero, wd_one, wd_inj] at hg11
                refine L_off (env' := uL13n109) rfl rfl ?_
                refine L_off (env' := uL13n109) rfl rfl ?_
                refine L_op (env' := uL13n109) rfl rfl (v_pickTC (VVal.bool true) rfl rfl rfl) rfl ?_
                refine L_op (env' := uL13n109) rfl rfl (v_storeT rfl rfl rfl rfl rfl rfl rfl (by first | exact get_app rfl rfl | exact get_out (by assumption) | assumption | (simp [*]; done)) (by first | exact Nat.le_of_ble_eq_true rfl | (simp only [List.length_map, List.length_cons, List.length_nil]; omega) | omega | (simp; done) | (simp; omega)) (by first | exact set_app rfl | exact set_out (lt_of_get (by assumption)) | rfl)) rfl ?_
                refine L_nil ?_
                refine K_seq ?_
                refine B_ret ?_
                refine K_blkR ?_
                refine ⟨(c + 1#64, n + 1, true), rfl, .inr ⟨Code.ret, rfl, ⟨rfl, ?_⟩⟩⟩
                rfl
              · try simp only [decide_eq_true_eq, decide_eq_false_iff_not, Bool.not_eq_true', Bool.not_eq_false', bne_iff_ne, beq_iff_eq, Bool.and_eq_true, Bool.or_eq_true, Bool.not_eq_true, ge_iff_le, gt_iff_lt, Int.not_le, Int.not_lt, beq_eq_false_iff_ne, bne_eq_false_iff_eq, ne_eq, Decidable.not_not, wd_zero, wd_one, wd_inj] at hg11
                refine L_op (env' := uL13n109) rfl rfl (v_move (.inl rfl) rfl) rfl ?_
                refine L_op (env' := uL13n109) rfl rfl (v_is true rfl (by rw [beq_iff_eq]; first | omega | exact sp1 (by assumption))) rfl ?_
                refine L_op (env' := uL13n109) rfl rfl (v_pickF rfl rfl rfl) rfl ?_
                refine L_op (env' := uL13n109) rfl rfl (v_storeT rfl rfl rfl rfl rfl rfl rfl (by first | exact get_app rfl rfl | exact get_out (by assumption) | assumption | (simp [*]; done)) (by first | exact Nat.le_of_ble_eq_true rfl | (simp only [List.length_map, List.length_cons, List.length_nil]; omega) | omega | (simp; done) | (simp; omega)) (by first | exact set_app rfl | exact set_out (lt_of_get (by assumption)) | rfl)) rfl ?_
                refine L_nil ?_
                refine K_seq ?_
                refine B_ret ?_
                refine K_blkR ?_
                refine ⟨(c + 1#64, n + 1, true), rfl, .inr ⟨Code.ret, rfl, ⟨rfl, ?_⟩⟩⟩
                rfl
            · try simp only [decide_eq_true_eq, decide_eq_false_iff_not, Bool.not_eq_true', Bool.not_eq_false', bne_iff_ne, beq_iff_eq, Bool.and_eq_true, Bool.or_eq_true, Bool.not_eq_true, ge_iff_le, gt_iff_lt, Int.not_le, Int.not_lt, beq_eq_false_iff_ne, bne_eq_false_iff_eq, ne_eq, Decidable.not_not, wd_zero, wd_one, wd_inj] at hg10
              refine L_op (env' := uL13n109) rfl rfl (by first | exact v_loadF rfl rfl rfl rfl (by first | rfl | assumption | exact fget (α := BitVec 64) 0 (by omega) | exact fget (α := Int) 0 (by omega) | exact fget0 (α := BitVec 64) 0 (by omega) | exact fget0 (α := Int) 0 (by omega) | exact fget (α := Bool) false (by omega) | exact fget0 (α := Bool) false (by omega) | (simp [*]; done)) | exact v_load rfl rfl rfl rfl (by first | exact get_app rfl rfl | exact get_out (by assumption) | assumption | (simp [*]; done)) (by first | rfl | assumption | exact fget (α := BitVec 64) 0 (by omega) | exact fget (α := Int) 0 (by omega) | exact fget0 (α := BitVec 64) 0 (by omega) | exact fget0 (α := Int) 0 (by omega) | exact fget (α := Bool) false (by omega) | exact fget0 (α := Bool) false (by omega) | (simp [*]; done))) rfl ?_
              refine L_op (env' := uL13n109) rfl rfl (rfl) rfl ?_
              refine L_op (env' := uL13n109) rfl rfl (v_pickF rfl rfl rfl) rfl ?_
              refine L_nil ?_
              refine K_seq ?_
              refine B_cond _ rfl (fun hc12 => ?_) (fun hc12 => ?_)
              · try simp only [decide_eq_true_eq, decide_eq_false_iff_not, Bool.not_eq_true', Bool.not_eq_false', bne_iff_ne, beq_iff_eq, Bool.and_eq_true, Bool.or_eq_true, Bool.not_eq_true, ge_iff_le, gt_iff_lt, Int.not_le, Int.not_lt, beq_eq_false_iff_ne, bne_eq_false_iff_eq, ne_eq, Decidable.not_not, wd_zero, wd_one, wd_inj] at hc12
                refine B_seq ?_
                refine B_region ?_
                refine L_op (env' := uL13n109) rfl rfl (by first | exact v_loadF rfl rfl rfl rfl (by first | rfl | assumption | exact fget (α := BitVec 64) 0 (by omega) | exact fget (α := Int) 0 (by omega) | exact fget0 (α := BitVec 64) 0 (by omega) | exact fget0 (α := Int) 0 (by omega) | exact fget (α := Bool) false (by omega) | exact fget0 (α := Bool) false (by omega) | (simp [*]; done)) | exact v_load rfl rfl rfl rfl (by first | exact get_app rfl rfl | exact get_out (by assumption) | assumption | (simp [*]; done)) (by first | rfl | assumption | exact fget (α := BitVec 64) 0 (by omega) | exact fget (α := Int) 0 (by omega) | exact fget0 (α := BitVec 64) 0 (by omega) | exact fget0 (α := Int) 0 (by omega) | exact fget (α := Bool) false (by omega) | exact fget0 (α := Bool) false (by omega) | (simp [*]; done))) rfl ?_
                refine L_op (env' := uL13n109) rfl rfl (rfl) rfl ?_
                refine L_op (env' := uL13n109) rfl rfl (v_move (.inl rfl) rfl) rfl ?_
                refine L_split 92 (env1 := uL13n109) (env2 := uL13n109) rfl rfl rfl (fun hg13 => ?_) (fun hg13 => ?_)
                · try simp only [decide_eq_true_eq, decide_eq_false_iff_not, Bool.not_eq_true', Bool.not_eq_false', bne_iff_ne, beq_iff_eq, Bool.and_eq_true, Bool.or_eq_true, Bool.not_eq_true, ge_iff_le, gt_iff_lt, Int.not_le, Int.not_lt, beq_eq_false_iff_ne, bne_eq_false_iff_eq, ne_eq, Decidable.not_not, wd_zero, wd_one, wd_inj] at hg13
                  refine L_off (env' := uL13n109) rfl rfl ?_
                  refine L_off (env' := uL13n109) rfl rfl ?_
                  refine L_op (env' := uL13n109) rfl rfl (v_pickTC (VVal.bool true) rfl rfl rfl) rfl ?_
                  refine L_op (env' := uL13n109) rfl rfl (v_storeT rfl rfl rfl rfl rfl rfl rfl (by first | exact get_app rfl rfl | exact get_out (by assumption) | assumption | (simp [*]; done)) (by first | exact Nat.le_of_ble_eq_true rfl | (simp only [List.length_map, List.length_cons, List.length_nil]; omega) | omega | (simp; done) | (simp; omega)) (by first | exact set_app rfl | exact set_out (lt_of_get (by assumption)) | rfl)) rfl ?_
                  refine L_nil ?_
                  refine K_seq ?_
                  refine B_ret ?_
                  refine K_blkR ?_
                  refine ⟨(c + 1#64, n + 1, true), rfl, .inr ⟨Code.ret, rfl, ⟨rfl, ?_⟩⟩⟩
                  rfl
                · try simp only [decide_eq_true_eq, decide_eq_false_iff_not, Bool.not_eq_true', Bool.not_eq_false', bne_iff_ne, beq_iff_eq, Bool.and_eq_true, Bool.or_eq_true, Bool.not_eq_true, ge_iff_le, gt_iff_lt, Int.not_le, Int.not_lt, beq_eq_false_iff_ne, bne_eq_false_iff_eq, ne_eq, Decidable.not_not, wd_zero, wd_one, wd_inj] at hg13
                  refine L_op (env' := uL13n109) rfl rfl (v_move (.inl rfl) rfl) rfl ?_
                  refine L_op (env' := uL13n109) rfl rfl (v_is true rfl (by rw [beq_iff_eq]; first | omega | exact sp1 (by assumption))) rfl ?_
                  refine L_op (env' := uL13n109) rfl rfl (v_pickF rfl rfl rfl) rfl ?_
                  refine L_op (env' := uL13n109) rfl rfl (v_storeT rfl rfl rfl rfl rfl rfl rfl (by first | exact get_app rfl rfl | exact get_out (by assumption) | assumption | (simp [*]; done)) (by first | exact Nat.le_of_ble_eq_true rfl | (simp only [List.length_map, List.length_cons, List.length_nil]; omega) | omega | (simp; done) | (simp; omega)) (by first | exact set_app rfl | exact set_out (lt_of_get (by assumption)) | rfl)) rfl ?_
                  refine L_nil ?_
                  refine K_seq ?_
                  refine B_ret ?_
                  refine K_blkR ?_
                  refine ⟨(c + 1#64, n + 1, true), rfl, .inr ⟨Code.ret, rfl, ⟨rfl, ?_⟩⟩⟩
                  rfl
              · try simp only [decide_eq_true_eq, decide_eq_false_iff_not, Bool.not_eq_true', Bool.not_eq_false', bne_iff_ne, beq_iff_eq, Bool.and_eq_true, Bool.or_eq_true, Bool.not_eq_true, ge_iff_le, gt_iff_lt, Int.not_le, Int.not_lt, beq_eq_false_iff_ne, bne_eq_false_iff_eq, ne_eq, Decidable.not_not, wd_zero, wd_one, wd_inj] at hc12
                refine B_skip ?_
                refine K_blk ?_
                refine ⟨(c + 1#64, n + 1, false), rfl, .inl ⟨rfl, ?_⟩⟩
                refine ⟨post, by rw [hx, List.append_assoc]; rfl, hA.next (by first | assumption | (intro e; simp_all)), by simp [hn], ?_, rfl⟩
                show n + 1 < 500
                omega
        · try simp only [decide_eq_true_eq, decide_eq_false_iff_not, Bool.not_eq_true', Bool.not_eq_false', bne_iff_ne, beq_iff_eq, Bool.and_eq_true, Bool.or_eq_true, Bool.not_eq_true, ge_iff_le, gt_iff_lt, Int.not_le, Int.not_lt, beq_eq_false_iff_ne, bne_eq_false_iff_eq, ne_eq, Decidable.not_not, wd_zero, wd_one, wd_inj] at hg4
          refine L_off (env' := uL13n109) rfl rfl ?_
          refine L_off (env' := uL13n109) rfl rfl ?_
          refine L_off (env' := uL13n109) rfl rfl ?_
          refine L_op (env' := uL13n109) rfl rfl (v_pickFC (VVal.bool false) rfl rfl rfl) rfl ?_
          refine L_op (env' := uL13n109) rfl rfl (v_move (.inl rfl) rfl) rfl ?_
          refine L_off (env' := uL13n109) rfl rfl ?_
          refine L_off (env' := uL13n109) rfl rfl ?_
          refine L_off (env' := uL13n109) rfl rfl ?_
          refine L_op (env' := uL13n109) rfl rfl (v_pickFC (VVal.bool false) rfl rfl rfl) rfl ?_
          refine L_op (env' := uL13n109) rfl rfl (v_pickF rfl rfl rfl) rfl ?_
          refine L_op (env' := uL13n109) rfl rfl (v_move (.inl rfl) rfl) rfl ?_
          refine L_op (env' := uL13n109) rfl rfl (by first | exact v_loadF rfl rfl rfl rfl (by first | rfl | assumption | exact fget (α := BitVec 64) 0 (by omega) | exact fget (α := Int) 0 (by omega) | exact fget0 (α := BitVec 64) 0 (by omega) | exact fget0 (α := Int) 0 (by omega) | exact fget (α := Bool) false (by omega) | exact fget0 (α := Bool) false (by omega) | (simp [*]; done)) | exact v_load rfl rfl rfl rfl (by first | exact get_app rfl rfl | exact get_out (by assumption) | assumption | (simp [*]; done)) (by first | rfl | assumption | exact fget (α := BitVec 64) 0 (by omega) | exact fget (α := Int) 0 (by omega) | exact fget0 (α := BitVec 64) 0 (by omega) | exact fget0 (α := Int) 0 (by omega) | exact fget (α := Bool) false (by omega) | exact fget0 (α := Bool) false (by omega) | (simp [*]; done))) rfl ?_
          refine L_op (env' := uL13n109) rfl rfl (v_move (.inl rfl) rfl) rfl ?_
          refine L_call rfl rfl rfl (by exact refDown_spec _ _ _ hm _) ?_
          rintro v _ ⟨hv, rfl⟩; obtain rfl : v = .bool true := hv.trans (by rw [hdc])
          refine L_env (env' := uL13n109) rfl ?_
          refine L_op (env' := uL13n109) rfl rfl (rfl) rfl ?_
          refine L_op (env' := uL13n109) rfl rfl (v_pickF rfl rfl rfl) rfl ?_
          refine L_op (env' := uL13n109) rfl rfl (v_move (.inl rfl) rfl) rfl ?_
          refine L_op (env' := uL13n109) rfl rfl (by first | exact v_loadF rfl rfl rfl rfl (by first | rfl | assumption | exact fget (α := BitVec 64) 0 (by omega) | exact fget (α := Int) 0 (by omega) | exact fget0 (α := BitVec 64) 0 (by omega) | exact fget0 (α := Int) 0 (by omega) | exact fget (α := Bool) false (by omega) | exact fget0 (α := Bool) false (by omega) | (simp [*]; done)) | exact v_load rfl rfl rfl rfl (by first | exact get_app rfl rfl | exact get_out (by assumption) | assumption | (simp [*]; done)) (by first | rfl | assumption | exact fget (α := BitVec 64) 0 (by omega) | exact fget (α := Int) 0 (by omega) | exact fget0 (α := BitVec 64) 0 (by omega) | exact fget0 (α := Int) 0 (by omega) | exact fget (α := Bool) false (by omega) | exact fget0 (α := Bool) false (by omega) | (simp [*]; done))) rfl ?_
          refine L_op (env' := uL13n109) rfl rfl (rfl) rfl ?_
          refine L_op (env' := uL13n109) rfl rfl (v_move (.inl rfl) rfl) rfl ?_
          refine L_split 74 (env1 := uL13n109) (env2 := uL13n109) rfl rfl rfl (fun hg14 => ?_) (fun hg14 => ?_)
          · try simp only [decide_eq_true_eq, decide_eq_false_iff_not, Bool.not_eq_true', Bool.not_eq_false', bne_iff_ne, beq_iff_eq, Bool.and_eq_true, Bool.or_eq_true, Bool.not_eq_true, ge_iff_le, gt_iff_lt, Int.not_le, Int.not_lt, beq_eq_false_iff_ne, bne_eq_false_iff_eq, ne_eq, Decidable.not_not, wd_zero, wd_one, wd_inj] at hg14
            refine L_op (env' := uL13n109) rfl rfl (v_move (.inl rfl) rfl) rfl ?_
            refine L_op (env' := uL13n109) rfl rfl (by first | exact v_loadF rfl rfl rfl rfl (by first | rfl | assumption | exact fget (α := BitVec 64) 0 (by omega) | exact fget (α := Int) 0 (by omega) | exact fget0 (α := BitVec 64) 0 (by omega) | exact fget0 (α := Int) 0 (by omega) | exact fget (α := Bool) false (by omega) | exact fget0 (α := Bool) false (by omega) | (simp [*]; done)) | exact v_load rfl rfl rfl rfl (by first | exact get_app rfl rfl | exact get_out (by assumption) | assumption | (simp [*]; done)) (by first | rfl | assumption | exact fget (α := BitVec 64) 0 (by omega) | exact fget (α := Int) 0 (by omega) | exact fget0 (α := BitVec 64) 0 (by omega) | exact fget0 (α := Int) 0 (by omega) | exact fget (α := Bool) false (by omega) | exact fget0 (α := Bool) false (by omega) | (simp [*]; done))) rfl ?_
            refine L_op (env' := uL13n109) rfl rfl (v_is false rfl (decide_eq_false (by omega))) rfl ?_
            refine L_op (env' := uL13n109) rfl rfl (v_pickT rfl rfl rfl) rfl ?_
            refine L_op (env' := uL13n109) rfl rfl (v_pickF rfl rfl rfl) rfl ?_
            refine L_nil ?_
            refine K_seq ?_
            refine B_false rfl rfl ?_
            refine B_skip ?_
            refine K_seq ?_
            refine B_seq ?_
            refine B_region ?_
            refine L_op (env' := uL13n109) rfl rfl (v_move (.inl rfl) rfl) rfl ?_
            refine L_op (env' := uL13n109) rfl rfl (v_addW (b := 1#64) rfl rfl rfl) rfl ?_
            refine L_op (env' := uL13n109) rfl rfl (v_storeT rfl rfl rfl rfl rfl rfl rfl (by first | exact get_app rfl rfl | exact get_out (by assumption) | assumption | (simp [*]; done)) (by first | exact Nat.le_of_ble_eq_true rfl | (simp only [List.length_map, List.length_cons, List.length_nil]; omega) | omega | (simp; done) | (simp; omega)) (by first | exact set_app rfl | exact set_out (lt_of_get (by assumption)) | rfl)) rfl ?_
            refine L_nil ?_
            refine K_seq ?_
            refine B_seq ?_
            refine B_region ?_
            refine L_op (env' := uL13n109) rfl rfl (by first | exact v_loadF rfl rfl rfl rfl (by first | rfl | assumption | exact fget (α := BitVec 64) 0 (by omega) | exact fget (α := Int) 0 (by omega) | exact fget0 (α := BitVec 64) 0 (by omega) | exact fget0 (α := Int) 0 (by omega) | exact fget (α := Bool) false (by omega) | exact fget0 (α := Bool) false (by omega) | (simp [*]; done)) | exact v_load rfl rfl rfl rfl (by first | exact get_app rfl rfl | exact get_out (by assumption) | assumption | (simp [*]; done)) (by first | rfl | assumption | exact fget (α := BitVec 64) 0 (by omega) | exact fget (α := Int) 0 (by omega) | exact fget0 (α := BitVec 64) 0 (by omega) | exact fget0 (α := Int) 0 (by omega) | exact fget (α := Bool) false (by omega) | exact fget0 (α := Bool) false (by omega) | (simp [*]; done))) rfl ?_
            refine L_op (env' := uL13n109) rfl rfl (v_addI rfl rfl rfl (by first | assumption | omega | (simp [*]; done) | (simp at *; omega))) rfl ?_
            refine L_op (env' := uL13n109) rfl rfl (v_storeT rfl rfl rfl rfl rfl rfl rfl (by first | exact get_app rfl rfl | exact get_out (by assumption) | assumption | (simp [*]; done)) (by first | exact Nat.le_of_ble_eq_true rfl | (simp only [List.length_map, List.length_cons, List.length_nil]; omega) | omega | (simp; done) | (simp; omega)) (by first | exact set_app rfl | exact set_out (lt_of_get (by assumption)) | rfl)) rfl ?_
            refine L_nil ?_
            refine K_seq ?_
            refine B_seq ?_
            refine B_region ?_
            refine L_op (env' := uL13n109) rfl rfl (by first | exact v_loadF rfl rfl rfl rfl (by first | rfl | assumption | exact fget (α := BitVec 64) 0 (by omega) | exact fget (α := Int) 0 (by omega) | exact fget0 (α := BitVec 64) 0 (by omega) | exact fget0 (α := Int) 0 (by omega) | exact fget (α := Bool) false (by omega) | exact fget0 (α := Bool) false (by omega) | (simp [*]; done)) | exact v_load rfl rfl rfl rfl (by first | exact get_app rfl rfl | exact get_out (by assumption) | assumption | (simp [*]; done)) (by first | rfl | assumption | exact fget (α := BitVec 64) 0 (by omega) | exact fget (α := Int) 0 (by omega) | exact fget0 (α := BitVec 64) 0 (by omega) | exact fget0 (α := Int) 0 (by omega) | exact fget (α := Bool) false (by omega) | exact fget0 (α := Bool) false (by omega) | (simp [*]; done))) rfl ?_
            refine L_op (env' := uL13n109) rfl rfl (rfl) rfl ?_
            refine L_op (env' := uL13n109) rfl rfl (v_move (.inl rfl) rfl) rfl ?_
            refine L_split 86 (env1 := uL13n109) (env2 := uL13n109) rfl rfl rfl (fun hg15 => ?_) (fun hg15 => ?_)
            · try simp only [decide_eq_true_eq, decide_eq_false_iff_not, Bool.not_eq_true', Bool.not_eq_false', bne_iff_ne, beq_iff_eq, Bool.and_eq_true, Bool.or_eq_true, Bool.not_eq_true, ge_iff_le, gt_iff_lt, Int.not_le, Int.not_lt, beq_eq_false_iff_ne, bne_eq_false_iff_eq, ne_eq, Decidable.not_not, wd_zero, wd_one, wd_inj] at hg15
              refine L_off (env' := uL13n109) rfl rfl ?_
              refine L_off (env' := uL13n109) rfl rfl ?_
              refine L_op (env' := uL13n109) rfl rfl (v_pickTC (VVal.bool true) rfl rfl rfl) rfl ?_
              refine L_nil ?_
              refine K_seq ?_
              refine B_true rfl rfl ?_
              refine B_seq ?_
              refine B_region ?_
              refine L_op (env' := uL13n109) rfl rfl (by first | exact v_loadF rfl rfl rfl rfl (by first | rfl | assumption | exact fget (α := BitVec 64) 0 (by omega) | exact fget (α := Int) 0 (by omega) | exact fget0 (α := BitVec 64) 0 (by omega) | exact fget0 (α := Int) 0 (by omega) | exact fget (α := Bool) false (by omega) | exact fget0 (α := Bool) false (by omega) | (simp [*]; done)) | exact v_load rfl rfl rfl rfl (by first | exact get_app rfl rfl | exact get_out (by assumption) | assumption | (simp [*]; done)) (by first | rfl | assumption | exact fget (α := BitVec 64) 0 (by omega) | exact fget (α := Int) 0 (by omega) | exact fget0 (α := BitVec 64) 0 (by omega) | exact fget0 (α := Int) 0 (by omega) | exact fget (α := Bool) false (by omega) | exact fget0 (α := Bool) false (by omega) | (simp [*]; done))) rfl ?_
              refine L_op (env' := uL13n109) rfl rfl (rfl) rfl ?_
              refine L_op (env' := uL13n109) rfl rfl (v_move (.inl rfl) rfl) rfl ?_
              refine L_split 92 (env1 := uL13n109) (env2 := uL13n109) rfl rfl rfl (fun hg16 => ?_) (fun hg16 => ?_)
              · try simp only [decide_eq_true_eq, decide_eq_false_iff_not, Bool.not_eq_true', Bool.not_eq_false', bne_iff_ne, beq_iff_eq, Bool.and_eq_true, Bool.or_eq_true, Bool.not_eq_true, ge_iff_le, gt_iff_lt, Int.not_le, Int.not_lt, beq_eq_false_iff_ne, bne_eq_false_iff_eq, ne_eq, Decidable.not_not, wd_zero, wd_one, wd_inj] at hg16
                refine L_off (env' := uL13n109) rfl rfl ?_
                refine L_off (env' := uL13n109) rfl rfl ?_
                refine L_op (env' := uL13n109) rfl rfl (v_pickTC (VVal.bool true) rfl rfl rfl) rfl ?_
                refine L_op (env' := uL13n109) rfl rfl (v_storeT rfl rfl rfl rfl rfl rfl rfl (by first | exact get_app rfl rfl | exact get_out (by assumption) | assumption | (simp [*]; done)) (by first | exact Nat.le_of_ble_eq_true rfl | (simp only [List.length_map, List.length_cons, List.length_nil]; omega) | omega | (simp; done) | (simp; omega)) (by first | exact set_app rfl | exact set_out (lt_of_get (by assumption)) | rfl)) rfl ?_
                refine L_nil ?_
                refine K_seq ?_
                refine B_ret ?_
                refine K_blkR ?_
                refine ⟨(c + 1#64, n + 1, true), rfl, .inr ⟨Code.ret, rfl, ⟨rfl, ?_⟩⟩⟩
                rfl
              · try simp only [decide_eq_true_eq, decide_eq_false_iff_not, Bool.not_eq_true', Bool.not_eq_false', bne_iff_ne, beq_iff_eq, Bool.and_eq_true, Bool.or_eq_true, Bool.not_eq_true, ge_iff_le, gt_iff_lt, Int.not_le, Int.not_lt, beq_eq_false_iff_ne, bne_eq_false_iff_eq, ne_eq, Decidable.not_not, wd_zero, wd_one, wd_inj] at hg16
                refine L_op (env' := uL13n109) rfl rfl (v_move (.inl rfl) rfl) rfl ?_
                refine L_op (env' := uL13n109) rfl rfl (v_is true rfl (by rw [beq_iff_eq]; first | omega | exact sp1 (by assumption))) rfl ?_
                refine L_op (env' := uL13n109) rfl rfl (v_pickF rfl rfl rfl) rfl ?_
                refine L_op (env' := uL13n109) rfl rfl (v_storeT rfl rfl rfl rfl rfl rfl rfl (by first | exact get_app rfl rfl | exact get_out (by assumption) | assumption | (simp [*]; done)) (by first | exact Nat.le_of_ble_eq_true rfl | (simp only [List.length_map, List.length_cons, List.length_nil]; omega) | omega | (simp; done) | (simp; omega)) (by first | exact set_app rfl | exact set_out (lt_of_get (by assumption)) | rfl)) rfl ?_
                refine L_nil ?_
                refine K_seq ?_
                refine B_ret ?_
                refine K_blkR ?_
                refine ⟨(c + 1#64, n + 1, true), rfl, .inr ⟨Code.ret, rfl, ⟨rfl, ?_⟩⟩⟩
                rfl
            · try simp only [decide_eq_true_eq, decide_eq_false_iff_not, Bool.not_eq_true', Bool.not_eq_false', bne_iff_ne, beq_iff_eq, Bool.and_eq_true, Bool.or_eq_true, Bool.not_eq_true, ge_iff_le, gt_iff_lt, Int.not_le, Int.not_lt, beq_eq_false_iff_ne, bne_eq_false_iff_eq, ne_eq, Decidable.not_not, wd_zero, wd_one, wd_inj] at hg15
              refine L_op (env' := uL13n109) rfl rfl (by first | exact v_loadF rfl rfl rfl rfl (by first | rfl | assumption | exact fget (α := BitVec 64) 0 (by omega) | exact fget (α := Int) 0 (by omega) | exact fget0 (α := BitVec 64) 0 (by omega) | exact fget0 (α := Int) 0 (by omega) | exact fget (α := Bool) false (by omega) | exact fget0 (α := Bool) false (by omega) | (simp [*]; done)) | exact v_load rfl rfl rfl rfl (by first | exact get_app rfl rfl | exact get_out (by assumption) | assumption | (simp [*]; done)) (by first | rfl | assumption | exact fget (α := BitVec 64) 0 (by omega) | exact fget (α := Int) 0 (by omega) | exact fget0 (α := BitVec 64) 0 (by omega) | exact fget0 (α := Int) 0 (by omega) | exact fget (α := Bool) false (by omega) | exact fget0 (α := Bool) false (by omega) | (simp [*]; done))) rfl ?_
              refine L_op (env' := uL13n109) rfl rfl (rfl) rfl ?_
              refine L_op (env' := uL13n109) rfl rfl (v_pickF rfl rfl rfl) rfl ?_
              refine L_nil ?_
              refine K_seq ?_
              refine B_cond _ rfl (fun hc17 => ?_) (fun hc17 => ?_)
              · try simp only [decide_eq_true_eq, decide_eq_false_iff_not, Bool.not_eq_true', Bool.not_eq_false', bne_iff_ne, beq_iff_eq, Bool.and_eq_true, Bool.or_eq_true, Bool.not_eq_true, ge_iff_le, gt_iff_lt, Int.not_le, Int.not_lt, beq_eq_false_iff_ne, bne_eq_false_iff_eq, ne_eq, Decidable.not_not, wd_zero, wd_one, wd_inj] at hc17
                refine B_seq ?_
                refine B_region ?_
                refine L_op (env' := uL13n109) rfl rfl (by first | exact v_loadF rfl rfl rfl rfl (by first | rfl | assumption | exact fget (α := BitVec 64) 0 (by omega) | exact fget (α := Int) 0 (by omega) | exact fget0 (α := BitVec 64) 0 (by omega) | exact fget0 (α := Int) 0 (by omega) | exact fget (α := Bool) false (by omega) | exact fget0 (α := Bool) false (by omega) | (simp [*]; done)) | exact v_load rfl rfl rfl rfl (by first | exact get_app rfl rfl | exact get_out (by assumption) | assumption | (simp [*]; done)) (by first | rfl | assumption | exact fget (α := BitVec 64) 0 (by omega) | exact fget (α := Int) 0 (by omega) | exact fget0 (α := BitVec 64) 0 (by omega) | exact fget0 (α := Int) 0 (by omega) | exact fget (α := Bool) false (by omega) | exact fget0 (α := Bool) false (by omega) | (simp [*]; done))) rfl ?_
                refine L_op (env' := uL13n109) rfl rfl (rfl) rfl ?_
                refine L_op (env' := uL13n109) rfl rfl (v_move (.inl rfl) rfl) rfl ?_
                refine L_split 92 (env1 := uL13n109) (env2 := uL13n109) rfl rfl rfl (fun hg18 => ?_) (fun hg18 => ?_)
                · try simp only [decide_eq_true_eq, decide_eq_false_iff_not, Bool.not_eq_true', Bool.not_eq_false', bne_iff_ne, beq_iff_eq, Bool.and_eq_true, Bool.or_eq_true, Bool.not_eq_true, ge_iff_le, gt_iff_lt, Int.not_le, Int.not_lt, beq_eq_false_iff_ne, bne_eq_false_iff_eq, ne_eq, Decidable.not_not, wd_zero, wd_one, wd_inj] at hg18
                  refine L_off (env' := uL13n109) rfl rfl ?_
                  refine L_off (env' := uL13n109) rfl rfl ?_
                  refine L_op (env' := uL13n109) rfl rfl (v_pickTC (VVal.bool true) rfl rfl rfl) rfl ?_
                  refine L_op (env' := uL13n109) rfl rfl (v_storeT rfl rfl rfl rfl rfl rfl rfl (by first | exact get_app rfl rfl | exact get_out (by assumption) | assumption | (simp [*]; done)) (by first | exact Nat.le_of_ble_eq_true rfl | (simp only [List.length_map, List.length_cons, List.length_nil]; omega) | omega | (simp; done) | (simp; omega)) (by first | exact set_app rfl | exact set_out (lt_of_get (by assumption)) | rfl)) rfl ?_
                  refine L_nil ?_
                  refine K_seq ?_
                  refine B_ret ?_
                  refine K_blkR ?_
                  refine ⟨(c + 1#64, n + 1, true), rfl, .inr ⟨Code.ret, rfl, ⟨rfl, ?_⟩⟩⟩
                  rfl
                · try simp only [decide_eq_true_eq, decide_eq_false_iff_not, Bool.not_eq_true', Bool.not_eq_false', bne_iff_ne, beq_iff_eq, Bool.and_eq_true, Bool.or_eq_true, Bool.not_eq_true, ge_iff_le, gt_iff_lt, Int.not_le, Int.not_lt, beq_eq_false_iff_ne, bne_eq_false_iff_eq, ne_eq, Decidable.not_not, wd_zero, wd_one, wd_inj] at hg18
                  refine L_op (env' := uL13n109) rfl rfl (v_move (.inl rfl) rfl) rfl ?_
                  refine L_op (env' := uL13n109) rfl rfl (v_is true rfl (by rw [beq_iff_eq]; first | omega | exact sp1 (by assumption))) rfl ?_
                  refine L_op (env' := uL13n109) rfl rfl (v_pickF rfl rfl rfl) rfl ?_
                  refine L_op (env' := uL13n109) rfl rfl (v_storeT rfl rfl rfl rfl rfl rfl rfl (by first | exact get_app rfl rfl | exact get_out (by assumption) | assumption | (simp [*]; done)) (by first | exact Nat.le_of_ble_eq_true rfl | (simp only [List.length_map, List.length_cons, List.length_nil]; omega) | omega | (simp; done) | (simp; omega)) (by first | exact set_app rfl | exact set_out (lt_of_get (by assumption)) | rfl)) rfl ?_
                  refine L_nil ?_
                  refine K_seq ?_
                  refine B_ret ?_
                  refine K_blkR ?_
                  refine ⟨(c + 1#64, n + 1, true), rfl, .inr ⟨Code.ret, rfl, ⟨rfl, ?_⟩⟩⟩
                  rfl
              · try simp only [decide_eq_true_eq, decide_eq_false_iff_not, Bool.not_eq_true', Bool.not_eq_false', bne_iff_ne, beq_iff_eq, Bool.and_eq_true, Bool.or_eq_true, Bool.not_eq_true, ge_iff_le, gt_iff_lt, Int.not_le, Int.not_lt, beq_eq_false_iff_ne, bne_eq_false_iff_eq, ne_eq, Decidable.not_not, wd_zero, wd_one, wd_inj] at hc17
                refine B_skip ?_
                refine K_blk ?_
                refine ⟨(c + 1#64, n + 1, false), rfl, .inl ⟨rfl, ?_⟩⟩
                refine ⟨post, by rw [hx, List.append_assoc]; rfl, hA.next (by first | assumption | (intro e; simp_all)), by simp [hn], ?_, rfl⟩
                show n + 1 < 500
                omega
          · try simp only [decide_eq_true_eq, decide_eq_false_iff_not, Bool.not_eq_true', Bool.not_eq_false', bne_iff_ne, beq_iff_eq, Bool.and_eq_true, Bool.or_eq_true, Bool.not_eq_true, ge_iff_le, gt_iff_lt, Int.not_le, Int.not_lt, beq_eq_false_iff_ne, bne_eq_false_iff_eq, ne_eq, Decidable.not_not, wd_zero, wd_one, wd_inj] at hg14
            refine L_off (env' := uL13n109) rfl rfl ?_
            refine L_off (env' := uL13n109) rfl rfl ?_
            refine L_off (env' := uL13n109) rfl rfl ?_
            refine L_op (env' := uL13n109) rfl rfl (v_pickFC (VVal.bool false) rfl rfl rfl) rfl ?_
            refine L_op (env' := uL13n109) rfl rfl (v_pickF rfl rfl rfl) rfl ?_
            refine L_nil ?_
            refine K_seq ?_
            refine B_false rfl rfl ?_
            refine B_skip ?_
            refine K_seq ?_
            refine B_seq ?_
            refine B_region ?_
            refine L_op (env' := uL13n109) rfl rfl (v_move (.inl rfl) rfl) rfl ?_
            refine L_op (env' := uL13n109) rfl rfl (v_addW (b := 1#64) rfl rfl rfl) rfl ?_
            refine L_op (env' := uL13n109) rfl rfl (v_storeT rfl rfl rfl rfl rfl rfl rfl (by first | exact get_app rfl rfl | exact get_out (by assumption) | assumption | (simp [*]; done)) (by first | exact Nat.le_of_ble_eq_true rfl | (simp only [List.length_map, List.length_cons, List.length_nil]; omega) | omega | (simp; done) | (simp; omega)) (by first | exact set_app rfl | exact set_out (lt_of_get (by assumption)) | rfl)) rfl ?_
            refine L_nil ?_
            refine K_seq ?_
            refine B_seq ?_
            refine B_region ?_
            refine L_op (env' := uL13n109) rfl rfl (by first | exact v_loadF rfl rfl rfl rfl (by first | rfl | assumption | exact fget (α := BitVec 64) 0 (by omega) | exact fget (α := Int) 0 (by omega) | exact fget0 (α := BitVec 64) 0 (by omega) | exact fget0 (α := Int) 0 (by omega) | exact fget (α := Bool) false (by omega) | exact fget0 (α := Bool) false (by omega) | (simp [*]; done)) | exact v_load rfl rfl rfl rfl (by first | exact get_app rfl rfl | exact get_out (by assumption) | assumption | (simp [*]; done)) (by first | rfl | assumption | exact fget (α := BitVec 64) 0 (by omega) | exact fget (α := Int) 0 (by omega) | exact fget0 (α := BitVec 64) 0 (by omega) | exact fget0 (α := Int) 0 (by omega) | exact fget (α := Bool) false (by omega) | exact fget0 (α := Bool) false (by omega) | (simp [*]; done))) rfl ?_
            refine L_op (env' := uL13n109) rfl rfl (v_addI rfl rfl rfl (by first | assumption | omega | (simp [*]; done) | (simp at *; omega))) rfl ?_
            refine L_op (env' := uL13n109) rfl rfl (v_storeT rfl rfl rfl rfl rfl rfl rfl (by first | exact get_app rfl rfl | exact get_out (by assumption) | assumption | (simp [*]; done)) (by first | exact Nat.le_of_ble_eq_true rfl | (simp only [List.length_map, List.length_cons, List.length_nil]; omega) | omega | (simp; done) | (simp; omega)) (by first | exact set_app rfl | exact set_out (lt_of_get (by assumption)) | rfl)) rfl ?_
            refine L_nil ?_
            refine K_seq ?_
            refine B_seq ?_
            refine B_region ?_
            refine L_op (env' := uL13n109) rfl rfl (by first | exact v_loadF rfl rfl rfl rfl (by first | rfl | assumption | exact fget (α := BitVec 64) 0 (by omega) | exact fget (α := Int) 0 (by omega) | exact fget0 (α := BitVec 64) 0 (by omega) | exact fget0 (α := Int) 0 (by omega) | exact fget (α := Bool) false (by omega) | exact fget0 (α := Bool) false (by omega) | (simp [*]; done)) | exact v_load rfl rfl rfl rfl (by first | exact get_app rfl rfl | exact get_out (by assumption) | assumption | (simp [*]; done)) (by first | rfl | assumption | exact fget (α := BitVec 64) 0 (by omega) | exact fget (α := Int) 0 (by omega) | exact fget0 (α := BitVec 64) 0 (by omega) | exact fget0 (α := Int) 0 (by omega) | exact fget (α := Bool) false (by omega) | exact fget0 (α := Bool) false (by omega) | (simp [*]; done))) rfl ?_
            refine L_op (env' := uL13n109) rfl rfl (rfl) rfl ?_
            refine L_op (env' := uL13n109) rfl rfl (v_move (.inl rfl) rfl) rfl ?_
            refine L_split 86 (env1 := uL13n109) (env2 := uL13n109) rfl rfl rfl (fun hg19 => ?_) (fun hg19 => ?_)
            · try simp only [decide_eq_true_eq, decide_eq_false_iff_not, Bool.not_eq_true', Bool.not_eq_false', bne_iff_ne, beq_iff_eq, Bool.and_eq_true, Bool.or_eq_true, Bool.not_eq_true, ge_iff_le, gt_iff_lt, Int.not_le, Int.not_lt, beq_eq_false_iff_ne, bne_eq_false_iff_eq, ne_eq, Decidable.not_not, wd_zero, wd_one, wd_inj] at hg19
              refine L_off (env' := uL13n109) rfl rfl ?_
              refine L_off (env' := uL13n109) rfl rfl ?_
              refine L_op (env' := uL13n109) rfl rfl (v_pickTC (VVal.bool true) rfl rfl rfl) rfl ?_
              refine L_nil ?_
              refine K_seq ?_
              refine B_true rfl rfl ?_
              refine B_seq ?_
              refine B_region ?_
              refine L_op (env' := uL13n109) rfl rfl (by first | exact v_loadF rfl rfl rfl rfl (by first | rfl | assumption | exact fget (α := BitVec 64) 0 (by omega) | exact fget (α := Int) 0 (by omega) | exact fget0 (α := BitVec 64) 0 (by omega) | exact fget0 (α := Int) 0 (by omega) | exact fget (α := Bool) false (by omega) | exact fget0 (α := Bool) false (by omega) | (simp [*]; done)) | exact v_load rfl rfl rfl rfl (by first | exact get_app rfl rfl | exact get_out (by assumption) | assumption | (simp [*]; done)) (by first | rfl | assumption | exact fget (α := BitVec 64) 0 (by omega) | exact fget (α := Int) 0 (by omega) | exact fget0 (α := BitVec 64) 0 (by omega) | exact fget0 (α := Int) 0 (by omega) | exact fget (α := Bool) false (by omega) | exact fget0 (α := Bool) false (by omega) | (simp [*]; done))) rfl ?_
              refine L_op (env' := uL13n109) rfl rfl (rfl) rfl ?_
              refine L_op (env' := uL13n109) rfl rfl (v_move (.inl rfl) rfl) rfl ?_
              refine L_split 92 (env1 := uL13n109) (env2 := uL13n109) rfl rfl rfl (fun hg20 => ?_) (fun hg20 => ?_)
              · try simp only [decide_eq_true_eq, decide_eq_false_iff_not, Bool.not_eq_true', Bool.not_eq_false', bne_iff_ne, beq_iff_eq, Bool.and_eq_true, Bool.or_eq_true, Bool.not_eq_true, ge_iff_le, gt_iff_lt, Int.not_le, Int.not_lt, beq_eq_false_iff_ne, bne_eq_false_iff_eq, ne_eq, Decidable.not_not, wd_zero, wd_one, wd_inj] at hg20
                refine L_off (env' := uL13n109) rfl rfl ?_
                refine L_off (env' := uL13n109) rfl rfl ?_
                refine L_op (env' := uL13n109) rfl rfl (v_pickTC (VVal.bool true) rfl rfl rfl) rfl ?_
                refine L_op (env' := uL13n109) rfl rfl (v_storeT rfl rfl rfl rfl rfl rfl rfl (by first | exact get_app rfl rfl | exact get_out (by assumption) | assumption | (simp [*]; done)) (by first | exact Nat.le_of_ble_eq_true rfl | (simp only [List.length_map, List.length_cons, List.length_nil]; omega) | omega | (simp; done) | (simp; omega)) (by first | exact set_app rfl | exact set_out (lt_of_get (by assumption)) | rfl)) rfl ?_
                refine L_nil ?_
                refine K_seq ?_
                refine B_ret ?_
                refine K_blkR ?_
                refine ⟨(c + 1#64, n + 1, true), rfl, .inr ⟨Code.ret, rfl, ⟨rfl, ?_⟩⟩⟩
                rfl
              · try simp only [decide_eq_true_eq, decide_eq_false_iff_not, Bool.not_eq_true', Bool.not_eq_false', bne_iff_ne, beq_iff_eq, Bool.and_eq_true, Bool.or_eq_true, Bool.not_eq_true, ge_iff_le, gt_iff_lt, Int.not_le, Int.not_lt, beq_eq_false_iff_ne, bne_eq_false_iff_eq, ne_eq, Decidable.not_not, wd_zero, wd_one, wd_inj] at hg20
                refine L_op (env' := uL13n109) rfl rfl (v_move (.inl rfl) rfl) rfl ?_
                refine L_op (env' := uL13n109) rfl rfl (v_is true rfl (by rw [beq_iff_eq]; first | omega | exact sp1 (by assumption))) rfl ?_
                refine L_op (env' := uL13n109) rfl rfl (v_pickF rfl rfl rfl) rfl ?_
                refine L_op (env' := uL13n109) rfl rfl (v_storeT rfl rfl rfl rfl rfl rfl rfl (by first | exact get_app rfl rfl | exact get_out (by assumption) | assumption | (simp [*]; done)) (by first | exact Nat.le_of_ble_eq_true rfl | (simp only [List.length_map, List.length_cons, List.length_nil]; omega) | omega | (simp; done) | (simp; omega)) (by first | exact set_app rfl | exact set_out (lt_of_get (by assumption)) | rfl)) rfl ?_
                refine L_nil ?_
                refine K_seq ?_
                refine B_ret ?_
                refine K_blkR ?_
                refine ⟨(c + 1#64, n + 1, true), rfl, .inr ⟨Code.ret, rfl, ⟨rfl, ?_⟩⟩⟩
                rfl
            · try simp only [decide_eq_true_eq, decide_eq_false_iff_not, Bool.not_eq_true', Bool.not_eq_false', bne_iff_ne, beq_iff_eq, Bool.and_eq_true, Bool.or_eq_true, Bool.not_eq_true, ge_iff_le, gt_iff_lt, Int.not_le, Int.not_lt, beq_eq_false_iff_ne, bne_eq_false_iff_eq, ne_eq, Decidable.not_not, wd_zero, wd_one, wd_inj] at hg19
              refine L_op (env' := uL13n109) rfl rfl (by first | exact v_loadF rfl rfl rfl rfl (by first | rfl | assumption | exact fget (α := BitVec 64) 0 (by omega) | exact fget (α := Int) 0 (by omega) | exact fget0 (α := BitVec 64) 0 (by omega) | exact fget0 (α := Int) 0 (by omega) | exact fget (α := Bool) false (by omega) | exact fget0 (α := Bool) false (by omega) | (simp [*]; done)) | exact v_load rfl rfl rfl rfl (by first | exact get_app rfl rfl | exact get_out (by assumption) | assumption | (simp [*]; done)) (by first | rfl | assumption | exact fget (α := BitVec 64) 0 (by omega) | exact fget (α := Int) 0 (by omega) | exact fget0 (α := BitVec 64) 0 (by omega) | exact fget0 (α := Int) 0 (by omega) | exact fget (α := Bool) false (by omega) | exact fget0 (α := Bool) false (by omega) | (simp [*]; done))) rfl ?_
              refine L_op (env' := uL13n109) rfl rfl (rfl) rfl ?_
              refine L_op (env' := uL13n109) rfl rfl (v_pickF rfl rfl rfl) rfl ?_
              refine L_nil ?_
              refine K_seq ?_
              refine B_cond _ rfl (fun hc21 => ?_) (fun hc21 => ?_)
              · try simp only [decide_eq_true_eq, decide_eq_false_iff_not, Bool.not_eq_true', Bool.not_eq_false', bne_iff_ne, beq_iff_eq, Bool.and_eq_true, Bool.or_eq_true, Bool.not_eq_true, ge_iff_le, gt_iff_lt, Int.not_le, Int.not_lt, beq_eq_false_iff_ne, bne_eq_false_iff_eq, ne_eq, Decidable.not_not, wd_zero, wd_one, wd_inj] at hc21
                refine B_seq ?_
                refine B_region ?_
                refine L_op (env' := uL13n109) rfl rfl (by first | exact v_loadF rfl rfl rfl rfl (by first | rfl | assumption | exact fget (α := BitVec 64) 0 (by omega) | exact fget (α := Int) 0 (by omega) | exact fget0 (α := BitVec 64) 0 (by omega) | exact fget0 (α := Int) 0 (by omega) | exact fget (α := Bool) false (by omega) | exact fget0 (α := Bool) false (by omega) | (simp [*]; done)) | exact v_load rfl rfl rfl rfl (by first | exact get_app rfl rfl | exact get_out (by assumption) | assumption | (simp [*]; done)) (by first | rfl | assumption | exact fget (α := BitVec 64) 0 (by omega) | exact fget (α := Int) 0 (by omega) | exact fget0 (α := BitVec 64) 0 (by omega) | exact fget0 (α := Int) 0 (by omega) | exact fget (α := Bool) false (by omega) | exact fget0 (α := Bool) false (by omega) | (simp [*]; done))) rfl ?_
                refine L_op (env' := uL13n109) rfl rfl (rfl) rfl ?_
                refine L_op (env' := uL13n109) rfl rfl (v_move (.inl rfl) rfl) rfl ?_
                refine L_split 92 (env1 := uL13n109) (env2 := uL13n109) rfl rfl rfl (fun hg22 => ?_) (fun hg22 => ?_)
                · try simp only [decide_eq_true_eq, decide_eq_false_iff_not, Bool.not_eq_true', Bool.not_eq_false', bne_iff_ne, beq_iff_eq, Bool.and_eq_true, Bool.or_eq_true, Bool.not_eq_true, ge_iff_le, gt_iff_lt, Int.not_le, Int.not_lt, beq_eq_false_iff_ne, bne_eq_false_iff_eq, ne_eq, Decidable.not_not, wd_zero, wd_one, wd_inj] at hg22
                  refine L_off (env' := uL13n109) rfl rfl ?_
                  refine L_off (env' := uL13n109) rfl rfl ?_
                  refine L_op (env' := uL13n109) rfl rfl (v_pickTC (VVal.bool true) rfl rfl rfl) rfl ?_
                  refine L_op (env' := uL13n109) rfl rfl (v_storeT rfl rfl rfl rfl rfl rfl rfl (by first | exact get_app rfl rfl | exact get_out (by assumption) | assumption | (simp [*]; done)) (by first | exact Nat.le_of_ble_eq_true rfl | (simp only [List.length_map, List.length_cons, List.length_nil]; omega) | omega | (simp; done) | (simp; omega)) (by first | exact set_app rfl | exact set_out (lt_of_get (by assumption)) | rfl)) rfl ?_
                  refine L_nil ?_
                  refine K_seq ?_
                  refine B_ret ?_
                  refine K_blkR ?_
                  refine ⟨(c + 1#64, n + 1, true), rfl, .inr ⟨Code.ret, rfl, ⟨rfl, ?_⟩⟩⟩
                  rfl
                · try simp only [decide_eq_true_eq, decide_eq_false_iff_not, Bool.not_eq_true', Bool.not_eq_false', bne_iff_ne, beq_iff_eq, Bool.and_eq_true, Bool.or_eq_true, Bool.not_eq_true, ge_iff_le, gt_iff_lt, Int.not_le, Int.not_lt, beq_eq_false_iff_ne, bne_eq_false_iff_eq, ne_eq, Decidable.not_not, wd_zero, wd_one, wd_inj] at hg22
                  refine L_op (env' := uL13n109) rfl rfl (v_move (.inl rfl) rfl) rfl ?_
                  refine L_op (env' := uL13n109) rfl rfl (v_is true rfl (by rw [beq_iff_eq]; first | omega | exact sp1 (by assumption))) rfl ?_
                  refine L_op (env' := uL13n109) rfl rfl (v_pickF rfl rfl rfl) rfl ?_
                  refine L_op (env' := uL13n109) rfl rfl (v_storeT rfl rfl rfl rfl rfl rfl rfl (by first | exact get_app rfl rfl | exact get_out (by assumption) | assumption | (simp [*]; done)) (by first | exact Nat.le_of_ble_eq_true rfl | (simp only [List.length_map, List.length_cons, List.length_nil]; omega) | omega | (simp; done) | (simp; omega)) (by first | exact set_app rfl | exact set_out (lt_of_get (by assumption)) | rfl)) rfl ?_
                  refine L_nil ?_
                  refine K_seq ?_
                  refine B_ret ?_
                  refine K_blkR ?_
                  refine ⟨(c + 1#64, n + 1, true), rfl, .inr ⟨Code.ret, rfl, ⟨rfl, ?_⟩⟩⟩
                  rfl
              · try simp only [decide_eq_true_eq, decide_eq_false_iff_not, Bool.not_eq_true', Bool.not_eq_false', bne_iff_ne, beq_iff_eq, Bool.and_eq_true, Bool.or_eq_true, Bool.not_eq_true, ge_iff_le, gt_iff_lt, Int.not_le, Int.not_lt, beq_eq_false_iff_ne, bne_eq_false_iff_eq, ne_eq, Decidable.not_not, wd_zero, wd_one, wd_inj] at hc21
                refine B_skip ?_
                refine K_blk ?_
                refine ⟨(c + 1#64, n + 1, false), rfl, .inl ⟨rfl, ?_⟩⟩
                refine ⟨post, by rw [hx, List.append_assoc]; rfl, hA.next (by first | assumption | (intro e; simp_all)), by simp [hn], ?_, rfl⟩
                show n + 1 < 500
                omega
      · try simp only [decide_eq_true_eq, decide_eq_false_iff_not, Bool.not_eq_true', Bool.not_eq_false', bne_iff_ne, beq_iff_eq, Bool.and_eq_true, Bool.or_eq_true, Bool.not_eq_true, ge_iff_le, gt_iff_lt, Int.not_le, Int.not_lt, beq_eq_false_iff_ne, bne_eq_false_iff_eq, ne_eq, Decidable.not_not, wd_zero, wd_one, wd_inj] at hg3
        refine L_off (env' := uL13n109) rfl rfl ?_
        refine L_off (env' := uL13n109) rfl rfl ?_
        refine L_off (env' := uL13n109) rfl rfl ?_
        refine L_op (env' := uL13n109) rfl rfl (v_pickFC (VVal.bool false) rfl rfl rfl) rfl ?_
        refine L_op (env' := uL13n109) rfl rfl (v_move (.inl rfl) rfl) rfl ?_
        refine L_op (env' := uL13n109) rfl rfl (by first | exact v_loadF rfl rfl rfl rfl (by first | rfl | assumption | exact fget (α := BitVec 64) 0 (by omega) | exact fget (α := Int) 0 (by omega) | exact fget0 (α := BitVec 64) 0 (by omega) | exact fget0 (α := Int) 0 (by omega) | exact fget (α := Bool) false (by omega) | exact fget0 (α := Bool) false (by omega) | (simp [*]; done)) | exact v_load rfl rfl rfl rfl (by first | exact get_app rfl rfl | exact get_out (by assumption) | assumption | (simp [*]; done)) (by first | rfl | assumption | exact fget (α := BitVec 64) 0 (by omega) | exact fget (α := Int) 0 (by omega) | exact fget0 (α := BitVec 64) 0 (by omega) | exact fget0 (α := Int) 0 (by omega) | exact fget (α := Bool) false (by omega) | exact fget0 (α := Bool) false (by omega) | (simp [*]; done))) rfl ?_
        refine L_op (env' := uL13n109) rfl rfl (rfl) rfl ?_
        refine L_op (env' := uL13n109) rfl rfl (v_move (.inl rfl) rfl) rfl ?_
        refine L_split 54 (env1 := uL13n109) (env2 := uL13n109) rfl rfl rfl (fun hg23 => ?_) (fun hg23 => ?_)
        · try simp only [decide_eq_true_eq, decide_eq_false_iff_not, Bool.not_eq_true', Bool.not_eq_false', bne_iff_ne, beq_iff_eq, Bool.and_eq_true, Bool.or_eq_true, Bool.not_eq_true, ge_iff_le, gt_iff_lt, Int.not_le, Int.not_lt, beq_eq_false_iff_ne, bne_eq_false_iff_eq, ne_eq, Decidable.not_not, wd_zero, wd_one, wd_inj] at hg23
          refine L_op (env' := uL13n109) rfl rfl (by first | exact v_loadF rfl rfl rfl rfl (by first | rfl | assumption | exact fget (α := BitVec 64) 0 (by omega) | exact fget (α := Int) 0 (by omega) | exact fget0 (α := BitVec 64) 0 (by omega) | exact fget0 (α := Int) 0 (by omega) | exact fget (α := Bool) false (by omega) | exact fget0 (α := Bool) false (by omega) | (simp [*]; done)) | exact v_load rfl rfl rfl rfl (by first | exact get_app rfl rfl | exact get_out (by assumption) | assumption | (simp [*]; done)) (by first | rfl | assumption | exact fget (α := BitVec 64) 0 (by omega) | exact fget (α := Int) 0 (by omega) | exact fget0 (α := BitVec 64) 0 (by omega) | exact fget0 (α := Int) 0 (by omega) | exact fget (α := Bool) false (by omega) | exact fget0 (α := Bool) false (by omega) | (simp [*]; done))) rfl ?_
          refine L_op (env' := uL13n109) rfl rfl (v_move (.inl rfl) rfl) rfl ?_
          refine L_op (env' := uL13n109) rfl rfl (v_is false rfl (decide_eq_false (by rcases hor with h | h <;> first | omega | (rw [h]; done) | (rw [h]; omega)))) rfl ?_
          refine L_op (env' := uL13n109) rfl rfl (v_pickT rfl rfl rfl) rfl ?_
          refine L_op (env' := uL13n109) rfl rfl (v_move (.inl rfl) rfl) rfl ?_
          refine L_off (env' := uL13n109) rfl rfl ?_
          refine L_off (env' := uL13n109) rfl rfl ?_
          refine L_off (env' := uL13n109) rfl rfl ?_
          refine L_op (env' := uL13n109) rfl rfl (v_pickFC (VVal.bool false) rfl rfl rfl) rfl ?_
          refine L_op (env' := uL13n109) rfl rfl (v_pickF rfl rfl rfl) rfl ?_
          refine L_op (env' := uL13n109) rfl rfl (v_move (.inl rfl) rfl) rfl ?_
          refine L_op (env' := uL13n109) rfl rfl (by first | exact v_loadF rfl rfl rfl rfl (by first | rfl | assumption | exact fget (α := BitVec 64) 0 (by omega) | exact fget (α := Int) 0 (by omega) | exact fget0 (α := BitVec 64) 0 (by omega) | exact fget0 (α := Int) 0 (by omega) | exact fget (α := Bool) false (by omega) | exact fget0 (α := Bool) false (by omega) | (simp [*]; done)) | exact v_load rfl rfl rfl rfl (by first | exact get_app rfl rfl | exact get_out (by assumption) | assumption | (simp [*]; done)) (by first | rfl | assumption | exact fget (α := BitVec 64) 0 (by omega) | exact fget (α := Int) 0 (by omega) | exact fget0 (α := BitVec 64) 0 (by omega) | exact fget0 (α := Int) 0 (by omega) | exact fget (α := Bool) false (by omega) | exact fget0 (α := Bool) false (by omega) | (simp [*]; done))) rfl ?_
          refine L_op (env' := uL13n109) rfl rfl (v_move (.inl rfl) rfl) rfl ?_
          refine L_call rfl rfl rfl (by exact refDown_spec _ _ _ hm _) ?_
          rintro v _ ⟨hv, rfl⟩; obtain rfl : v = .bool true := hv.trans (by rw [hdc])
          refine L_env (env' := uL13n109) rfl ?_
          refine L_op (env' := uL13n109) rfl rfl (rfl) rfl ?_
          refine L_op (env' := uL13n109) rfl rfl (v_pickF rfl rfl rfl) rfl ?_
          refine L_op (env' := uL13n109) rfl rfl (v_move (.inl rfl) rfl) rfl ?_
          refine L_op (env' := uL13n109) rfl rfl (by first | exact v_loadF rfl rfl rfl rfl (by first | rfl | assumption | exact fget (α := BitVec 64) 0 (by omega) | exact fget (α := Int) 0 (by omega) | exact fget0 (α := BitVec 64) 0 (by omega) | exact fget0 (α := Int) 0 (by omega) | exact fget (α := Bool) false (by omega) | exact fget0 (α := Bool) false (by omega) | (simp [*]; done)) | exact v_load rfl rfl rfl rfl (by first | exact get_app rfl rfl | exact get_out (by assumption) | assumption | (simp [*]; done)) (by first | rfl | assumption | exact fget (α := BitVec 64) 0 (by omega) | exact fget (α := Int) 0 (by omega) | exact fget0 (α := BitVec 64) 0 (by omega) | exact fget0 (α := Int) 0 (by omega) | exact fget (α := Bool) false (by omega) | exact fget0 (α := Bool) false (by omega) | (simp [*]; done))) rfl ?_
          refine L_op (env' := uL13n109) rfl rfl (rfl) rfl ?_
          refine L_op (env' := uL13n109) rfl rfl (v_move (.inl rfl) rfl) rfl ?_
          refine L_split 74 (env1 := uL13n109) (env2 := uL13n109) rfl rfl rfl (fun hg24 => ?_) (fun hg24 => ?_)
          · try simp only [decide_eq_true_eq, decide_eq_false_iff_not, Bool.not_eq_true', Bool.not_eq_false', bne_iff_ne, beq_iff_eq, Bool.and_eq_true, Bool.or_eq_true, Bool.not_eq_true, ge_iff_le, gt_iff_lt, Int.not_le, Int.not_lt, beq_eq_false_iff_ne, bne_eq_false_iff_eq, ne_eq, Decidable.not_not, wd_zero, wd_one, wd_inj] at hg24
            refine L_op (env' := uL13n109) rfl rfl (v_move (.inl rfl) rfl) rfl ?_
            refine L_op (env' := uL13n109) rfl rfl (by first | exact v_loadF rfl rfl rfl rfl (by first | rfl | assumption | exact fget (α := BitVec 64) 0 (by omega) | exact fget (α := Int) 0 (by omega) | exact fget0 (α := BitVec 64) 0 (by omega) | exact fget0 (α := Int) 0 (by omega) | exact fget (α := Bool) false (by omega) | exact fget0 (α := Bool) false (by omega) | (simp [*]; done)) | exact v_load rfl rfl rfl rfl (by first | exact get_app rfl rfl | exact get_out (by assumption) | assumption | (simp [*]; done)) (by first | rfl | assumption | exact fget (α := BitVec 64) 0 (by omega) | exact fget (α := Int) 0 (by omega) | exact fget0 (α := BitVec 64) 0 (by omega) | exact fget0 (α := Int) 0 (by omega) | exact fget (α := Bool) false (by omega) | exact fget0 (α := Bool) false (by omega) | (simp [*]; done))) rfl ?_
            refine L_op (env' := uL13n109) rfl rfl (v_is false rfl (decide_eq_false (by omega))) rfl ?_
            refine L_op (env' := uL13n109) rfl rfl (v_pickT rfl rfl rfl) rfl ?_
            refine L_op (env' := uL13n109) rfl rfl (v_pickF rfl rfl rfl) rfl ?_
            refine L_nil ?_
            refine K_seq ?_
            refine B_false rfl rfl ?_
            refine B_skip ?_
            refine K_seq ?_
            refine B_seq ?_
            refine B_region ?_
            refine L_op (env' := uL13n109) rfl rfl (v_move (.inl rfl) rfl) rfl ?_
            refine L_op (env' := uL13n109) rfl rfl (v_addW (b := 1#64) rfl rfl rfl) rfl ?_
            refine L_op (env' := uL13n109) rfl rfl (v_storeT rfl rfl rfl rfl rfl rfl rfl (by first | exact get_app rfl rfl | exact get_out (by assumption) | assumption | (simp [*]; done)) (by first | exact Nat.le_of_ble_eq_true rfl | (simp only [List.length_map, List.length_cons, List.length_nil]; omega) | omega | (simp; done) | (simp; omega)) (by first | exact set_app rfl | exact set_out (lt_of_get (by assumption)) | rfl)) rfl ?_
            refine L_nil ?_
            refine K_seq ?_
            refine B_seq ?_
            refine B_region ?_
            refine L_op (env' := uL13n109) rfl rfl (by first | exact v_loadF rfl rfl rfl rfl (by first | rfl | assumption | exact fget (α := BitVec 64) 0 (by omega) | exact fget (α := Int) 0 (by omega) | exact fget0 (α := BitVec 64) 0 (by omega) | exact fget0 (α := Int) 0 (by omega) | exact fget (α := Bool) false (by omega) | exact fget0 (α := Bool) false (by omega) | (simp [*]; done)) | exact v_load rfl rfl rfl rfl (by first | exact get_app rfl rfl | exact get_out (by assumption) | assumption | (simp [*]; done)) (by first | rfl | assumption | exact fget (α := BitVec 64) 0 (by omega) | exact fget (α := Int) 0 (by omega) | exact fget0 (α := BitVec 64) 0 (by omega) | exact fget0 (α := Int) 0 (by omega) | exact fget (α := Bool) false (by omega) | exact fget0 (α := Bool) false (by omega) | (simp [*]; done))) rfl ?_
            refine L_op (env' := uL13n109) rfl rfl (v_addI rfl rfl rfl (by first | assumption | omega | (simp [*]; done) | (simp at *; omega))) rfl ?_
            refine L_op (env' := uL13n109) rfl rfl (v_storeT rfl rfl rfl rfl rfl rfl rfl (by first | exact get_app rfl rfl | exact get_out (by assumption) | assumption | (simp [*]; done)) (by first | exact Nat.le_of_ble_eq_true rfl | (simp only [List.length_map, List.length_cons, List.length_nil]; omega) | omega | (simp; done) | (simp; omega)) (by first | exact set_app rfl | exact set_out (lt_of_get (by assumption)) | rfl)) rfl ?_
            refine L_nil ?_
            refine K_seq ?_
            refine B_seq ?_
            refine B_region ?_
            refine L_op (env' := uL13n109) rfl rfl (by first | exact v_loadF rfl rfl rfl rfl (by first | rfl | assumption | exact fget (α := BitVec 64) 0 (by omega) | exact fget (α := Int) 0 (by omega) | exact fget0 (α := BitVec 64) 0 (by omega) | exact fget0 (α := Int) 0 (by omega) | exact fget (α := Bool) false (by omega) | exact fget0 (α := Bool) false (by omega) | (simp [*]; done)) | exact v_load rfl rfl rfl rfl (by first | exact get_app rfl rfl | exact get_out (by assumption) | assumption | (simp [*]; done)) (by first | rfl | assumption | exact fget (α := BitVec 64) 0 (by omega) | exact fget (α := Int) 0 (by omega) | exact fget0 (α := BitVec 64) 0 (by omega) | exact fget0 (α := Int) 0 (by omega) | exact fget (α := Bool) false (by omega) | exact fget0 (α := Bool) false (by omega) | (simp [*]; done))) rfl ?_
            refine L_op (env' := uL13n109) rfl rfl (rfl) rfl ?_
            refine L_op (env' := uL13n109) rfl rfl (v_move (.inl rfl) rfl) rfl ?_
            refine L_split 86 (env1 := uL13n109) (env2 := uL13n109) rfl rfl rfl (fun hg25 => ?_) (fun hg25 => ?_)
            · try simp only [decide_eq_true_eq, decide_eq_false_iff_not, Bool.not_eq_true', Bool.not_eq_false', bne_iff_ne, beq_iff_eq, Bool.and_eq_true, Bool.or_eq_true, Bool.not_eq_true, ge_iff_le, gt_iff_lt, Int.not_le, Int.not_lt, beq_eq_false_iff_ne, bne_eq_false_iff_eq, ne_eq, Decidable.not_not, wd_zero, wd_one, wd_inj] at hg25
              refine L_off (env' := uL13n109) rfl rfl ?_
              refine L_off (env' := uL13n109) rfl rfl ?_
              refine L_op (env' := uL13n109) rfl rfl (v_pickTC (VVal.bool true) rfl rfl rfl) rfl ?_
              refine L_nil ?_
              refine K_seq ?_
              refine B_true rfl rfl ?_
              refine B_seq ?_
              refine B_region ?_
              refine L_op (env' := uL13n109) rfl rfl (by first | exact v_loadF rfl rfl rfl rfl (by first | rfl | assumption | exact fget (α := BitVec 64) 0 (by omega) | exact fget (α := Int) 0 (by omega) | exact fget0 (α := BitVec 64) 0 (by omega) | exact fget0 (α := Int) 0 (by omega) | exact fget (α := Bool) false (by omega) | exact fget0 (α := Bool) false (by omega) | (simp [*]; done)) | exact v_load rfl rfl rfl rfl (by first | exact get_app rfl rfl | exact get_out (by assumption) | assumption | (simp [*]; done)) (by first | rfl | assumption | exact fget (α := BitVec 64) 0 (by omega) | exact fget (α := Int) 0 (by omega) | exact fget0 (α := BitVec 64) 0 (by omega) | exact fget0 (α := Int) 0 (by omega) | exact fget (α := Bool) false (by omega) | exact fget0 (α := Bool) false (by omega) | (simp [*]; done))) rfl ?_
              refine L_op (env' := uL13n109) rfl rfl (rfl) rfl ?_
              refine L_op (env' := uL13n109) rfl rfl (v_move (.inl rfl) rfl) rfl ?_
              refine L_split 92 (env1 := uL13n109) (env2 := uL13n109) rfl rfl rfl (fun hg26 => ?_) (fun hg26 => ?_)
              · try simp only [decide_eq_true_eq, decide_eq_false_iff_not, Bool.not_eq_true', Bool.not_eq_false', bne_iff_ne, beq_iff_eq, Bool.and_eq_true, Bool.or_eq_true, Bool.not_eq_true, ge_iff_le, gt_iff_lt, Int.not_le, Int.not_lt, beq_eq_false_iff_ne, bne_eq_false_iff_eq, ne_eq, Decidable.not_not, wd_zero, wd_one, wd_inj] at hg26
                refine L_off (env' := uL13n109) rfl rfl ?_
                refine L_off (env' := uL13n109) rfl rfl ?_
                refine L_op (env' := uL13n109) rfl rfl (v_pickTC (VVal.bool true) rfl rfl rfl) rfl ?_
                refine L_op (env' := uL13n109) rfl rfl (v_storeT rfl rfl rfl rfl rfl rfl rfl (by first | exact get_app rfl rfl | exact get_out (by assumption) | assumption | (simp [*]; done)) (by first | exact Nat.le_of_ble_eq_true rfl | (simp only [List.length_map, List.length_cons, List.length_nil]; omega) | omega | (simp; done) | (simp; omega)) (by first | exact set_app rfl | exact set_out (lt_of_get (by assumption)) | rfl)) rfl ?_
                refine L_nil ?_
                refine K_seq ?_
                refine B_ret ?_
                refine K_blkR ?_
                refine ⟨(c + 1#64, n + 1, true), rfl, .inr ⟨Code.ret, rfl, ⟨rfl, ?_⟩⟩⟩
                rfl
              · try simp only [decide_eq_true_eq, decide_eq_false_iff_not, Bool.not_eq_true', Bool.not_eq_false', bne_iff_ne, beq_iff_eq, Bool.and_eq_true, Bool.or_eq_true, Bool.not_eq_true, ge_iff_le, gt_iff_lt, Int.not_le, Int.not_lt, beq_eq_false_iff_ne, bne_eq_false_iff_eq, ne_eq, Decidable.not_not, wd_zero, wd_one, wd_inj] at hg26
                refine L_op (env' := uL13n109) rfl rfl (v_move (.inl rfl) rfl) rfl ?_
                refine L_op (env' := uL13n109) rfl rfl (v_is true rfl (by rw [beq_iff_eq]; first | omega | exact sp1 (by assumption))) rfl ?_
                refine L_op (env' := uL13n109) rfl rfl (v_pickF rfl rfl rfl) rfl ?_
                refine L_op (env' := uL13n109) rfl rfl (v_storeT rfl rfl rfl rfl rfl rfl rfl (by first | exact get_app rfl rfl | exact get_out (by assumption) | assumption | (simp [*]; done)) (by first | exact Nat.le_of_ble_eq_true rfl | (simp only [List.length_map, List.length_cons, List.length_nil]; omega) | omega | (simp; done) | (simp; omega)) (by first | exact set_app rfl | exact set_out (lt_of_get (by assumption)) | rfl)) rfl ?_
                refine L_nil ?_
                refine K_seq ?_
                refine B_ret ?_
                refine K_blkR ?_
                refine ⟨(c + 1#64, n + 1, true), rfl, .inr ⟨Code.ret, rfl, ⟨rfl, ?_⟩⟩⟩
                rfl
            · try simp only [decide_eq_true_eq, decide_eq_false_iff_not, Bool.not_eq_true', Bool.not_eq_false', bne_iff_ne, beq_iff_eq, Bool.and_eq_true, Bool.or_eq_true, Bool.not_eq_true, ge_iff_le, gt_iff_lt, Int.not_le, Int.not_lt, beq_eq_false_iff_ne, bne_eq_false_iff_eq, ne_eq, Decidable.not_not, wd_zero, wd_one, wd_inj] at hg25
              refine L_op (env' := uL13n109) rfl rfl (by first | exact v_loadF rfl rfl rfl rfl (by first | rfl | assumption | exact fget (α := BitVec 64) 0 (by omega) | exact fget (α := Int) 0 (by omega) | exact fget0 (α := BitVec 64) 0 (by omega) | exact fget0 (α := Int) 0 (by omega) | exact fget (α := Bool) false (by omega) | exact fget0 (α := Bool) false (by omega) | (simp [*]; done)) | exact v_load rfl rfl rfl rfl (by first | exact get_app rfl rfl | exact get_out (by assumption) | assumption | (simp [*]; done)) (by first | rfl | assumption | exact fget (α := BitVec 64) 0 (by omega) | exact fget (α := Int) 0 (by omega) | exact fget0 (α := BitVec 64) 0 (by omega) | exact fget0 (α := Int) 0 (by omega) | exact fget (α := Bool) false (by omega) | exact fget0 (α := Bool) false (by omega) | (simp [*]; done))) rfl ?_
              refine L_op (env' := uL13n109) rfl rfl (rfl) rfl ?_
              refine L_op (env' := uL13n109) rfl rfl (v_pickF rfl rfl rfl) rfl ?_
              refine L_nil ?_
              refine K_seq ?_
              refine B_cond _ rfl (fun hc27 => ?_) (fun hc27 => ?_)
              · try simp only [decide_eq_true_eq, decide_eq_false_iff_not, Bool.not_eq_true', Bool.not_eq_false', bne_iff_ne, beq_iff_eq, Bool.and_eq_true, Bool.or_eq_true, Bool.not_eq_true, ge_iff_le, gt_iff_lt, Int.not_le, Int.not_lt, beq_eq_false_iff_ne, bne_eq_false_iff_eq, ne_eq, Decidable.not_not, wd_zero, wd_one, wd_inj] at hc27
                refine B_seq ?_
                refine B_region ?_
                refine L_op (env' := uL13n109) rfl rfl (by first | exact v_loadF rfl rfl rfl rfl (by first | rfl | assumption | exact fget (α := BitVec 64) 0 (by omega) | exact fget (α := Int) 0 (by omega) | exact fget0 (α := BitVec 64) 0 (by omega) | exact fget0 (α := Int) 0 (by omega) | exact fget (α := Bool) false (by omega) | exact fget0 (α := Bool) false (by omega) | (simp [*]; done)) | exact v_load rfl rfl rfl rfl (by first | exact get_app rfl rfl | exact get_out (by assumption) | assumption | (simp [*]; done)) (by first | rfl | assumption | exact fget (α := BitVec 64) 0 (by omega) | exact fget (α := Int) 0 (by omega) | exact fget0 (α := BitVec 64) 0 (by omega) | exact fget0 (α := Int) 0 (by omega) | exact fget (α := Bool) false (by omega) | exact fget0 (α := Bool) false (by omega) | (simp [*]; done))) rfl ?_
                refine L_op (env' := uL13n109) rfl rfl (rfl) rfl ?_
                refine L_op (env' := uL13n109) rfl rfl (v_move (.inl rfl) rfl) rfl ?_
                refine L_split 92 (env1 := uL13n109) (env2 := uL13n109) rfl rfl rfl (fun hg28 => ?_) (fun hg28 => ?_)
                · try simp only [decide_eq_true_eq, decide_eq_false_iff_not, Bool.not_eq_true', Bool.not_eq_false', bne_iff_ne, beq_iff_eq, Bool.and_eq_true, Bool.or_eq_true, Bool.not_eq_true, ge_iff_le, gt_iff_lt, Int.not_le, Int.not_lt, beq_eq_false_iff_ne, bne_eq_false_iff_eq, ne_eq, Decidable.not_not, wd_zero, wd_one, wd_inj] at hg28
                  refine L_off (env' := uL13n109) rfl rfl ?_
                  refine L_off (env' := uL13n109) rfl rfl ?_
                  refine L_op (env' := uL13n109) rfl rfl (v_pickTC (VVal.bool true) rfl rfl rfl) rfl ?_
                  refine L_op (env' := uL13n109) rfl rfl (v_storeT rfl rfl rfl rfl rfl rfl rfl (by first | exact get_app rfl rfl | exact get_out (by assumption) | assumption | (simp [*]; done)) (by first | exact Nat.le_of_ble_eq_true rfl | (simp only [List.length_map, List.length_cons, List.length_nil]; omega) | omega | (simp; done) | (simp; omega)) (by first | exact set_app rfl | exact set_out (lt_of_get (by assumption)) | rfl)) rfl ?_
                  refine L_nil ?_
                  refine K_seq ?_
                  refine B_ret ?_
                  refine K_blkR ?_
                  refine ⟨(c + 1#64, n + 1, true), rfl, .inr ⟨Code.ret, rfl, ⟨rfl, ?_⟩⟩⟩
                  rfl
                · try simp only [decide_eq_true_eq, decide_eq_false_iff_not, Bool.not_eq_true', Bool.not_eq_false', bne_iff_ne, beq_iff_eq, Bool.and_eq_true, Bool.or_eq_true, Bool.not_eq_true, ge_iff_le, gt_iff_lt, Int.not_le, Int.not_lt, beq_eq_false_iff_ne, bne_eq_false_iff_eq, ne_eq, Decidable.not_not, wd_zero, wd_one, wd_inj] at hg28
                  refine L_op (env' := uL13n109) rfl rfl (v_move (.inl rfl) rfl) rfl ?_
                  refine L_op (env' := uL13n109) rfl rfl (v_is true rfl (by rw [beq_iff_eq]; first | omega | exact sp1 (by assumption))) rfl ?_
                  refine L_op (env' := uL13n109) rfl rfl (v_pickF rfl rfl rfl) rfl ?_
                  refine L_op (env' := uL13n109) rfl rfl (v_storeT rfl rfl rfl rfl rfl rfl rfl (by first | exact get_app rfl rfl | exact get_out (by assumption) | assumption | (simp [*]; done)) (by first | exact Nat.le_of_ble_eq_true rfl | (simp only [List.length_map, List.length_cons, List.length_nil]; omega) | omega | (simp; done) | (simp; omega)) (by first | exact set_app rfl | exact set_out (lt_of_get (by assumption)) | rfl)) rfl ?_
                  refine L_nil ?_
                  refine K_seq ?_
                  refine B_ret ?_
                  refine K_blkR ?_
                  refine ⟨(c + 1#64, n + 1, true), rfl, .inr ⟨Code.ret, rfl, ⟨rfl, ?_⟩⟩⟩
                  rfl
              · try simp only [decide_eq_true_eq, decide_eq_false_iff_not, Bool.not_eq_true', Bool.not_eq_false', bne_iff_ne, beq_iff_eq, Bool.and_eq_true, Bool.or_eq_true, Bool.not_eq_true, ge_iff_le, gt_iff_lt, Int.not_le, Int.not_lt, beq_eq_false_iff_ne, bne_eq_false_iff_eq, ne_eq, Decidable.not_not, wd_zero, wd_one, wd_inj] at hc27
                refine B_skip ?_
                refine K_blk ?_
                refine ⟨(c + 1#64, n + 1, false), rfl, .inl ⟨rfl, ?_⟩⟩
                refine ⟨post, by rw [hx, List.append_assoc]; rfl, hA.next (by first | assumption | (intro e; simp_all)), by simp [hn], ?_, rfl⟩
                show n + 1 < 500
                omega
          · try simp only [decide_eq_true_eq, decide_eq_false_iff_not, Bool.not_eq_true', Bool.not_eq_false', bne_iff_ne, beq_iff_eq, Bool.and_eq_true, Bool.or_eq_true, Bool.not_eq_true, ge_iff_le, gt_iff_lt, Int.not_le, Int.not_lt, beq_eq_false_iff_ne, bne_eq_false_iff_eq, ne_eq, Decidable.not_not, wd_zero, wd_one, wd_inj] at hg24
            refine L_off (env' := uL13n109) rfl rfl ?_
            refine L_off (env' := uL13n109) rfl rfl ?_
            refine L_off (env' := uL13n109) rfl rfl ?_
            refine L_op (env' := uL13n109) rfl rfl (v_pickFC (VVal.bool false) rfl rfl rfl) rfl ?_
            refine L_op (env' := uL13n109) rfl rfl (v_pickF rfl rfl rfl) rfl ?_
            refine L_nil ?_
            refine K_seq ?_
            refine B_false rfl rfl ?_
            refine B_skip ?_
            refine K_seq ?_
            refine B_seq ?_
            refine B_region ?_
            refine L_op (env' := uL13n109) rfl rfl (v_move (.inl rfl) rfl) rfl ?_
            refine L_op (env' := uL13n109) rfl rfl (v_addW (b := 1#64) rfl rfl rfl) rfl ?_
            refine L_op (env' := uL13n109) rfl rfl (v_storeT rfl rfl rfl rfl rfl rfl rfl (by first | exact get_app rfl rfl | exact get_out (by assumption) | assumption | (simp [*]; done)) (by first | exact Nat.le_of_ble_eq_true rfl | (simp only [List.length_map, List.length_cons, List.length_nil]; omega) | omega | (simp; done) | (simp; omega)) (by first | exact set_app rfl | exact set_out (lt_of_get (by assumption)) | rfl)) rfl ?_
            refine L_nil ?_
            refine K_seq ?_
            refine B_seq ?_
            refine B_region ?_
            refine L_op (env' := uL13n109) rfl rfl (by first | exact v_loadF rfl rfl rfl rfl (by first | rfl | assumption | exact fget (α := BitVec 64) 0 (by omega) | exact fget (α := Int) 0 (by omega) | exact fget0 (α := BitVec 64) 0 (by omega) | exact fget0 (α := Int) 0 (by omega) | exact fget (α := Bool) false (by omega) | exact fget0 (α := Bool) false (by omega) | (simp [*]; done)) | exact v_load rfl rfl rfl rfl (by first | exact get_app rfl rfl | exact get_out (by assumption) | assumption | (simp [*]; done)) (by first | rfl | assumption | exact fget (α := BitVec 64) 0 (by omega) | exact fget (α := Int) 0 (by omega) | exact fget0 (α := BitVec 64) 0 (by omega) | exact fget0 (α := Int) 0 (by omega) | exact fget (α := Bool) false (by omega) | exact fget0 (α := Bool) false (by omega) | (simp [*]; done))) rfl ?_
            refine L_op (env' := uL13n109) rfl rfl (v_addI rfl rfl rfl (by first | assumption | omega | (simp [*]; done) | (simp at *; omega))) rfl ?_
            refine L_op (env' := uL13n109) rfl rfl (v_storeT rfl rfl rfl rfl rfl rfl rfl (by first | exact get_app rfl rfl | exact get_out (by assumption) | assumption | (simp [*]; done)) (by first | exact Nat.le_of_ble_eq_true rfl | (simp only [List.length_map, List.length_cons, List.length_nil]; omega) | omega | (simp; done) | (simp; omega)) (by first | exact set_app rfl | exact set_out (lt_of_get (by assumption)) | rfl)) rfl ?_
            refine L_nil ?_
            refine K_seq ?_
            refine B_seq ?_
            refine B_region ?_
            refine L_op (env' := uL13n109) rfl rfl (by first | exact v_loadF rfl rfl rfl rfl (by first | rfl | assumption | exact fget (α := BitVec 64) 0 (by omega) | exact fget (α := Int) 0 (by omega) | exact fget0 (α := BitVec 64) 0 (by omega) | exact fget0 (α := Int) 0 (by omega) | exact fget (α := Bool) false (by omega) | exact fget0 (α := Bool) false (by omega) | (simp [*]; done)) | exact v_load rfl rfl rfl rfl (by first | exact get_app rfl rfl | exact get_out (by assumption) | assumption | (simp [*]; done)) (by first | rfl | assumption | exact fget (α := BitVec 64) 0 (by omega) | exact fget (α := Int) 0 (by omega) | exact fget0 (α := BitVec 64) 0 (by omega) | exact fget0 (α := Int) 0 (by omega) | exact fget (α := Bool) false (by omega) | exact fget0 (α := Bool) false (by omega) | (simp [*]; done))) rfl ?_
            refine L_op (env' := uL13n109) rfl rfl (rfl) rfl ?_
            refine L_op (env' := uL13n109) rfl rfl (v_move (.inl rfl) rfl) rfl ?_
            refine L_split 86 (env1 := uL13n109) (env2 := uL13n109) rfl rfl rfl (fun hg29 => ?_) (fun hg29 => ?_)
            · try simp only [decide_eq_true_eq, decide_eq_false_iff_not, Bool.not_eq_true', Bool.not_eq_false', bne_iff_ne, beq_iff_eq, Bool.and_eq_true, Bool.or_eq_true, Bool.not_eq_true, ge_iff_le, gt_iff_lt, Int.not_le, Int.not_lt, beq_eq_false_iff_ne, bne_eq_false_iff_eq, ne_eq, Decidable.not_not, wd_zero, wd_one, wd_inj] at hg29
              refine L_off (env' := uL13n109) rfl rfl ?_
              refine L_off (env' := uL13n109) rfl rfl ?_
              refine L_op (env' := uL13n109) rfl rfl (v_pickTC (VVal.bool true) rfl rfl rfl) rfl ?_
              refine L_nil ?_
              refine K_seq ?_
              refine B_true rfl rfl ?_
              refine B_seq ?_
              refine B_region ?_
              refine L_op (env' := uL13n109) rfl rfl (by first | exact v_loadF rfl rfl rfl rfl (by first | rfl | assumption | exact fget (α := BitVec 64) 0 (by omega) | exact fget (α := Int) 0 (by omega) | exact fget0 (α := BitVec 64) 0 (by omega) | exact fget0 (α := Int) 0 (by omega) | exact fget (α := Bool) false (by omega) | exact fget0 (α := Bool) false (by omega) | (simp [*]; done)) | exact v_load rfl rfl rfl rfl (by first | exact get_app rfl rfl | exact get_out (by assumption) | assumption | (simp [*]; done)) (by first | rfl | assumption | exact fget (α := BitVec 64) 0 (by omega) | exact fget (α := Int) 0 (by omega) | exact fget0 (α := BitVec 64) 0 (by omega) | exact fget0 (α := Int) 0 (by omega) | exact fget (α := Bool) false (by omega) | exact fget0 (α := Bool) false (by omega) | (simp [*]; done))) rfl ?_
              refine L_op (env' := uL13n109) rfl rfl (rfl) rfl ?_
              refine L_op (env' := uL13n109) rfl rfl (v_move (.inl rfl) rfl) rfl ?_
              refine L_split 92 (env1 := uL13n109) (env2 := uL13n109) rfl rfl rfl (fun hg30 => ?_) (fun hg30 => ?_)
              · try simp only [decide_eq_true_eq, decide_eq_false_iff_not, Bool.not_eq_true', Bool.not_eq_false', bne_iff_ne, beq_iff_eq, Bool.and_eq_true, Bool.or_eq_true, Bool.not_eq_true, ge_iff_le, gt_iff_lt, Int.not_le, Int.not_lt, beq_eq_false_iff_ne, bne_eq_false_iff_eq, ne_eq, Decidable.not_not, wd_zero, wd_one, wd_inj] at hg30
                refine L_off (env' := uL13n109) rfl rfl ?_
                refine L_off (env' := uL13n109) rfl rfl ?_
                refine L_op (env' := uL13n109) rfl rfl (v_pickTC (VVal.bool true) rfl rfl rfl) rfl ?_
                refine L_op (env' := uL13n109) rfl rfl (v_storeT rfl rfl rfl rfl rfl rfl rfl (by first | exact get_app rfl rfl | exact get_out (by assumption) | assumption | (simp [*]; done)) (by first | exact Nat.le_of_ble_eq_true rfl | (simp only [List.length_map, List.length_cons, List.length_nil]; omega) | omega | (simp; done) | (simp; omega)) (by first | exact set_app rfl | exact set_out (lt_of_get (by assumption)) | rfl)) rfl ?_
                refine L_nil ?_
                refine K_seq ?_
                refine B_ret ?_
                refine K_blkR ?_
                refine ⟨(c + 1#64, n + 1, true), rfl, .inr ⟨Code.ret, rfl, ⟨rfl, ?_⟩⟩⟩
                rfl
              · try simp only [decide_eq_true_eq, decide_eq_false_iff_not, Bool.not_eq_true', Bool.not_eq_false', bne_iff_ne, beq_iff_eq, Bool.and_eq_true, Bool.or_eq_true, Bool.not_eq_true, ge_iff_le, gt_iff_lt, Int.not_le, Int.not_lt, beq_eq_false_iff_ne, bne_eq_false_iff_eq, ne_eq, Decidable.not_not, wd_zero, wd_one, wd_inj] at hg30
                refine L_op (env' := uL13n109) rfl rfl (v_move (.inl rfl) rfl) rfl ?_
                refine L_op (env' := uL13n109) rfl rfl (v_is true rfl (by rw [beq_iff_eq]; first | omega | exact sp1 (by assumption))) rfl ?_
                refine L_op (env' := uL13n109) rfl rfl (v_pickF rfl rfl rfl) rfl ?_
                refine L_op (env' := uL13n109) rfl rfl (v_storeT rfl rfl rfl rfl rfl rfl rfl (by first | exact get_app rfl rfl | exact get_out (by assumption) | assumption | (simp [*]; done)) (by first | exact Nat.le_of_ble_eq_true rfl | (simp only [List.length_map, List.length_cons, List.length_nil]; omega) | omega | (simp; done) | (simp; omega)) (by first | exact set_app rfl | exact set_out (lt_of_get (by assumption)) | rfl)) rfl ?_
                refine L_nil ?_
                refine K_seq ?_
                refine B_ret ?_
                refine K_blkR ?_
                refine ⟨(c + 1#64, n + 1, true), rfl, .inr ⟨Code.ret, rfl, ⟨rfl, ?_⟩⟩⟩
                rfl
            · try simp only [decide_eq_true_eq, decide_eq_false_iff_not, Bool.not_eq_true', Bool.not_eq_false', bne_iff_ne, beq_iff_eq, Bool.and_eq_true, Bool.or_eq_true, Bool.not_eq_true, ge_iff_le, gt_iff_lt, Int.not_le, Int.not_lt, beq_eq_false_iff_ne, bne_eq_false_iff_eq, ne_eq, Decidable.not_not, wd_zero, wd_one, wd_inj] at hg29
              refine L_op (env' := uL13n109) rfl rfl (by first | exact v_loadF rfl rfl rfl rfl (by first | rfl | assumption | exact fget (α := BitVec 64) 0 (by omega) | exact fget (α := Int) 0 (by omega) | exact fget0 (α := BitVec 64) 0 (by omega) | exact fget0 (α := Int) 0 (by omega) | exact fget (α := Bool) false (by omega) | exact fget0 (α := Bool) false (by omega) | (simp [*]; done)) | exact v_load rfl rfl rfl rfl (by first | exact get_app rfl rfl | exact get_out (by assumption) | assumption | (simp [*]; done)) (by first | rfl | assumption | exact fget (α := BitVec 64) 0 (by omega) | exact fget (α := Int) 0 (by omega) | exact fget0 (α := BitVec 64) 0 (by omega) | exact fget0 (α := Int) 0 (by omega) | exact fget (α := Bool) false (by omega) | exact fget0 (α := Bool) false (by omega) | (simp [*]; done))) rfl ?_
              refine L_op (env' := uL13n109) rfl rfl (rfl) rfl ?_
              refine L_op (env' := uL13n109) rfl rfl (v_pickF rfl rfl rfl) rfl ?_
              refine L_nil ?_
              refine K_seq ?_
              refine B_cond _ rfl (fun hc31 => ?_) (fun hc31 => ?_)
              · try simp only [decide_eq_true_eq, decide_eq_false_iff_not, Bool.not_eq_true', Bool.not_eq_false', bne_iff_ne, beq_iff_eq, Bool.and_eq_true, Bool.or_eq_true, Bool.not_eq_true, ge_iff_le, gt_iff_lt, Int.not_le, Int.not_lt, beq_eq_false_iff_ne, bne_eq_false_iff_eq, ne_eq, Decidable.not_not, wd_zero, wd_one, wd_inj] at hc31
                refine B_seq ?_
                refine B_region ?_
                refine L_op (env' := uL13n109) rfl rfl (by first | exact v_loadF rfl rfl rfl rfl (by first | rfl | assumption | exact fget (α := BitVec 64) 0 (by omega) | exact fget (α := Int) 0 (by omega) | exact fget0 (α := BitVec 64) 0 (by omega) | exact fget0 (α := Int) 0 (by omega) | exact fget (α := Bool) false (by omega) | exact fget0 (α := Bool) false (by omega) | (simp [*]; done)) | exact v_load rfl rfl rfl rfl (by first | exact get_app rfl rfl | exact get_out (by assumption) | assumption | (simp [*]; done)) (by first | rfl | assumption | exact fget (α := BitVec 64) 0 (by omega) | exact fget (α := Int) 0 (by omega) | exact fget0 (α := BitVec 64) 0 (by omega) | exact fget0 (α := Int) 0 (by omega) | exact fget (α := Bool) false (by omega) | exact fget0 (α := Bool) false (by omega) | (simp [*]; done))) rfl ?_
                refine L_op (env' := uL13n109) rfl rfl (rfl) rfl ?_
                refine L_op (env' := uL13n109) rfl rfl (v_move (.inl rfl) rfl) rfl ?_
                refine L_split 92 (env1 := uL13n109) (env2 := uL13n109) rfl rfl rfl (fun hg32 => ?_) (fun hg32 => ?_)
                · try simp only [decide_eq_true_eq, decide_eq_false_iff_not, Bool.not_eq_true', Bool.not_eq_false', bne_iff_ne, beq_iff_eq, Bool.and_eq_true, Bool.or_eq_true, Bool.not_eq_true, ge_iff_le, gt_iff_lt, Int.not_le, Int.not_lt, beq_eq_false_iff_ne, bne_eq_false_iff_eq, ne_eq, Decidable.not_not, wd_zero, wd_one, wd_inj] at hg32
                  refine L_off (env' := uL13n109) rfl rfl ?_
                  refine L_off (env' := uL13n109) rfl rfl ?_
                  refine L_op (env' := uL13n109) rfl rfl (v_pickTC (VVal.bool true) rfl rfl rfl) rfl ?_
                  refine L_op (env' := uL13n109) rfl rfl (v_storeT rfl rfl rfl rfl rfl rfl rfl (by first | exact get_app rfl rfl | exact get_out (by assumption) | assumption | (simp [*]; done)) (by first | exact Nat.le_of_ble_eq_true rfl | (simp only [List.length_map, List.length_cons, List.length_nil]; omega) | omega | (simp; done) | (simp; omega)) (by first | exact set_app rfl | exact set_out (lt_of_get (by assumption)) | rfl)) rfl ?_
                  refine L_nil ?_
                  refine K_seq ?_
                  refine B_ret ?_
                  refine K_blkR ?_
                  refine ⟨(c + 1#64, n + 1, true), rfl, .inr ⟨Code.ret, rfl, ⟨rfl, ?_⟩⟩⟩
                  rfl
                · try simp only [decide_eq_true_eq, decide_eq_false_iff_not, Bool.not_eq_true', Bool.not_eq_false', bne_iff_ne, beq_iff_eq, Bool.and_eq_true, Bool.or_eq_true, Bool.not_eq_true, ge_iff_le, gt_iff_lt, Int.not_le, Int.not_lt, beq_eq_false_iff_ne, bne_eq_false_iff_eq, ne_eq, Decidable.not_not, wd_zero, wd_one, wd_inj] at hg32
                  refine L_op (env' := uL13n109) rfl rfl (v_move (.inl rfl) rfl) rfl ?_
                  refine L_op (env' := uL13n109) rfl rfl (v_is true rfl (by rw [beq_iff_eq]; first | omega | exact sp1 (by assumption))) rfl ?_
                  refine L_op (env' := uL13n109) rfl rfl (v_pickF rfl rfl rfl) rfl ?_
                  refine L_op (env' := uL13n109) rfl rfl (v_storeT rfl rfl rfl rfl rfl rfl rfl (by first | exact get_app rfl rfl | exact get_out (by assumption) | assumption | (simp [*]; done)) (by first | exact Nat.le_of_ble_eq_true rfl | (simp only [List.length_map, List.length_cons, List.length_nil]; omega) | omega | (simp; done) | (simp; omega)) (by first | exact set_app rfl | exact set_out (lt_of_get (by assumption)) | rfl)) rfl ?_
                  refine L_nil ?_
                  refine K_seq ?_
                  refine B_ret ?_
                  refine K_blkR ?_
                  refine ⟨(c + 1#64, n + 1, true), rfl, .inr ⟨Code.ret, rfl, ⟨rfl, ?_⟩⟩⟩
                  rfl
              · try simp only [decide_eq_true_eq, decide_eq_false_iff_not, Bool.not_eq_true', Bool.not_eq_false', bne_iff_ne, beq_iff_eq, Bool.and_eq_true, Bool.or_eq_true, Bool.not_eq_true, ge_iff_le, gt_iff_lt, Int.not_le, Int.not_lt, beq_eq_false_iff_ne, bne_eq_false_iff_eq, ne_eq, Decidable.not_not, wd_zero, wd_one, wd_inj] at hc31
                refine B_skip ?_
                refine K_blk ?_
                refine ⟨(c + 1#64, n + 1, false), rfl, .inl ⟨rfl, ?_⟩⟩
                refine ⟨post, by rw [hx, List.append_assoc]; rfl, hA.next (by first | assumption | (intro e; simp_all)), by simp [hn], ?_, rfl⟩
                show n + 1 < 500
                omega
        · try simp only [decide_eq_true_eq, decide_eq_false_iff_not, Bool.not_eq_true', Bool.not_eq_false', bne_iff_ne, beq_iff_eq, Bool.and_eq_true, Bool.or_eq_true, Bool.not_eq_true, ge_iff_le, gt_iff_lt, Int.not_le, Int.not_lt, beq_eq_false_iff_ne, bne_eq_false_iff_eq, ne_eq, Decidable.not_not, wd_zero, wd_one, wd_inj] at hg23
          refine L_off (env' := uL13n109) rfl rfl ?_
          refine L_off (env' := uL13n109) rfl rfl ?_
          refine L_off (env' := uL13n109) rfl rfl ?_
          refine L_op (env' := uL13n109) rfl rfl (v_pickFC (VVal.bool false) rfl rfl rfl) rfl ?_
          refine L_op (env' := uL13n109) rfl rfl (v_move (.inl rfl) rfl) rfl ?_
          refine L_off (env' := uL13n109) rfl rfl ?_
          refine L_off (env' := uL13n109) rfl rfl ?_
          refine L_off (env' := uL13n109) rfl rfl ?_
          refine L_op (env' := uL13n109) rfl rfl (v_pickFC (VVal.bool false) rfl rfl rfl) rfl ?_
          refine L_op (env' := uL13n109) rfl rfl (v_pickF rfl rfl rfl) rfl ?_
          refine L_op (env' := uL13n109) rfl rfl (v_move (.inl rfl) rfl) rfl ?_
          refine L_op (env' := uL13n109) rfl rfl (by first | exact v_loadF rfl rfl rfl rfl (by first | rfl | assumption | exact fget (α := BitVec 64) 0 (by omega) | exact fget (α := Int) 0 (by omega) | exact fget0 (α := BitVec 64) 0 (by omega) | exact fget0 (α := Int) 0 (by omega) | exact fget (α := Bool) false (by omega) | exact fget0 (α := Bool) false (by omega) | (simp [*]; done)) | exact v_load rfl rfl rfl rfl (by first | exact get_app rfl rfl | exact get_out (by assumption) | assumption | (simp [*]; done)) (by first | rfl | assumption | exact fget (α := BitVec 64) 0 (by omega) | exact fget (α := Int) 0 (by omega) | exact fget0 (α := BitVec 64) 0 (by omega) | exact fget0 (α := Int) 0 (by omega) | exact fget (α := Bool) false (by omega) | exact fget0 (α := Bool) false (by omega) | (simp [*]; done))) rfl ?_
          refine L_op (env' := uL13n109) rfl rfl (v_move (.inl rfl) rfl) rfl ?_
          refine L_call rfl rfl rfl (by exact refDown_spec _ _ _ hm _) ?_
          rintro v _ ⟨hv, rfl⟩; obtain rfl : v = .bool true := hv.trans (by rw [hdc])
          refine L_env (env' := uL13n109) rfl ?_
          refine L_op (env' := uL13n109) rfl rfl (rfl) rfl ?_
          refine L_op (env' := uL13n109) rfl rfl (v_pickF rfl rfl rfl) rfl ?_
          refine L_op (env' := uL13n109) rfl rfl (v_move (.inl rfl) rfl) rfl ?_
          refine L_op (env' := uL13n109) rfl rfl (by first | exact v_loadF rfl rfl rfl rfl (by first | rfl | assumption | exact fget (α := BitVec 64) 0 (by omega) | exact fget (α := Int) 0 (by omega) | exact fget0 (α := BitVec 64) 0 (by omega) | exact fget0 (α := Int) 0 (by omega) | exact fget (α := Bool) false (by omega) | exact fget0 (α := Bool) false (by omega) | (simp [*]; done)) | exact v_load rfl rfl rfl rfl (by first | exact get_app rfl rfl | exact get_out (by assumption) | assumption | (simp [*]; done)) (by first | rfl | assumption | exact fget (α := BitVec 64) 0 (by omega) | exact fget (α := Int) 0 (by omega) | exact fget0 (α := BitVec 64) 0 (by omega) | exact fget0 (α := Int) 0 (by omega) | exact fget (α := Bool) false (by omega) | exact fget0 (α := Bool) false (by omega) | (simp [*]; done))) rfl ?_
          refine L_op (env' := uL13n109) rfl rfl (rfl) rfl ?_
          refine L_op (env' := uL13n109) rfl rfl (v_move (.inl rfl) rfl) rfl ?_
          refine L_split 74 (env1 := uL13n109) (env2 := uL13n109) rfl rfl rfl (fun hg33 => ?_) (fun hg33 => ?_)
          · try simp only [decide_eq_true_eq, decide_eq_false_iff_not, Bool.not_eq_true', Bool.not_eq_false', bne_iff_ne, beq_iff_eq, Bool.and_eq_true, Bool.or_eq_true, Bool.not_eq_true, ge_iff_le, gt_iff_lt, Int.not_le, Int.not_lt, beq_eq_false_iff_ne, bne_eq_false_iff_eq, ne_eq, Decidable.not_not, wd_zero, wd_one, wd_inj] at hg33
            refine L_op (env' := uL13n109) rfl rfl (v_move (.inl rfl) rfl) rfl ?_
            refine L_op (env' := uL13n109) rfl rfl (by first | exact v_loadF rfl rfl rfl rfl (by first | rfl | assumption | exact fget (α := BitVec 64) 0 (by omega) | exact fget (α := Int) 0 (by omega) | exact fget0 (α := BitVec 64) 0 (by omega) | exact fget0 (α := Int) 0 (by omega) | exact fget (α := Bool) false (by omega) | exact fget0 (α := Bool) false (by omega) | (simp [*]; done)) | exact v_load rfl rfl rfl rfl (by first | exact get_app rfl rfl | exact get_out (by assumption) | assumption | (simp [*]; done)) (by first | rfl | assumption | exact fget (α := BitVec 64) 0 (by omega) | exact fget (α := Int) 0 (by omega) | exact fget0 (α := BitVec 64) 0 (by omega) | exact fget0 (α := Int) 0 (by omega) | exact fget (α := Bool) false (by omega) | exact fget0 (α := Bool) false (by omega) | (simp [*]; done))) rfl ?_
            refine L_op (env' := uL13n109) rfl rfl (v_is false rfl (decide_eq_false (by omega))) rfl ?_
            refine L_op (env' := uL13n109) rfl rfl (v_pickT rfl rfl rfl) rfl ?_
            refine L_op (env' := uL13n109) rfl rfl (v_pickF rfl rfl rfl) rfl ?_
            refine L_nil ?_
            refine K_seq ?_
            refine B_false rfl rfl ?_
            refine B_skip ?_
            refine K_seq ?_
            refine B_seq ?_
            refine B_region ?_
            refine L_op (env' := uL13n109) rfl rfl (v_move (.inl rfl) rfl) rfl ?_
            refine L_op (env' := uL13n109) rfl rfl (v_addW (b := 1#64) rfl rfl rfl) rfl ?_
            refine L_op (env' := uL13n109) rfl rfl (v_storeT rfl rfl rfl rfl rfl rfl rfl (by first | exact get_app rfl rfl | exact get_out (by assumption) | assumption | (simp [*]; done)) (by first | exact Nat.le_of_ble_eq_true rfl | (simp only [List.length_map, List.length_cons, List.length_nil]; omega) | omega | (simp; done) | (simp; omega)) (by first | exact set_app rfl | exact set_out (lt_of_get (by assumption)) | rfl)) rfl ?_
            refine L_nil ?_
            refine K_seq ?_
            refine B_seq ?_
            refine B_region ?_
            refine L_op (env' := uL13n109) rfl rfl (by first | exact v_loadF rfl rfl rfl rfl (by first | rfl | assumption | exact fget (α := BitVec 64) 0 (by omega) | exact fget (α := Int) 0 (by omega) | exact fget0 (α := BitVec 64) 0 (by omega) | exact fget0 (α := Int) 0 (by omega) | exact fget (α := Bool) false (by omega) | exact fget0 (α := Bool) false (by omega) | (simp [*]; done)) | exact v_load rfl rfl rfl rfl (by first | exact get_app rfl rfl | exact get_out (by assumption) | assumption | (simp [*]; done)) (by first | rfl | assumption | exact fget (α := BitVec 64) 0 (by omega) | exact fget (α := Int) 0 (by omega) | exact fget0 (α := BitVec 64) 0 (by omega) | exact fget0 (α := Int) 0 (by omega) | exact fget (α := Bool) false (by omega) | exact fget0 (α := Bool) false (by omega) | (simp [*]; done))) rfl ?_
            refine L_op (env' := uL13n109) rfl rfl (v_addI rfl rfl rfl (by first | assumption | omega | (simp [*]; done) | (simp at *; omega))) rfl ?_
            refine L_op (env' := uL13n109) rfl rfl (v_storeT rfl rfl rfl rfl rfl rfl rfl (by first | exact get_app rfl rfl | exact get_out (by assumption) | assumption | (simp [*]; done)) (by first | exact Nat.le_of_ble_eq_true rfl | (simp only [List.length_map, List.length_cons, List.length_nil]; omega) | omega | (simp; done) | (simp; omega)) (by first | exact set_app rfl | exact set_out (lt_of_get (by assumption)) | rfl)) rfl ?_
            refine L_nil ?_
            refine K_seq ?_
            refine B_seq ?_
            refine B_region ?_
            refine L_op (env' := uL13n109) rfl rfl (by first | exact v_loadF rfl rfl rfl rfl (by first | rfl | assumption | exact fget (α := BitVec 64) 0 (by omega) | exact fget (α := Int) 0 (by omega) | exact fget0 (α := BitVec 64) 0 (by omega) | exact fget0 (α := Int) 0 (by omega) | exact fget (α := Bool) false (by omega) | exact fget0 (α := Bool) false (by omega) | (simp [*]; done)) | exact v_load rfl rfl rfl rfl (by first | exact get_app rfl rfl | exact get_out (by assumption) | assumption | (simp [*]; done)) (by first | rfl | assumption | exact fget (α := BitVec 64) 0 (by omega) | exact fget (α := Int) 0 (by omega) | exact fget0 (α := BitVec 64) 0 (by omega) | exact fget0 (α := Int) 0 (by omega) | exact fget (α := Bool) false (by omega) | exact fget0 (α := Bool) false (by omega) | (simp [*]; done))) rfl ?_
            refine L_op (env' := uL13n109) rfl rfl (rfl) rfl ?_
            refine L_op (env' := uL13n109) rfl rfl (v_move (.inl rfl) rfl) rfl ?_
            refine L_split 86 (env1 := uL13n109) (env2 := uL13n109) rfl rfl rfl (fun hg34 => ?_) (fun hg34 => ?_)
            · try simp only [decide_eq_true_eq, decide_eq_false_iff_not, Bool.not_eq_true', Bool.not_eq_false', bne_iff_ne, beq_iff_eq, Bool.and_eq_true, Bool.or_eq_true, Bool.not_eq_true, ge_iff_le, gt_iff_lt, Int.not_le, Int.not_lt, beq_eq_false_iff_ne, bne_eq_false_iff_eq, ne_eq, Decidable.not_not, wd_zero, wd_one, wd_inj] at hg34
              refine L_off (env' := uL13n109) rfl rfl ?_
              refine L_off (env' := uL13n109) rfl rfl ?_
              refine L_op (env' := uL13n109) rfl rfl (v_pickTC (VVal.bool true) rfl rfl rfl) rfl ?_
              refine L_nil ?_
              refine K_seq ?_
              refine B_true rfl rfl ?_
              refine B_seq ?_
              refine B_region ?_
              refine L_op (env' := uL13n109) rfl rfl (by first | exact v_loadF rfl rfl rfl rfl (by first | rfl | assumption | exact fget (α := BitVec 64) 0 (by omega) | exact fget (α := Int) 0 (by omega) | exact fget0 (α := BitVec 64) 0 (by omega) | exact fget0 (α := Int) 0 (by omega) | exact fget (α := Bool) false (by omega) | exact fget0 (α := Bool) false (by omega) | (simp [*]; done)) | exact v_load rfl rfl rfl rfl (by first | exact get_app rfl rfl | exact get_out (by assumption) | assumption | (simp [*]; done)) (by first | rfl | assumption | exact fget (α := BitVec 64) 0 (by omega) | exact fget (α := Int) 0 (by omega) | exact fget0 (α := BitVec 64) 0 (by omega) | exact fget0 (α := Int) 0 (by omega) | exact fget (α := Bool) false (by omega) | exact fget0 (α := Bool) false (by omega) | (simp [*]; done))) rfl ?_
              refine L_op (env' := uL13n109) rfl rfl (rfl) rfl ?_
              refine L_op (env' := uL13n109) rfl rfl (v_move (.inl rfl) rfl) rfl ?_
              refine L_split 92 (env1 := uL13n109) (env2 := uL13n109) rfl rfl rfl (fun hg35 => ?_) (fun hg35 => ?_)
              · try simp only [decide_eq_true_eq, decide_eq_false_iff_not, Bool.not_eq_true', Bool.not_eq_false', bne_iff_ne, beq_iff_eq, Bool.and_eq_true, Bool.or_eq_true, Bool.not_eq_true, ge_iff_le, gt_iff_lt, Int.not_le, Int.not_lt, beq_eq_false_iff_ne, bne_eq_false_iff_eq, ne_eq, Decidable.not_not, wd_zero, wd_one, wd_inj] at hg35
                refine L_off (env' := uL13n109) rfl rfl ?_
                refine L_off (env' := uL13n109) rfl rfl ?_
                refine L_op (env' := uL13n109) rfl rfl (v_pickTC (VVal.bool true) rfl rfl rfl) rfl ?_
                refine L_op (env' := uL13n109) rfl rfl (v_storeT rfl rfl rfl rfl rfl rfl rfl (by first | exact get_app rfl rfl | exact get_out (by assumption) | assumption | (simp [*]; done)) (by first | exact Nat.le_of_ble_eq_true rfl | (simp only [List.length_map, List.length_cons, List.length_nil]; omega) | omega | (simp; done) | (simp; omega)) (by first | exact set_app rfl | exact set_out (lt_of_get (by assumption)) | rfl)) rfl ?_
                refine L_nil ?_
                refine K_seq ?_
                refine B_ret ?_
                refine K_blkR ?_
                refine ⟨(c + 1#64, n + 1, true), rfl, .inr ⟨Code.ret, rfl, ⟨rfl, ?_⟩⟩⟩
                rfl
              · try simp only [decide_eq_true_eq, decide_eq_false_iff_not, Bool.not_eq_true', Bool.not_eq_false', bne_iff_ne, beq_iff_eq, Bool.and_eq_true, Bool.or_eq_true, Bool.not_eq_true, ge_iff_le, gt_iff_lt, Int.not_le, Int.not_lt, beq_eq_false_iff_ne, bne_eq_false_iff_eq, ne_eq, Decidable.not_not, wd_zero, wd_one, wd_inj] at hg35
                refine L_op (env' := uL13n109) rfl rfl (v_move (.inl rfl) rfl) rfl ?_
                refine L_op (env' := uL13n109) rfl rfl (v_is true rfl (by rw [beq_iff_eq]; first | omega | exact sp1 (by assumption))) rfl ?_
                refine L_op (env' := uL13n109) rfl rfl (v_pickF rfl rfl rfl) rfl ?_
                refine L_op (env' := uL13n109) rfl rfl (v_storeT rfl rfl rfl rfl rfl rfl rfl (by first | exact get_app rfl rfl | exact get_out (by assumption) | assumption | (simp [*]; done)) (by first | exact Nat.le_of_ble_eq_true rfl | (simp only [List.length_map, List.length_cons, List.length_nil]; omega) | omega | (simp; done) | (simp; omega)) (by first | exact set_app rfl | exact set_out (lt_of_get (by assumption)) | rfl)) rfl ?_
                refine L_nil ?_
                refine K_seq ?_
                refine B_ret ?_
                refine K_blkR ?_
                refine ⟨(c + 1#64, n + 1, true), rfl, .inr ⟨Code.ret, rfl, ⟨rfl, ?_⟩⟩⟩
                rfl
            · try simp only [decide_eq_true_eq, decide_eq_false_iff_not, Bool.not_eq_true', Bool.not_eq_false', bne_iff_ne, beq_iff_eq, Bool.and_eq_true, Bool.or_eq_true, Bool.not_eq_true, ge_iff_le, gt_iff_lt, Int.not_le, Int.not_lt, beq_eq_false_iff_ne, bne_eq_false_iff_eq, ne_eq, Decidable.not_not, wd_zero, wd_one, wd_inj] at hg34
              refine L_op (env' := uL13n109) rfl rfl (by first | exact v_loadF rfl rfl rfl rfl (by first | rfl | assumption | exact fget (α := BitVec 64) 0 (by omega) | exact fget (α := Int) 0 (by omega) | exact fget0 (α := BitVec 64) 0 (by omega) | exact fget0 (α := Int) 0 (by omega) | exact fget (α := Bool) false (by omega) | exact fget0 (α := Bool) false (by omega) | (simp [*]; done)) | exact v_load rfl rfl rfl rfl (by first | exact get_app rfl rfl | exact get_out (by assumption) | assumption | (simp [*]; done)) (by first | rfl | assumption | exact fget (α := BitVec 64) 0 (by omega) | exact fget (α := Int) 0 (by omega) | exact fget0 (α := BitVec 64) 0 (by omega) | exact fget0 (α := Int) 0 (by omega) | exact fget (α := Bool) false (by omega) | exact fget0 (α := Bool) false (by omega) | (simp [*]; done))) rfl ?_
              refine L_op (env' := uL13n109) rfl rfl (rfl) rfl ?_
              refine L_op (env' := uL13n109) rfl rfl (v_pickF rfl rfl rfl) rfl ?_
              refine L_nil ?_
              refine K_seq ?_
              refine B_cond _ rfl (fun hc36 => ?_) (fun hc36 => ?_)
              · try simp only [decide_eq_true_eq, decide_eq_false_iff_not, Bool.not_eq_true', Bool.not_eq_false', bne_iff_ne, beq_iff_eq, Bool.and_eq_true, Bool.or_eq_true, Bool.not_eq_true, ge_iff_le, gt_iff_lt, Int.not_le, Int.not_lt, beq_eq_false_iff_ne, bne_eq_false_iff_eq, ne_eq, Decidable.not_not, wd_zero, wd_one, wd_inj] at hc36
                refine B_seq ?_
                refine B_region ?_
                refine L_op (env' := uL13n109) rfl rfl (by first | exact v_loadF rfl rfl rfl rfl (by first | rfl | assumption | exact fget (α := BitVec 64) 0 (by omega) | exact fget (α := Int) 0 (by omega) | exact fget0 (α := BitVec 64) 0 (by omega) | exact fget0 (α := Int) 0 (by omega) | exact fget (α := Bool) false (by omega) | exact fget0 (α := Bool) false (by omega) | (simp [*]; done)) | exact v_load rfl rfl rfl rfl (by first | exact get_app rfl rfl | exact get_out (by assumption) | assumption | (simp [*]; done)) (by first | rfl | assumption | exact fget (α := BitVec 64) 0 (by omega) | exact fget (α := Int) 0 (by omega) | exact fget0 (α := BitVec 64) 0 (by omega) | exact fget0 (α := Int) 0 (by omega) | exact fget (α := Bool) false (by omega) | exact fget0 (α := Bool) false (by omega) | (simp [*]; done))) rfl ?_
                refine L_op (env' := uL13n109) rfl rfl (rfl) rfl ?_
                refine L_op (env' := uL13n109) rfl rfl (v_move (.inl rfl) rfl) rfl ?_
                refine L_split 92 (env1 := uL13n109) (env2 := uL13n109) rfl rfl rfl (fun hg37 => ?_) (fun hg37 => ?_)
                · try simp only [decide_eq_true_eq, decide_eq_false_iff_not, Bool.not_eq_true', Bool.not_eq_false', bne_iff_ne, beq_iff_eq, Bool.and_eq_true, Bool.or_eq_true, Bool.not_eq_true, ge_iff_le, gt_iff_lt, Int.not_le, Int.not_lt, beq_eq_false_iff_ne, bne_eq_false_iff_eq, ne_eq, Decidable.not_not, wd_zero, wd_one, wd_inj] at hg37
                  refine L_off (env' := uL13n109) rfl rfl ?_
                  refine L_off (env' := uL13n109) rfl rfl ?_
                  refine L_op (env' := uL13n109) rfl rfl (v_pickTC (VVal.bool true) rfl rfl rfl) rfl ?_
                  refine L_op (env' := uL13n109) rfl rfl (v_storeT rfl rfl rfl rfl rfl rfl rfl (by first | exact get_app rfl rfl | exact get_out (by assumption) | assumption | (simp [*]; done)) (by first | exact Nat.le_of_ble_eq_true rfl | (simp only [List.length_map, List.length_cons, List.length_nil]; omega) | omega | (simp; done) | (simp; omega)) (by first | exact set_app rfl | exact set_out (lt_of_get (by assumption)) | rfl)) rfl ?_
                  refine L_nil ?_
                  refine K_seq ?_
                  refine B_ret ?_
                  refine K_blkR ?_
                  refine ⟨(c + 1#64, n + 1, true), rfl, .inr ⟨Code.ret, rfl, ⟨rfl, ?_⟩⟩⟩
                  rfl
                · try simp only [decide_eq_true_eq, decide_eq_false_iff_not, Bool.not_eq_true', Bool.not_eq_false', bne_iff_ne, beq_iff_eq, Bool.and_eq_true, Bool.or_eq_true, Bool.not_eq_true, ge_iff_le, gt_iff_lt, Int.not_le, Int.not_lt, beq_eq_false_iff_ne, bne_eq_false_iff_eq, ne_eq, Decidable.not_not, wd_zero, wd_one, wd_inj] at hg37
                  refine L_op (env' := uL13n109) rfl rfl (v_move (.inl rfl) rfl) rfl ?_
                  refine L_op (env' := uL13n109) rfl rfl (v_is true rfl (by rw [beq_iff_eq]; first | omega | exact sp1 (by assumption))) rfl ?_
                  refine L_op (env' := uL13n109) rfl rfl (v_pickF rfl rfl rfl) rfl ?_
                  refine L_op (env' := uL13n109) rfl rfl (v_storeT rfl rfl rfl rfl rfl rfl rfl (by first | exact get_app rfl rfl | exact get_out (by assumption) | assumption | (simp [*]; done)) (by first | exact Nat.le_of_ble_eq_true rfl | (simp only [List.length_map, List.length_cons, List.length_nil]; omega) | omega | (simp; done) | (simp; omega)) (by first | exact set_app rfl | exact set_out (lt_of_get (by assumption)) | rfl)) rfl ?_
                  refine L_nil ?_
                  refine K_seq ?_
                  refine B_ret ?_
                  refine K_blkR ?_
                  refine ⟨(c + 1#64, n + 1, true), rfl, .inr ⟨Code.ret, rfl, ⟨rfl, ?_⟩⟩⟩
                  rfl
              · try simp only [decide_eq_true_eq, decide_eq_false_iff_not, Bool.not_eq_true', Bool.not_eq_false', bne_iff_ne, beq_iff_eq, Bool.and_eq_true, Bool.or_eq_true, Bool.not_eq_true, ge_iff_le, gt_iff_lt, Int.not_le, Int.not_lt, beq_eq_false_iff_ne, bne_eq_false_iff_eq, ne_eq, Decidable.not_not, wd_zero, wd_one, wd_inj] at hc36
                refine B_skip ?_
                refine K_blk ?_
                refine ⟨(c + 1#64, n + 1, false), rfl, .inl ⟨rfl, ?_⟩⟩
                refine ⟨post, by rw [hx, List.append_assoc]; rfl, hA.next (by first | assumption | (intro e; simp_all)), by simp [hn], ?_, rfl⟩
                show n + 1 < 500
                omega
          · try simp only [decide_eq_true_eq, decide_eq_false_iff_not, Bool.not_eq_true', Bool.not_eq_false', bne_iff_ne, beq_iff_eq, Bool.and_eq_true, Bool.or_eq_true, Bool.not_eq_true, ge_iff_le, gt_iff_lt, Int.not_le, Int.not_lt, beq_eq_false_iff_ne, bne_eq_false_iff_eq, ne_eq, Decidable.not_not, wd_zero, wd_one, wd_inj] at hg33
            refine L_off (env' := uL13n109) rfl rfl ?_
            refine L_off (env' := uL13n109) rfl rfl ?_
            refine L_off (env' := uL13n109) rfl rfl ?_
            refine L_op (env' := uL13n109) rfl rfl (v_pickFC (VVal.bool false) rfl rfl rfl) rfl ?_
            refine L_op (env' := uL13n109) rfl rfl (v_pickF rfl rfl rfl) rfl ?_
            refine L_nil ?_
            refine K_seq ?_
            refine B_false rfl rfl ?_
            refine B_skip ?_
            refine K_seq ?_
            refine B_seq ?_
            refine B_region ?_
            refine L_op (env' := uL13n109) rfl rfl (v_move (.inl rfl) rfl) rfl ?_
            refine L_op (env' := uL13n109) rfl rfl (v_addW (b := 1#64) rfl rfl rfl) rfl ?_
            refine L_op (env' := uL13n109) rfl rfl (v_storeT rfl rfl rfl rfl rfl rfl rfl (by first | exact get_app rfl rfl | exact get_out (by assumption) | assumption | (simp [*]; done)) (by first | exact Nat.le_of_ble_eq_true rfl | (simp only [List.length_map, List.length_cons, List.length_nil]; omega) | omega | (simp; done) | (simp; omega)) (by first | exact set_app rfl | exact set_out (lt_of_get (by assumption)) | rfl)) rfl ?_
            refine L_nil ?_
            refine K_seq ?_
            refine B_seq ?_
            refine B_region ?_
            refine L_op (env' := uL13n109) rfl rfl (by first | exact v_loadF rfl rfl rfl rfl (by first | rfl | assumption | exact fget (α := BitVec 64) 0 (by omega) | exact fget (α := Int) 0 (by omega) | exact fget0 (α := BitVec 64) 0 (by omega) | exact fget0 (α := Int) 0 (by omega) | exact fget (α := Bool) false (by omega) | exact fget0 (α := Bool) false (by omega) | (simp [*]; done)) | exact v_load rfl rfl rfl rfl (by first | exact get_app rfl rfl | exact get_out (by assumption) | assumption | (simp [*]; done)) (by first | rfl | assumption | exact fget (α := BitVec 64) 0 (by omega) | exact fget (α := Int) 0 (by omega) | exact fget0 (α := BitVec 64) 0 (by omega) | exact fget0 (α := Int) 0 (by omega) | exact fget (α := Bool) false (by omega) | exact fget0 (α := Bool) false (by omega) | (simp [*]; done))) rfl ?_
            refine L_op (env' := uL13n109) rfl rfl (v_addI rfl rfl rfl (by first | assumption | omega | (simp [*]; done) | (simp at *; omega))) rfl ?_
            refine L_op (env' := uL13n109) rfl rfl (v_storeT rfl rfl rfl rfl rfl rfl rfl (by first | exact get_app rfl rfl | exact get_out (by assumption) | assumption | (simp [*]; done)) (by first | exact Nat.le_of_ble_eq_true rfl | (simp only [List.length_map, List.length_cons, List.length_nil]; omega) | omega | (simp; done) | (simp; omega)) (by first | exact set_app rfl | exact set_out (lt_of_get (by assumption)) | rfl)) rfl ?_
            refine L_nil ?_
            refine K_seq ?_
            refine B_seq ?_
            refine B_region ?_
            refine L_op (env' := uL13n109) rfl rfl (by first | exact v_loadF rfl rfl rfl rfl (by first | rfl | assumption | exact fget (α := BitVec 64) 0 (by omega) | exact fget (α := Int) 0 (by omega) | exact fget0 (α := BitVec 64) 0 (by omega) | exact fget0 (α := Int) 0 (by omega) | exact fget (α := Bool) false (by omega) | exact fget0 (α := Bool) false (by omega) | (simp [*]; done)) | exact v_load rfl rfl rfl rfl (by first | exact get_app rfl rfl | exact get_out (by assumption) | assumption | (simp [*]; done)) (by first | rfl | assumption | exact fget (α := BitVec 64) 0 (by omega) | exact fget (α := Int) 0 (by omega) | exact fget0 (α := BitVec 64) 0 (by omega) | exact fget0 (α := Int) 0 (by omega) | exact fget (α := Bool) false (by omega) | exact fget0 (α := Bool) false (by omega) | (simp [*]; done))) rfl ?_
            refine L_op (env' := uL13n109) rfl rfl (rfl) rfl ?_
            refine L_op (env' := uL13n109) rfl rfl (v_move (.inl rfl) rfl) rfl ?_
            refine L_split 86 (env1 := uL13n109) (env2 := uL13n109) rfl rfl rfl (fun hg38 => ?_) (fun hg38 => ?_)
            · try simp only [decide_eq_true_eq, decide_eq_false_iff_not, Bool.not_eq_true', Bool.not_eq_false', bne_iff_ne, beq_iff_eq, Bool.and_eq_true, Bool.or_eq_true, Bool.not_eq_true, ge_iff_le, gt_iff_lt, Int.not_le, Int.not_lt, beq_eq_false_iff_ne, bne_eq_false_iff_eq, ne_eq, Decidable.not_not, wd_zero, wd_one, wd_inj] at hg38
              refine L_off (env' := uL13n109) rfl rfl ?_
              refine L_off (env' := uL13n109) rfl rfl ?_
              refine L_op (env' := uL13n109) rfl rfl (v_pickTC (VVal.bool true) rfl rfl rfl) rfl ?_
              refine L_nil ?_
              refine K_seq ?_
              refine B_true rfl rfl ?_
              refine B_seq ?_
              refine B_region ?_
              refine L_op (env' := uL13n109) rfl rfl (by first | exact v_loadF rfl rfl rfl rfl (by first | rfl | assumption | exact fget (α := BitVec 64) 0 (by omega) | exact fget (α := Int) 0 (by omega) | exact fget0 (α := BitVec 64) 0 (by omega) | exact fget0 (α := Int) 0 (by omega) | exact fget (α := Bool) false (by omega) | exact fget0 (α := Bool) false (by omega) | (simp [*]; done)) | exact v_load rfl rfl rfl rfl (by first | exact get_app rfl rfl | exact get_out (by assumption) | assumption | (simp [*]; done)) (by first | rfl | assumption | exact fget (α := BitVec 64) 0 (by omega) | exact fget (α := Int) 0 (by omega) | exact fget0 (α := BitVec 64) 0 (by omega) | exact fget0 (α := Int) 0 (by omega) | exact fget (α := Bool) false (by omega) | exact fget0 (α := Bool) false (by omega) | (simp [*]; done))) rfl ?_
              refine L_op (env' := uL13n109) rfl rfl (rfl) rfl ?_
              refine L_op (env' := uL13n109) rfl rfl (v_move (.inl rfl) rfl) rfl ?_
              refine L_split 92 (env1 := uL13n109) (env2 := uL13n109) rfl rfl rfl (fun hg39 => ?_) (fun hg39 => ?_)
              · try simp only [decide_eq_true_eq, decide_eq_false_iff_not, Bool.not_eq_true', Bool.not_eq_false', bne_iff_ne, beq_iff_eq, Bool.and_eq_true, Bool.or_eq_true, Bool.not_eq_true, ge_iff_le, gt_iff_lt, Int.not_le, Int.not_lt, beq_eq_false_iff_ne, bne_eq_false_iff_eq, ne_eq, Decidable.not_not, wd_zero, wd_one, wd_inj] at hg39
                refine L_off (env' := uL13n109) rfl rfl ?_
                refine L_off (env' := uL13n109) rfl rfl ?_
                refine L_op (env' := uL13n109) rfl rfl (v_pickTC (VVal.bool true) rfl rfl rfl) rfl ?_
                refine L_op (env' := uL13n109) rfl rfl (v_storeT rfl rfl rfl rfl rfl rfl rfl (by first | exact get_app rfl rfl | exact get_out (by assumption) | assumption | (simp [*]; done)) (by first | exact Nat.le_of_ble_eq_true rfl | (simp only [List.length_map, List.length_cons, List.length_nil]; omega) | omega | (simp; done) | (simp; omega)) (by first | exact set_app rfl | exact set_out (lt_of_get (by assumption)) | rfl)) rfl ?_
                refine L_nil ?_
                refine K_seq ?_
                refine B_ret ?_
                refine K_blkR ?_
                refine ⟨(c + 1#64, n + 1, true), rfl, .inr ⟨Code.ret, rfl, ⟨rfl, ?_⟩⟩⟩
                rfl
              · try simp only [decide_eq_true_eq, decide_eq_false_iff_not, Bool.not_eq_true', Bool.not_eq_false', bne_iff_ne, beq_iff_eq, Bool.and_eq_true, Bool.or_eq_true, Bool.not_eq_true, ge_iff_le, gt_iff_lt, Int.not_le, Int.not_lt, beq_eq_false_iff_ne, bne_eq_false_iff_eq, ne_eq, Decidable.not_not, wd_zero, wd_one, wd_inj] at hg39
                refine L_op (env' := uL13n109) rfl rfl (v_move (.inl rfl) rfl) rfl ?_
                refine L_op (env' := uL13n109) rfl rfl (v_is true rfl (by rw [beq_iff_eq]; first | omega | exact sp1 (by assumption))) rfl ?_
                refine L_op (env' := uL13n109) rfl rfl (v_pickF rfl rfl rfl) rfl ?_
                refine L_op (env' := uL13n109) rfl rfl (v_storeT rfl rfl rfl rfl rfl rfl rfl (by first | exact get_app rfl rfl | exact get_out (by assumption) | assumption | (simp [*]; done)) (by first | exact Nat.le_of_ble_eq_true rfl | (simp only [List.length_map, List.length_cons, List.length_nil]; omega) | omega | (simp; done) | (simp; omega)) (by first | exact set_app rfl | exact set_out (lt_of_get (by assumption)) | rfl)) rfl ?_
                refine L_nil ?_
                refine K_seq ?_
                refine B_ret ?_
                refine K_blkR ?_
                refine ⟨(c + 1#64, n + 1, true), rfl, .inr ⟨Code.ret, rfl, ⟨rfl, ?_⟩⟩⟩
                rfl
            · try simp only [decide_eq_true_eq, decide_eq_false_iff_not, Bool.not_eq_true', Bool.not_eq_false', bne_iff_ne, beq_iff_eq, Bool.and_eq_true, Bool.or_eq_true, Bool.not_eq_true, ge_iff_le, gt_iff_lt, Int.not_le, Int.not_lt, beq_eq_false_iff_ne, bne_eq_false_iff_eq, ne_eq, Decidable.not_not, wd_zero, wd_one, wd_inj] at hg38
              refine L_op (env' := uL13n109) rfl rfl (by first | exact v_loadF rfl rfl rfl rfl (by first | rfl | assumption | exact fget (α := BitVec 64) 0 (by omega) | exact fget (α := Int) 0 (by omega) | exact fget0 (α := BitVec 64) 0 (by omega) | exact fget0 (α := Int) 0 (by omega) | exact fget (α := Bool) false (by omega) | exact fget0 (α := Bool) false (by omega) | (simp [*]; done)) | exact v_load rfl rfl rfl rfl (by first | exact get_app rfl rfl | exact get_out (by assumption) | assumption | (simp [*]; done)) (by first | rfl | assumption | exact fget (α := BitVec 64) 0 (by omega) | exact fget (α := Int) 0 (by omega) | exact fget0 (α := BitVec 64) 0 (by omega) | exact fget0 (α := Int) 0 (by omega) | exact fget (α := Bool) false (by omega) | exact fget0 (α := Bool) false (by omega) | (simp [*]; done))) rfl ?_
              refine L_op (env' := uL13n109) rfl rfl (rfl) rfl ?_
              refine L_op (env' := uL13n109) rfl rfl (v_pickF rfl rfl rfl) rfl ?_
              refine L_nil ?_
              refine K_seq ?_
              refine B_cond _ rfl (fun hc40 => ?_) (fun hc40 => ?_)
              · try simp only [decide_eq_true_eq, decide_eq_false_iff_not, Bool.not_eq_true', Bool.not_eq_false', bne_iff_ne, beq_iff_eq, Bool.and_eq_true, Bool.or_eq_true, Bool.not_eq_true, ge_iff_le, gt_iff_lt, Int.not_le, Int.not_lt, beq_eq_false_iff_ne, bne_eq_false_iff_eq, ne_eq, Decidable.not_not, wd_zero, wd_one, wd_inj] at hc40
                refine B_seq ?_
                refine B_region ?_
                refine L_op (env' := uL13n109) rfl rfl (by first | exact v_loadF rfl rfl rfl rfl (by first | rfl | assumption | exact fget (α := BitVec 64) 0 (by omega) | exact fget (α := Int) 0 (by omega) | exact fget0 (α := BitVec 64) 0 (by omega) | exact fget0 (α := Int) 0 (by omega) | exact fget (α := Bool) false (by omega) | exact fget0 (α := Bool) false (by omega) | (simp [*]; done)) | exact v_load rfl rfl rfl rfl (by first | exact get_app rfl rfl | exact get_out (by assumption) | assumption | (simp [*]; done)) (by first | rfl | assumption | exact fget (α := BitVec 64) 0 (by omega) | exact fget (α := Int) 0 (by omega) | exact fget0 (α := BitVec 64) 0 (by omega) | exact fget0 (α := Int) 0 (by omega) | exact fget (α := Bool) false (by omega) | exact fget0 (α := Bool) false (by omega) | (simp [*]; done))) rfl ?_
                refine L_op (env' := uL13n109) rfl rfl (rfl) rfl ?_
                refine L_op (env' := uL13n109) rfl rfl (v_move (.inl rfl) rfl) rfl ?_
                refine L_split 92 (env1 := uL13n109) (env2 := uL13n109) rfl rfl rfl (fun hg41 => ?_) (fun hg41 => ?_)
                · try simp only [decide_eq_true_eq, decide_eq_false_iff_not, Bool.not_eq_true', Bool.not_eq_false', bne_iff_ne, beq_iff_eq, Bool.and_eq_true, Bool.or_eq_true, Bool.not_eq_true, ge_iff_le, gt_iff_lt, Int.not_le, Int.not_lt, beq_eq_false_iff_ne, bne_eq_false_iff_eq, ne_eq, Decidable.not_not, wd_zero, wd_one, wd_inj] at hg41
                  refine L_off (env' := uL13n109) rfl rfl ?_
                  refine L_off (env' := uL13n109) rfl rfl ?_
                  refine L_op (env' := uL13n109) rfl rfl (v_pickTC (VVal.bool true) rfl rfl rfl) rfl ?_
                  refine L_op (env' := uL13n109) rfl rfl (v_storeT rfl rfl rfl rfl rfl rfl rfl (by first | exact get_app rfl rfl | exact get_out (by assumption) | assumption | (simp [*]; done)) (by first | exact Nat.le_of_ble_eq_true rfl | (simp only [List.length_map, List.length_cons, List.length_nil]; omega) | omega | (simp; done) | (simp; omega)) (by first | exact set_app rfl | exact set_out (lt_of_get (by assumption)) | rfl)) rfl ?_
                  refine L_nil ?_
                  refine K_seq ?_
                  refine B_ret ?_
                  refine K_blkR ?_
                  refine ⟨(c + 1#64, n + 1, true), rfl, .inr ⟨Code.ret, rfl, ⟨rfl, ?_⟩⟩⟩
                  rfl
                · try simp only [decide_eq_true_eq, decide_eq_false_iff_not, Bool.not_eq_true', Bool.not_eq_false', bne_iff_ne, beq_iff_eq, Bool.and_eq_true, Bool.or_eq_true, Bool.not_eq_true, ge_iff_le, gt_iff_lt, Int.not_le, Int.not_lt, beq_eq_false_iff_ne, bne_eq_false_iff_eq, ne_eq, Decidable.not_not, wd_zero, wd_one, wd_inj] at hg41
                  refine L_op (env' := uL13n109) rfl rfl (v_move (.inl rfl) rfl) rfl ?_
                  refine L_op (env' := uL13n109) rfl rfl (v_is true rfl (by rw [beq_iff_eq]; first | omega | exact sp1 (by assumption))) rfl ?_
                  refine L_op (env' := uL13n109) rfl rfl (v_pickF rfl rfl rfl) rfl ?_
                  refine L_op (env' := uL13n109) rfl rfl (v_storeT rfl rfl rfl rfl rfl rfl rfl (by first | exact get_app rfl rfl | exact get_out (by assumption) | assumption | (simp [*]; done)) (by first | exact Nat.le_of_ble_eq_true rfl | (simp only [List.length_map, List.length_cons, List.length_nil]; omega) | omega | (simp; done) | (simp; omega)) (by first | exact set_app rfl | exact set_out (lt_of_get (by assumption)) | rfl)) rfl ?_
                  refine L_nil ?_
                  refine K_seq ?_
                  refine B_ret ?_
                  refine K_blkR ?_
                  refine ⟨(c + 1#64, n + 1, true), rfl, .inr ⟨Code.ret, rfl, ⟨rfl, ?_⟩⟩⟩
                  rfl
              · try simp only [decide_eq_true_eq, decide_eq_false_iff_not, Bool.not_eq_true', Bool.not_eq_false', bne_iff_ne, beq_iff_eq, Bool.and_eq_true, Bool.or_eq_true, Bool.not_eq_true, ge_iff_le, gt_iff_lt, Int.not_le, Int.not_lt, beq_eq_false_iff_ne, bne_eq_false_iff_eq, ne_eq, Decidable.not_not, wd_zero, wd_one, wd_inj] at hc40
                refine B_skip ?_
                refine K_blk ?_
                refine ⟨(c + 1#64, n + 1, false), rfl, .inl ⟨rfl, ?_⟩⟩
                refine ⟨post, by rw [hx, List.append_assoc]; rfl, hA.next (by first | assumption | (intro e; simp_all)), by simp [hn], ?_, rfl⟩
                show n + 1 < 500
                omega
  · intro s k hk hI
    obtain ⟨aw, n, res⟩ := s
    try dsimp only at hI ⊢
    obtain ⟨q, hq, hA, hn, hn5, rfl⟩ := hI
    obtain rfl : q = [] := by simpa using hq
    have hn0 : 0 < n := by rw [hn]; exact List.length_pos_of_mem ho.dwn_ne
    refine K_blk ?_
    refine K_seq ?_
    refine B_seq ?_
    refine B_block ?_
    refine B_clear (true :: true :: false :: true :: false :: true :: true :: false :: false :: true :: true :: true :: true :: true :: true :: true :: true :: true :: true :: true :: true :: true :: true :: true :: true :: true :: true :: true :: true :: true :: true :: true :: true :: true :: true :: true :: true :: true :: true :: true :: true :: true :: true :: true :: true :: true :: true :: true :: true :: true :: true :: true :: true :: true :: true :: true :: true :: true :: true :: true :: true :: true :: true :: true :: true :: true :: true :: true :: true :: true :: true :: true :: true :: true :: true :: true :: true :: true :: true :: true :: true :: true :: true :: true :: true :: true :: true :: true :: true :: true :: true :: true :: true :: true :: true :: true :: true :: true :: true :: true :: true :: true :: true :: true :: true :: true :: true :: true :: true :: []) (env' := uL13n109) rfl ?_
    refine B_loopE (fun (a1 : BitVec 64) => 4096 - a1.toNat) (fun (a1 : BitVec 64) => []) (fun (a1 : BitVec 64) G => (At m (rch pairs m) [] a1) ∧ G = H ++ [.cells [iI (m : Nat), fzP pairs, iI A, iI B, iW w, fzI pr, iW most] true, .cells [.bool false] true, .cells [refV m (rch pairs m)] true, .cells [iW a1] true, .cells [iI (n : Nat)] true, k]) aw rfl ?_ ?_
    · refine ⟨?_, rfl⟩
      exact hA
    rintro a1 _ ⟨hA1, rfl⟩
    refine B_env (env' := uL13n109) rfl ?_
    refine B_seq ?_
    refine B_seq ?_
    refine B_region ?_
    refine L_op (env' := uL13n109) rfl rfl (by first | exact v_loadF rfl rfl rfl rfl (by first | rfl | assumption | exact fget (α := BitVec 64) 0 (by omega) | exact fget (α := Int) 0 (by omega) | exact fget0 (α := BitVec 64) 0 (by omega) | exact fget0 (α := Int) 0 (by omega) | exact fget (α := Bool) false (by omega) | exact fget0 (α := Bool) false (by omega) | (simp [*]; done)) | exact v_load rfl rfl rfl rfl (by first | exact get_app rfl rfl | exact get_out (by assumption) | assumption | (simp [*]; done)) (by first | rfl | assumption | exact fget (α := BitVec 64) 0 (by omega) | exact fget (α := Int) 0 (by omega) | exact fget0 (α := BitVec 64) 0 (by omega) | exact fget0 (α := Int) 0 (by omega) | exact fget (α := Bool) false (by omega) | exact fget0 (α := Bool) false (by omega) | (simp [*]; done))) rfl ?_
    refine L_op (env' := uL13n109) rfl rfl (rfl) rfl ?_
    refine L_nil ?_
    refine K_seq ?_
    refine B_cond _ rfl (fun hc42 => ?_) (fun hc42 => ?_)
    · try simp only [decide_eq_true_eq, decide_eq_false_iff_not, Bool.not_eq_true', Bool.not_eq_false', bne_iff_ne, beq_iff_eq, Bool.and_eq_true, Bool.or_eq_true, Bool.not_eq_true, ge_iff_le, gt_iff_lt, Int.not_le, Int.not_lt, beq_eq_false_iff_ne, bne_eq_false_iff_eq, ne_eq, Decidable.not_not, wd_zero, wd_one, wd_inj] at hc42
      refine B_skip ?_
      refine K_seq ?_
      refine B_block ?_
      refine B_seq ?_
      refine B_seq ?_
      refine B_region ?_
      refine L_op (env' := uL13n109) rfl rfl (by first | exact v_loadF rfl rfl rfl rfl (by first | rfl | assumption | exact fget (α := BitVec 64) 0 (by omega) | exact fget (α := Int) 0 (by omega) | exact fget0 (α := BitVec 64) 0 (by omega) | exact fget0 (α := Int) 0 (by omega) | exact fget (α := Bool) false (by omega) | exact fget0 (α := Bool) false (by omega) | (simp [*]; done)) | exact v_load rfl rfl rfl rfl (by first | exact get_app rfl rfl | exact get_out (by assumption) | assumption | (simp [*]; done)) (by first | rfl | assumption | exact fget (α := BitVec 64) 0 (by omega) | exact fget (α := Int) 0 (by omega) | exact fget0 (α := BitVec 64) 0 (by omega) | exact fget0 (α := Int) 0 (by omega) | exact fget (α := Bool) false (by omega) | exact fget0 (α := Bool) false (by omega) | (simp [*]; done))) rfl ?_
      refine L_op (env' := uL13n109) rfl rfl (by first | exact v_loadF rfl rfl rfl rfl (by first | rfl | assumption | exact fget (α := BitVec 64) 0 (by omega) | exact fget (α := Int) 0 (by omega) | exact fget0 (α := BitVec 64) 0 (by omega) | exact fget0 (α := Int) 0 (by omega) | exact fget (α := Bool) false (by omega) | exact fget0 (α := Bool) false (by omega) | (simp [*]; done)) | exact v_load rfl rfl rfl rfl (by first | exact get_app rfl rfl | exact get_out (by assumption) | assumption | (simp [*]; done)) (by first | rfl | assumption | exact fget (α := BitVec 64) 0 (by omega) | exact fget (α := Int) 0 (by omega) | exact fget0 (α := BitVec 64) 0 (by omega) | exact fget0 (α := Int) 0 (by omega) | exact fget (α := Bool) false (by omega) | exact fget0 (α := Bool) false (by omega) | (simp [*]; done))) rfl ?_
      refine L_call rfl rfl rfl (by exact refDown_spec _ _ _ hm _) ?_
      rintro v _ ⟨hv, rfl⟩; obtain rfl : v = .bool false := hv.trans (by rw [hA1.no (Nat.le_refl _)])
      refine L_env (env' := uL13n109) rfl ?_
      refine L_nil ?_
      refine K_seq ?_
      refine B_false rfl rfl ?_
      refine B_skip ?_
      refine K_seq ?_
      refine B_region ?_
      refine L_op (env' := uL13n109) rfl rfl (by first | exact v_loadF rfl rfl rfl rfl (by first | rfl | assumption | exact fget (α := BitVec 64) 0 (by omega) | exact fget (α := Int) 0 (by omega) | exact fget0 (α := BitVec 64) 0 (by omega) | exact fget0 (α := Int) 0 (by omega) | exact fget (α := Bool) false (by omega) | exact fget0 (α := Bool) false (by omega) | (simp [*]; done)) | exact v_load rfl rfl rfl rfl (by first | exact get_app rfl rfl | exact get_out (by assumption) | assumption | (simp [*]; done)) (by first | rfl | assumption | exact fget (α := BitVec 64) 0 (by omega) | exact fget (α := Int) 0 (by omega) | exact fget0 (α := BitVec 64) 0 (by omega) | exact fget0 (α := Int) 0 (by omega) | exact fget (α := Bool) false (by omega) | exact fget0 (α := Bool) false (by omega) | (simp [*]; done))) rfl ?_
      refine L_op (env' := uL13n109) rfl rfl (v_addW (b := 1#64) rfl rfl rfl) rfl ?_
      refine L_op (env' := uL13n109) rfl rfl (v_storeT rfl rfl rfl rfl rfl rfl rfl (by first | exact get_app rfl rfl | exact get_out (by assumption) | assumption | (simp [*]; done)) (by first | exact Nat.le_of_ble_eq_true rfl | (simp only [List.length_map, List.length_cons, List.length_nil]; omega) | omega | (simp; done) | (simp; omega)) (by first | exact set_app rfl | exact set_out (lt_of_get (by assumption)) | rfl)) rfl ?_
      refine L_nil ?_
      refine K_blk ?_
      refine K_loop (true :: true :: false :: true :: false :: true :: true :: false :: false :: true :: true :: true :: true :: true :: true :: true :: true :: true :: true :: true :: true :: true :: true :: true :: true :: true :: true :: true :: true :: true :: true :: true :: true :: true :: true :: true :: true :: true :: true :: true :: true :: true :: true :: true :: true :: true :: true :: true :: true :: true :: true :: true :: true :: true :: true :: true :: true :: true :: true :: true :: true :: true :: true :: true :: true :: true :: true :: true :: true :: true :: true :: true :: true :: true :: true :: true :: true :: true :: true :: true :: true :: true :: true :: true :: true :: true :: true :: true :: true :: true :: true :: true :: true :: true :: true :: true :: true :: true :: true :: true :: true :: true :: true :: true :: true :: true :: true :: true :: true :: []) (env' := uL13n109) rfl ⟨(a1 + 1#64), ?_, rfl, ?_⟩
      · have e1 := add_one_nat (a := a1) (by omega); show 4096 - (a1 + 1#64).toNat < 4096 - a1.toNat; omega
      · exact ⟨hA1.up0 (by omega), rfl⟩
    · try simp only [decide_eq_true_eq, decide_eq_false_iff_not, Bool.not_eq_true', Bool.not_eq_false', bne_iff_ne, beq_iff_eq, Bool.and_eq_true, Bool.or_eq_true, Bool.not_eq_true, ge_iff_le, gt_iff_lt, Int.not_le, Int.not_lt, beq_eq_false_iff_ne, bne_eq_false_iff_eq, ne_eq, Decidable.not_not, wd_zero, wd_one, wd_inj] at hc42
      refine B_exit ?_
      refine K_seqX ?_
      refine K_loopX ?_
      refine K_blkX ?_
      refine K_seq ?_
      refine B_seq ?_
      refine B_region ?_
      refine L_op (env' := uL13n109) rfl rfl (by first | exact v_loadF rfl rfl rfl rfl (by first | rfl | assumption | exact fget (α := BitVec 64) 0 (by omega) | exact fget (α := Int) 0 (by omega) | exact fget0 (α := BitVec 64) 0 (by omega) | exact fget0 (α := Int) 0 (by omega) | exact fget (α := Bool) false (by omega) | exact fget0 (α := Bool) false (by omega) | (simp [*]; done)) | exact v_load rfl rfl rfl rfl (by first | exact get_app rfl rfl | exact get_out (by assumption) | assumption | (simp [*]; done)) (by first | rfl | assumption | exact fget (α := BitVec 64) 0 (by omega) | exact fget (α := Int) 0 (by omega) | exact fget0 (α := BitVec 64) 0 (by omega) | exact fget0 (α := Int) 0 (by omega) | exact fget (α := Bool) false (by omega) | exact fget0 (α := Bool) false (by omega) | (simp [*]; done))) rfl ?_
      refine L_op (env' := uL13n109) rfl rfl (v_is true rfl (decide_eq_true (by omega))) rfl ?_
      refine L_op (env' := uL13n109) rfl rfl (v_move (.inl rfl) rfl) rfl ?_
      refine L_op (env' := uL13n109) rfl rfl (by first | exact v_loadF rfl rfl rfl rfl (by first | rfl | assumption | exact fget (α := BitVec 64) 0 (by omega) | exact fget (α := Int) 0 (by omega) | exact fget0 (α := BitVec 64) 0 (by omega) | exact fget0 (α := Int) 0 (by omega) | exact fget (α := Bool) false (by omega) | exact fget0 (α := Bool) false (by omega) | (simp [*]; done)) | exact v_load rfl rfl rfl rfl (by first | exact get_app rfl rfl | exact get_out (by assumption) | assumption | (simp [*]; done)) (by first | rfl | assumption | exact fget (α := BitVec 64) 0 (by omega) | exact fget (α := Int) 0 (by omega) | exact fget0 (α := BitVec 64) 0 (by omega) | exact fget0 (α := Int) 0 (by omega) | exact fget (α := Bool) false (by omega) | exact fget0 (α := Bool) false (by omega) | (simp [*]; done))) rfl ?_
      refine L_op (env' := uL13n109) rfl rfl (v_is true rfl (decide_eq_true (by omega))) rfl ?_
      refine L_op (env' := uL13n109) rfl rfl (v_pickT rfl rfl rfl) rfl ?_
      refine L_op (env' := uL13n109) rfl rfl (v_storeT rfl rfl rfl rfl rfl rfl rfl (by first | exact get_app rfl rfl | exact get_out (by assumption) | assumption | (simp [*]; done)) (by first | exact Nat.le_of_ble_eq_true rfl | (simp only [List.length_map, List.length_cons, List.length_nil]; omega) | omega | (simp; done) | (simp; omega)) (by first | exact set_app rfl | exact set_out (lt_of_get (by assumption)) | rfl)) rfl ?_
      refine L_nil ?_
      refine K_seq ?_
      refine B_ret ?_
      refine E_app (.inr rfl) (vres_cell rfl rfl rfl rfl (by first | exact get_app rfl rfl | exact get_out (by assumption) | assumption | (simp [*]; done)) (by first | rfl | assumption | exact fget (α := BitVec 64) 0 (by omega) | exact fget (α := Int) 0 (by omega) | exact fget0 (α := BitVec 64) 0 (by omega) | exact fget0 (α := Int) 0 (by omega) | exact fget (α := Bool) false (by omega) | exact fget0 (α := Bool) false (by omega) | (simp [*]; done))) (by first | exact BaseOk.refl _ | exact BaseOk.set (BaseOk.refl _) _ rfl) (by simp [VVal.underL, VVal.under, VBlk.under, rows_under, fz_under, rows_under, fz_underI, fzP_under, under_mapW, under_mapI, under_flatP, under_repW, *]) ?_
      exact ⟨rfl, rfl⟩
  · rintro j pre c post s k hk hx (⟨rfl, hX⟩)
    obtain ⟨aw, n, res⟩ := s
    try dsimp only
    have hX : res = true := hX
    subst hX
    refine J_ret ?_
    refine K_blkR ?_
    refine K_seqR ?_
    refine E_app (.inr rfl) (vres_cell rfl rfl rfl rfl (by first | exact get_app rfl rfl | exact get_out (by assumption) | assumption | (simp [*]; done)) (by first | rfl | assumption | exact fget (α := BitVec 64) 0 (by omega) | exact fget (α := Int) 0 (by omega) | exact fget0 (α := BitVec 64) 0 (by omega) | exact fget0 (α := Int) 0 (by omega) | exact fget (α := Bool) false (by omega) | exact fget0 (α := Bool) false (by omega) | (simp [*]; done))) (by first | exact BaseOk.refl _ | exact BaseOk.set (BaseOk.refl _) _ rfl) (by simp [VVal.underL, VVal.under, VBlk.under, rows_under, fz_under, rows_under, fz_underI, fzP_under, under_mapW, under_mapI, under_flatP, under_repW, *]) ?_
    exact ⟨rfl, rfl⟩

theorem OrderDowns_law {x : SW} (N : Int) (pairs : List (Int × Int)) (A B : Int) (w : BitVec 64) (pr : List Int) (most : BitVec 64) (hl : pairs.length * 16 ≤ 140737488351232) : F (psys x) 4 [.agg [iI N, fzP pairs, iI A, iI B, iW w, fzI pr, iW most]] [] fun v G => v = .bool true := by
  have hl : pairs.length * 16 ≤ 140737488355328 := by omega
  rcases new_cases N pairs with ⟨e, h1, h2⟩ | ⟨m, hN, ho, h1, h2⟩
  · exact (OrderDowns_no [] N A B pairs w pr most hl e h1 h2).mono fun v G h => h.1
  · exact (OrderDowns_yes [] N A B pairs w pr most hl m hN ho h1 h2).mono fun v G h => h.1
end Go.Proofs.YteocbhgdmpdklaaDoor.VT
