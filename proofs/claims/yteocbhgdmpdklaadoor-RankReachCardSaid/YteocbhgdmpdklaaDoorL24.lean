/- RankReach: the law -/
import Derived.Test.YteocbhgdmpdklaaDoorR1
import Derived.Test.YteocbhgdmpdklaaDoorS24
import Derived.Test.YteocbhgdmpdklaaDoorV24
set_option autoImplicit false
set_option linter.unusedVariables false
set_option linter.unusedSimpArgs false
set_option maxHeartbeats 4000000
set_option maxRecDepth 100000
namespace Go.Proofs.YteocbhgdmpdklaaDoor.VT
open Go Go.V Go.RowKit

abbrev uL24n264 {a0 a1 a2 a3 a4 a5 a6 a7 a8 a9 a10 a11 a12 a13 a14 a15 a16 a17 a18 a19 a20 a21 a22 a23 a24 a25 a26 a27 a28 a29 a30 a31 a32 a33 a34 a35 a36 a37 a38 a39 a40 a41 a42 a43 a44 a45 a46 a47 a48 a49 a50 a51 a52 a53 a54 a55 a56 a57 a58 a59 a60 a61 a62 a63 a64 a65 a66 a67 a68 a69 a70 a71 a72 a73 a74 a75 a76 a77 a78 a79 a80 a81 a82 a83 a84 a85 a86 a87 a88 a89 a90 a91 a92 a93 a94 a95 a96 a97 a98 a99 a100 a101 a102 a103 a104 a105 a106 a107 a108 a109 a110 a111 a112 a113 a114 a115 a116 a117 a118 a119 a120 a121 a122 a123 a124 a125 a126 a127 a128 a129 a130 a131 a132 a133 a134 a135 a136 a137 a138 a139 a140 a141 a142 a143 a144 a145 a146 a147 a148 a149 a150 a151 a152 a153 a154 a155 a156 a157 a158 a159 a160 a161 a162 a163 a164 a165 a166 a167 a168 a169 a170 a171 a172 a173 a174 a175 a176 a177 a178 a179 a180 a181 a182 a183 a184 a185 a186 a187 a188 a189 a190 a191 a192 a193 a194 a195 a196 a197 a198 a199 a200 a201 a202 a203 a204 a205 a206 a207 a208 a209 a210 a211 a212 a213 a214 a215 a216 a217 a218 a219 a220 a221 a222 a223 a224 a225 a226 a227 a228 a229 a230 a231 a232 a233 a234 a235 a236 a237 a238 a239 a240 a241 a242 a243 a244 a245 a246 a247 a248 a249 a250 a251 a252 a253 a254 a255 a256 a257 a258 a259 a260 a261 a262 a263 : VVal} : VEnv := a0 :: a1 :: a2 :: a3 :: a4 :: a5 :: a6 :: a7 :: a8 :: a9 :: a10 :: a11 :: a12 :: a13 :: a14 :: a15 :: a16 :: a17 :: a18 :: a19 :: a20 :: a21 :: a22 :: a23 :: a24 :: a25 :: a26 :: a27 :: a28 :: a29 :: a30 :: a31 :: a32 :: a33 :: a34 :: a35 :: a36 :: a37 :: a38 :: a39 :: a40 :: a41 :: a42 :: a43 :: a44 :: a45 :: a46 :: a47 :: a48 :: a49 :: a50 :: a51 :: a52 :: a53 :: a54 :: a55 :: a56 :: a57 :: a58 :: a59 :: a60 :: a61 :: a62 :: a63 :: a64 :: a65 :: a66 :: a67 :: a68 :: a69 :: a70 :: a71 :: a72 :: a73 :: a74 :: a75 :: a76 :: a77 :: a78 :: a79 :: a80 :: a81 :: a82 :: a83 :: a84 :: a85 :: a86 :: a87 :: a88 :: a89 :: a90 :: a91 :: a92 :: a93 :: a94 :: a95 :: a96 :: a97 :: a98 :: a99 :: a100 :: a101 :: a102 :: a103 :: a104 :: a105 :: a106 :: a107 :: a108 :: a109 :: a110 :: a111 :: a112 :: a113 :: a114 :: a115 :: a116 :: a117 :: a118 :: a119 :: a120 :: a121 :: a122 :: a123 :: a124 :: a125 :: a126 :: a127 :: a128 :: a129 :: a130 :: a131 :: a132 :: a133 :: a134 :: a135 :: a136 :: a137 :: a138 :: a139 :: a140 :: a141 :: a142 :: a143 :: a144 :: a145 :: a146 :: a147 :: a148 :: a149 :: a150 :: a151 :: a152 :: a153 :: a154 :: a155 :: a156 :: a157 :: a158 :: a159 :: a160 :: a161 :: a162 :: a163 :: a164 :: a165 :: a166 :: a167 :: a168 :: a169 :: a170 :: a171 :: a172 :: a173 :: a174 :: a175 :: a176 :: a177 :: a178 :: a179 :: a180 :: a181 :: a182 :: a183 :: a184 :: a185 :: a186 :: a187 :: a188 :: a189 :: a190 :: a191 :: a192 :: a193 :: a194 :: a195 :: a196 :: a197 :: a198 :: a199 :: a200 :: a201 :: a202 :: a203 :: a204 :: a205 :: a206 :: a207 :: a208 :: a209 :: a210 :: a211 :: a212 :: a213 :: a214 :: a215 :: a216 :: a217 :: a218 :: a219 :: a220 :: a221 :: a222 :: a223 :: a224 :: a225 :: a226 :: a227 :: a228 :: a229 :: a230 :: a231 :: a232 :: a233 :: a234 :: a235 :: a236 :: a237 :: a238 :: a239 :: a240 :: a241 :: a242 :: a243 :: a244 :: a245 :: a246 :: a247 :: a248 :: a249 :: a250 :: a251 :: a252 :: a253 :: a254 :: a255 :: a256 :: a257 :: a258 :: a259 :: a260 :: a261 :: a262 :: a263 :: []

theorem Drop_loc {x : SW} (H L : VHeap) {i : Nat} {J : List (BitVec 64)} (hL : L[i]? = some (rkB J)) (hJ : J.length = 64) (a : Int) : F (psys x) 35 [.ptr (some (H.length + i, 0)), iI a] (H ++ L) fun v G => v = iI (drN J a) ∧ G = H ++ L.set i (rkB (drJ J a)) := by
  have := Drop_spec (x := x) (H ++ L) (H.length + i) J (get_app rfl hL) hJ a
  rw [set_app rfl] at this; exact this
theorem sh_eq {x y : BitVec 64} {a b : Nat} (h : x.getLsbD a = y.getLsbD b) : x >>> a &&& 1#64 = y >>> b &&& 1#64 := by
  cases hy : y.getLsbD b with
  | true => rw [sh1.2 (h.trans hy), sh1.2 hy]
  | false => rw [sh0.2 (h.trans hy), sh0.2 hy]
theorem abv_bit {J : List (BitVec 64)} {a b : Nat} (ha : a < 64) (hb : b < 64) : (abv J (b : Int)).getLsbD a = (spr J (1#64 <<< a)).getLsbD b := by
  unfold abv; rw [wdP_bit ha, decide_eq_true ha, Bool.true_and]
  unfold abP; rw [decide_eq_true (by omega), Bool.true_and]; rfl
theorem tmod3 {a : Nat} : (a : Int).tmod 3 = 0 ↔ a % 3 = 0 := by rw [Int.tmod_eq_emod_of_nonneg (by omega)]; omega
theorem rkBelow_nat {x : SW} (H : VHeap) (p : Nat) (J : List (BitVec 64)) (hp : H[p]? = some (rkB J)) (hJ : J.length = 64) (b : Nat) (hb : b < 64) : F (psys x) 42 [.ptr (some (p, 0)), iI b] H fun v G => v = iW (spr J (1#64 <<< b)) ∧ G = H := by
  have := rkBelow_spec (x := x) H p J hp hJ b
  rw [show blw J (b : Int) = spr J (1#64 <<< b) from by rw [blw, if_pos (by omega)]; rfl] at this
  exact this
theorem bool_f {b : Bool} (h : ¬ b = true) : b = false := by cases b <;> simp_all

theorem RankReach_walk {x : SW} (H : VHeap) (ops : List OpT) (hl : ops.length * 40 ≤ 140737488355328) : F (psys x) 10 [fzO ops] H fun v G => v = .bool true ∧ G = H := by
  refine F_body Tryd.func10 rfl uL24n264 rfl ?_
  refine B_seq ?_
  refine B_region ?_
  refine L_op (env' := uL24n264) rfl rfl (v_const (VVal.bool false) (.inr rfl) rfl) rfl ?_
  refine L_nil ?_
  refine K_seq ?_
  refine B_seq ?_
  refine B_region ?_
  refine L_call rfl rfl rfl (by exact rkNew_loc _ _) ?_
  rintro _ _ ⟨rfl, rfl⟩
  refine L_env (env' := uL24n264) rfl ?_
  refine L_op (env' := uL24n264) rfl rfl (v_move (.inr rfl) rfl) rfl ?_
  refine L_nil ?_
  refine K_seq ?_
  refine B_seq ?_
  refine B_seq ?_
  refine B_region ?_
  refine L_op (env' := uL24n264) rfl rfl (v_move (.inl rfl) rfl) rfl ?_
  refine L_op (env' := uL24n264) rfl rfl (rfl) rfl ?_
  refine L_op (env' := uL24n264) rfl rfl (v_move (.inl rfl) rfl) rfl ?_
  refine L_call rfl rfl rfl (by exact rkWakes_spec _) ?_
  rintro _ _ ⟨rfl, rfl⟩
  refine L_env (env' := uL24n264) rfl ?_
  refine L_op (env' := uL24n264) rfl rfl (rfl) rfl ?_
  refine L_op (env' := uL24n264) rfl rfl (v_pickF rfl rfl rfl) rfl ?_
  refine L_nil ?_
  refine K_seq ?_
  refine B_false rfl rfl ?_
  refine B_skip ?_
  refine K_seq ?_
  refine B_seq ?_
  refine B_seq ?_
  refine B_region ?_
  refine L_op (env' := uL24n264) rfl rfl (v_const (VVal.int .i64 0) (.inr rfl) rfl) rfl ?_
  refine L_nil ?_
  refine K_seq ?_
  refine B_block ?_
  refine B_clear (false :: true :: true :: false :: false :: true :: true :: true :: true :: true :: true :: true :: true :: true :: true :: true :: true :: true :: true :: true :: true :: true :: true :: true :: true :: true :: true :: true :: true :: true :: true :: true :: true :: true :: true :: true :: true :: true :: true :: true :: true :: true :: true :: true :: true :: true :: true :: true :: true :: true :: true :: true :: true :: true :: true :: true :: true :: true :: true :: true :: true :: true :: true :: true :: true :: true :: true :: true :: true :: true :: true :: true :: true :: true :: true :: true :: true :: true :: true :: true :: true :: true :: true :: true :: true :: true :: true :: true :: true :: true :: true :: true :: true :: true :: true :: true :: true :: true :: true :: true :: true :: true :: true :: true :: true :: true :: true :: true :: true :: true :: true :: true :: true :: true :: true :: true :: true :: true :: true :: true :: true :: true :: true :: true :: true :: true :: true :: true :: true :: true :: true :: true :: true :: true :: true :: true :: true :: true :: true :: true :: true :: true :: true :: true :: true :: true :: true :: true :: true :: true :: true :: true :: true :: true :: true :: true :: true :: true :: true :: true :: true :: true :: true :: true :: true :: true :: true :: true :: true :: true :: true :: true :: true :: true :: true :: true :: true :: true :: true :: true :: true :: true :: true :: true :: true :: true :: true :: true :: true :: true :: true :: true :: true :: true :: true :: true :: true :: true :: true :: true :: true :: true :: true :: true :: true :: true :: true :: true :: true :: true :: true :: true :: true :: true :: true :: true :: true :: true :: true :: true :: true :: true :: true :: true :: true :: true :: true :: true :: true :: true :: true :: true :: true :: true :: true :: true :: true :: true :: true :: true :: true :: true :: true :: true :: true :: true :: true :: true :: true :: true :: true :: true :: true :: true :: true :: true :: true :: true :: true :: true :: true :: true :: true :: true :: []) (env' := uL24n264) rfl ?_
  refine B_loopE (fun (⟨J, k⟩ : List (BitVec 64) × Nat) => 120 - k) (fun (⟨J, k⟩ : List (BitVec 64) × Nat) => [(4, iI (k : Nat))]) (fun (⟨J, k⟩ : List (BitVec 64) × Nat) G => (Rk J ∧ k ≤ 120) ∧ G = H ++ [rkB J]) ⟨rk0, 0⟩ rfl ?_ ?_
  · refine ⟨?_, rfl⟩
    exact ⟨Rk.zero, Nat.zero_le _⟩
  rintro ⟨J, k⟩ _ ⟨⟨hR, hk⟩, rfl⟩
  refine B_env (env' := uL24n264) rfl ?_
  refine B_seq ?_
  refine B_seq ?_
  refine B_region ?_
  refine L_op (env' := uL24n264) rfl rfl (v_move (.inl rfl) rfl) rfl ?_
  refine L_op (env' := uL24n264) rfl rfl (v_move (.inl rfl) rfl) rfl ?_
  refine L_op (env' := uL24n264) rfl rfl (rfl) rfl ?_
  refine L_op (env' := uL24n264) rfl rfl (rfl) rfl ?_
  refine L_op (env' := uL24n264) rfl rfl (v_move (.inl rfl) rfl) rfl ?_
  refine L_split 24 (env1 := uL24n264) (env2 := uL24n264) rfl rfl rfl (fun hg1 => ?_) (fun hg1 => ?_)
  · try simp only [decide_eq_true_eq, decide_eq_false_iff_not, Bool.not_eq_true', Bool.not_eq_false', bne_iff_ne, beq_iff_eq, Bool.and_eq_true, Bool.or_eq_true, Bool.not_eq_true, ge_iff_le, gt_iff_lt, Int.not_le, Int.not_lt, beq_eq_false_iff_ne, bne_eq_false_iff_eq, ne_eq, Decidable.not_not, wd_zero, wd_one, wd_inj] at hg1
    refine L_op (env' := uL24n264) rfl rfl (v_move (.inl rfl) rfl) rfl ?_
    refine L_op (env' := uL24n264) rfl rfl (rfl) rfl ?_
    refine L_op (env' := uL24n264) rfl rfl (v_pickT rfl rfl rfl) rfl ?_
    refine L_nil ?_
    refine K_seq ?_
    refine B_cond _ rfl (fun hc2 => ?_) (fun hc2 => ?_)
    · try simp only [decide_eq_true_eq, decide_eq_false_iff_not, Bool.not_eq_true', Bool.not_eq_false', bne_iff_ne, beq_iff_eq, Bool.and_eq_true, Bool.or_eq_true, Bool.not_eq_true, ge_iff_le, gt_iff_lt, Int.not_le, Int.not_lt, beq_eq_false_iff_ne, bne_eq_false_iff_eq, ne_eq, Decidable.not_not, wd_zero, wd_one, wd_inj] at hc2
      refine B_skip ?_
      refine K_seq ?_
      refine B_seq ?_
      refine B_block ?_
      refine B_seq ?_
      refine B_region ?_
      refine L_op (env' := uL24n264) rfl rfl (v_move (.inl rfl) rfl) rfl ?_
      refine L_op (env' := uL24n264) rfl rfl (v_move (.inl rfl) rfl) rfl ?_
      refine L_op (env' := uL24n264) rfl rfl (by first | exact v_idxF rfl rfl rfl rfl rfl rfl rfl (by first | assumption | omega | (simp [*]; done) | (simp at *; omega)) | exact v_idx rfl rfl rfl rfl rfl rfl rfl (by first | assumption | omega | (simp [*]; done) | (simp at *; omega))) rfl ?_
      refine L_op (env' := uL24n264) rfl rfl (rfl) rfl ?_
      refine L_op (env' := uL24n264) rfl rfl (by first | exact v_loadF rfl rfl rfl rfl (by first | exact op_c0 (by omega) | exact op_c1 (by omega) | exact op_c2 (by omega) | exact op_c3 (by omega) | exact op_c4 (by omega) | exact pair_c0 (by omega) | exact pair_c1 (by omega) | rfl) | exact v_load rfl rfl rfl rfl (by first | exact get_app rfl rfl | exact get_out (by assumption) | assumption | (simp [*]; done)) (by first | exact op_c0 (by omega) | exact op_c1 (by omega) | exact op_c2 (by omega) | exact op_c3 (by omega) | exact op_c4 (by omega) | exact pair_c0 (by omega) | exact pair_c1 (by omega) | rfl)) rfl ?_
      refine L_nil ?_
      refine K_seq ?_
      refine B_block ?_
      refine B_seq ?_
      refine B_region ?_
      refine L_op (env' := uL24n264) rfl rfl (rfl) rfl ?_
      refine L_op (env' := uL24n264) rfl rfl (v_move (.inr rfl) rfl) rfl ?_
      refine L_nil ?_
      refine K_seq ?_
      refine B_cond _ rfl (fun hc3 => ?_) (fun hc3 => ?_)
      · try simp only [decide_eq_true_eq, decide_eq_false_iff_not, Bool.not_eq_true', Bool.not_eq_false', bne_iff_ne, beq_iff_eq, Bool.and_eq_true, Bool.or_eq_true, Bool.not_eq_true, ge_iff_le, gt_iff_lt, Int.not_le, Int.not_lt, beq_eq_false_iff_ne, bne_eq_false_iff_eq, ne_eq, Decidable.not_not, wd_zero, wd_one, wd_inj] at hc3
        refine B_draw [0, 1, 2, 3, 4, 5, 6, 7, 8, 9, 10, 11] #[0, 0, 0, 6, 14, 30, 0, 0, 192, 448, 960, 2047] (by kernel_rfl) (by kernel_rfl) (by kernel_rfl) ?_
        refine O_op (env' := uL24n264) (c := .calm) rfl rfl rfl (v_move (.inl rfl) rfl) rfl rfl rfl ?_
        refine O_op (env' := uL24n264) (c := .calm) rfl rfl rfl (v_move (.inl rfl) rfl) rfl rfl rfl ?_
        refine O_op (env' := uL24n264) (c := .calm) rfl rfl rfl (v_move (.inl rfl) rfl) rfl rfl rfl ?_
        refine O_op (env' := uL24n264) (c := .calm) rfl rfl rfl (by first | exact v_idxF rfl rfl rfl rfl rfl rfl rfl (by first | assumption | omega | (simp [*]; done) | (simp at *; omega)) | exact v_idx rfl rfl rfl rfl rfl rfl rfl (by first | assumption | omega | (simp [*]; done) | (simp at *; omega))) rfl rfl rfl ?_
        refine O_op (env' := uL24n264) (c := .calm) rfl rfl rfl (rfl) rfl rfl rfl ?_
        refine O_op (env' := uL24n264) (c := .look) rfl rfl rfl (by first | exact v_loadF rfl rfl rfl rfl (by first | exact op_c0 (by omega) | exact op_c1 (by omega) | exact op_c2 (by omega) | exact op_c3 (by omega) | exact op_c4 (by omega) | exact pair_c0 (by omega) | exact pair_c1 (by omega) | rfl) | exact v_load rfl rfl rfl rfl (by first | exact get_app rfl rfl | exact get_out (by assumption) | assumption | (simp [*]; done)) (by first | exact op_c0 (by omega) | exact op_c1 (by omega) | exact op_c2 (by omega) | exact op_c3 (by omega) | exact op_c4 (by omega) | exact pair_c0 (by omega) | exact pair_c1 (by omega) | rfl)) rfl rfl rfl ?_
        refine O_op (env' := uL24n264) (c := .calm) rfl rfl rfl (v_move (.inl rfl) rfl) rfl rfl rfl ?_
        refine O_op (env' := uL24n264) (c := .calm) rfl rfl rfl (v_move (.inl rfl) rfl) rfl rfl rfl ?_
        refine O_op (env' := uL24n264) (c := .calm) rfl rfl rfl (by first | exact v_idxF rfl rfl rfl rfl rfl rfl rfl (by first | assumption | omega | (simp [*]; done) | (simp at *; omega)) | exact v_idx rfl rfl rfl rfl rfl rfl rfl (by first | assumption | omega | (simp [*]; done) | (simp at *; omega))) rfl rfl rfl ?_
        refine O_op (env' := uL24n264) (c := .calm) rfl rfl rfl (rfl) rfl rfl rfl ?_
        refine O_op (env' := uL24n264) (c := .look) rfl rfl rfl (by first | exact v_loadF rfl rfl rfl rfl (by first | exact op_c0 (by omega) | exact op_c1 (by omega) | exact op_c2 (by omega) | exact op_c3 (by omega) | exact op_c4 (by omega) | exact pair_c0 (by omega) | exact pair_c1 (by omega) | rfl) | exact v_load rfl rfl rfl rfl (by first | exact get_app rfl rfl | exact get_out (by assumption) | assumption | (simp [*]; done)) (by first | exact op_c0 (by omega) | exact op_c1 (by omega) | exact op_c2 (by omega) | exact op_c3 (by omega) | exact op_c4 (by omega) | exact pair_c0 (by omega) | exact pair_c1 (by omega) | rfl)) rfl rfl rfl ?_
        refine O_call (env' := uL24n264) rfl rfl rfl rfl rfl (by exact Over_loc _ _ rfl hR.len _ _) (by first | exact Nat.le_refl _ | simp) rfl rfl ?_
        refine O_nil [] (by kernel_rfl) (trivial) ?_
        refine K_blk ?_
        refine K_blk ?_
        refine K_seq ?_
        refine B_region ?_
        refine L_op (env' := uL24n264) rfl rfl (v_move (.inl rfl) rfl) rfl ?_
        refine L_op (env' := uL24n264) rfl rfl (v_addI rfl rfl rfl (by first | assumption | omega | (simp [*]; done) | (simp at *; omega))) rfl ?_
        refine L_op (env' := uL24n264) rfl rfl (v_move (.inr rfl) rfl) rfl ?_
        refine L_nil ?_
        refine K_loop (false :: true :: true :: false :: false :: true :: true :: true :: true :: true :: true :: true :: true :: true :: true :: true :: true :: true :: true :: true :: true :: true :: true :: true :: true :: true :: true :: true :: true :: true :: true :: true :: true :: true :: true :: true :: true :: true :: true :: true :: true :: true :: true :: true :: true :: true :: true :: true :: true :: true :: true :: true :: true :: true :: true :: true :: true :: true :: true :: true :: true :: true :: true :: true :: true :: true :: true :: true :: true :: true :: true :: true :: true :: true :: true :: true :: true :: true :: true :: true :: true :: true :: true :: true :: true :: true :: true :: true :: true :: true :: true :: true :: true :: true :: true :: true :: true :: true :: true :: true :: true :: true :: true :: true :: true :: true :: true :: true :: true :: true :: true :: true :: true :: true :: true :: true :: true :: true :: true :: true :: true :: true :: true :: true :: true :: true :: true :: true :: true :: true :: true :: true :: true :: true :: true :: true :: true :: true :: true :: true :: true :: true :: true :: true :: true :: true :: true :: true :: true :: true :: true :: true :: true :: true :: true :: true :: true :: true :: true :: true :: true :: true :: true :: true :: true :: true :: true :: true :: true :: true :: true :: true :: true :: true :: true :: true :: true :: true :: true :: true :: true :: true :: true :: true :: true :: true :: true :: true :: true :: true :: true :: true :: true :: true :: true :: true :: true :: true :: true :: true :: true :: true :: true :: true :: true :: true :: true :: true :: true :: true :: true :: true :: true :: true :: true :: true :: true :: true :: true :: true :: true :: true :: true :: true :: true :: true :: true :: true :: true :: true :: true :: true :: true :: true :: true :: true :: true :: true :: true :: true :: true :: true :: true :: true :: true :: true :: true :: true :: true :: true :: true :: true :: true :: true :: true :: true :: true :: true :: true :: true :: true :: true :: true :: true :: []) (env' := uL24n264) rfl ⟨⟨ovJ J (ops.getD k dOp).2.2.1 (ops.getD k dOp).2.2.2.1, k + 1⟩, ?_, rfl, ?_⟩
        · first | omega | (simp only []; omega)
        · first | exact ⟨⟨hR.ovJ, by omega⟩, rfl⟩ | exact ⟨⟨hR.ctJ, by omega⟩, rfl⟩ | exact ⟨⟨hR.drJ, by omega⟩, rfl⟩ | exact ⟨⟨hR, by omega⟩, rfl⟩
      · try simp only [decide_eq_true_eq, decide_eq_false_iff_not, Bool.not_eq_true', Bool.not_eq_false', bne_iff_ne, beq_iff_eq, Bool.and_eq_true, Bool.or_eq_true, Bool.not_eq_true, ge_iff_le, gt_iff_lt, Int.not_le, Int.not_lt, beq_eq_false_iff_ne, bne_eq_false_iff_eq, ne_eq, Decidable.not_not, wd_zero, wd_one, wd_inj] at hc3
        refine B_seq ?_
        refine B_region ?_
        refine L_op (env' := uL24n264) rfl rfl (rfl) rfl ?_
        refine L_op (env' := uL24n264) rfl rfl (v_move (.inr rfl) rfl) rfl ?_
        refine L_nil ?_
        refine K_seq ?_
        refine B_cond _ rfl (fun hc4 => ?_) (fun hc4 => ?_)
        · try simp only [decide_eq_true_eq, decide_eq_false_iff_not, Bool.not_eq_true', Bool.not_eq_false', bne_iff_ne, beq_iff_eq, Bool.and_eq_true, Bool.or_eq_true, Bool.not_eq_true, ge_iff_le, gt_iff_lt, Int.not_le, Int.not_lt, beq_eq_false_iff_ne, bne_eq_false_iff_eq, ne_eq, Decidable.not_not, wd_zero, wd_one, wd_inj] at hc4
          refine B_draw [0, 1, 2, 3, 4, 5, 6, 7, 8, 9, 10, 11] #[0, 0, 0, 6, 14, 30, 0, 0, 192, 448, 960, 2047] (by kernel_rfl) (by kernel_rfl) (by kernel_rfl) ?_
          refine O_op (env' := uL24n264) (c := .calm) rfl rfl rfl (v_move (.inl rfl) rfl) rfl rfl rfl ?_
          refine O_op (env' := uL24n264) (c := .calm) rfl rfl rfl (v_move (.inl rfl) rfl) rfl rfl rfl ?_
          refine O_op (env' := uL24n264) (c := .calm) rfl rfl rfl (v_move (.inl rfl) rfl) rfl rfl rfl ?_
          refine O_op (env' := uL24n264) (c := .calm) rfl rfl rfl (by first | exact v_idxF rfl rfl rfl rfl rfl rfl rfl (by first | assumption | omega | (simp [*]; done) | (simp at *; omega)) | exact v_idx rfl rfl rfl rfl rfl rfl rfl (by first | assumption | omega | (simp [*]; done) | (simp at *; omega))) rfl rfl rfl ?_
          refine O_op (env' := uL24n264) (c := .calm) rfl rfl rfl (rfl) rfl rfl rfl ?_
          refine O_op (env' := uL24n264) (c := .look) rfl rfl rfl (by first | exact v_loadF rfl rfl rfl rfl (by first | exact op_c0 (by omega) | exact op_c1 (by omega) | exact op_c2 (by omega) | exact op_c3 (by omega) | exact op_c4 (by omega) | exact pair_c0 (by omega) | exact pair_c1 (by omega) | rfl) | exact v_load rfl rfl rfl rfl (by first | exact get_app rfl rfl | exact get_out (by assumption) | assumption | (simp [*]; done)) (by first | exact op_c0 (by omega) | exact op_c1 (by omega) | exact op_c2 (by omega) | exact op_c3 (by omega) | exact op_c4 (by omega) | exact pair_c0 (by omega) | exact pair_c1 (by omega) | rfl)) rfl rfl rfl ?_
          refine O_op (env' := uL24n264) (c := .calm) rfl rfl rfl (v_move (.inl rfl) rfl) rfl rfl rfl ?_
          refine O_op (env' := uL24n264) (c := .calm) rfl rfl rfl (v_move (.inl rfl) rfl) rfl rfl rfl ?_
          refine O_op (env' := uL24n264) (c := .calm) rfl rfl rfl (by first | exact v_idxF rfl rfl rfl rfl rfl rfl rfl (by first | assumption | omega | (simp [*]; done) | (simp at *; omega)) | exact v_idx rfl rfl rfl rfl rfl rfl rfl (by first | assumption | omega | (simp [*]; done) | (simp at *; omega))) rfl rfl rfl ?_
          refine O_op (env' := uL24n264) (c := .calm) rfl rfl rfl (rfl) rfl rfl rfl ?_
          refine O_op (env' := uL24n264) (c := .look) rfl rfl rfl (by first | exact v_loadF rfl rfl rfl rfl (by first | exact op_c0 (by omega) | exact op_c1 (by omega) | exact op_c2 (by omega) | exact op_c3 (by omega) | exact op_c4 (by omega) | exact pair_c0 (by omega) | exact pair_c1 (by omega) | rfl) | exact v_load rfl rfl rfl rfl (by first | exact get_app rfl rfl | exact get_out (by assumption) | assumption | (simp [*]; done)) (by first | exact op_c0 (by omega) | exact op_c1 (by omega) | exact op_c2 (by omega) | exact op_c3 (by omega) | exact op_c4 (by omega) | exact pair_c0 (by omega) | exact pair_c1 (by omega) | rfl)) rfl rfl rfl ?_
          refine O_call (env' := uL24n264) rfl rfl rfl rfl rfl (by exact Cut_loc _ _ rfl hR.len _ _) (by first | exact Nat.le_refl _ | simp) rfl rfl ?_
          refine O_nil [] (by kernel_rfl) (trivial) ?_
          refine K_blk ?_
          refine K_blk ?_
          refine K_seq ?_
          refine B_region ?_
          refine L_op (env' := uL24n264) rfl rfl (v_move (.inl rfl) rfl) rfl ?_
          refine L_op (env' := uL24n264) rfl rfl (v_addI rfl rfl rfl (by first | assumption | omega | (simp [*]; done) | (simp at *; omega))) rfl ?_
          refine L_op (env' := uL24n264) rfl rfl (v_move (.inr rfl) rfl) rfl ?_
          refine L_nil ?_
          refine K_loop (false :: true :: true :: false :: false :: true :: true :: true :: true :: true :: true :: true :: true :: true :: true :: true :: true :: true :: true :: true :: true :: true :: true :: true :: true :: true :: true :: true :: true :: true :: true :: true :: true :: true :: true :: true :: true :: true :: true :: true :: true :: true :: true :: true :: true :: true :: true :: true :: true :: true :: true :: true :: true :: true :: true :: true :: true :: true :: true :: true :: true :: true :: true :: true :: true :: true :: true :: true :: true :: true :: true :: true :: true :: true :: true :: true :: true :: true :: true :: true :: true :: true :: true :: true :: true :: true :: true :: true :: true :: true :: true :: true :: true :: true :: true :: true :: true :: true :: true :: true :: true :: true :: true :: true :: true :: true :: true :: true :: true :: true :: true :: true :: true :: true :: true :: true :: true :: true :: true :: true :: true :: true :: true :: true :: true :: true :: true :: true :: true :: true :: true :: true :: true :: true :: true :: true :: true :: true :: true :: true :: true :: true :: true :: true :: true :: true :: true :: true :: true :: true :: true :: true :: true :: true :: true :: true :: true :: true :: true :: true :: true :: true :: true :: true :: true :: true :: true :: true :: true :: true :: true :: true :: true :: true :: true :: true :: true :: true :: true :: true :: true :: true :: true :: true :: true :: true :: true :: true :: true :: true :: true :: true :: true :: true :: true :: true :: true :: true :: true :: true :: true :: true :: true :: true :: true :: true :: true :: true :: true :: true :: true :: true :: true :: true :: true :: true :: true :: true :: true :: true :: true :: true :: true :: true :: true :: true :: true :: true :: true :: true :: true :: true :: true :: true :: true :: true :: true :: true :: true :: true :: true :: true :: true :: true :: true :: true :: true :: true :: true :: true :: true :: true :: true :: true :: true :: true :: true :: true :: true :: true :: true :: true :: true :: true :: []) (env' := uL24n264) rfl ⟨⟨ctJ J (ops.getD k dOp).2.2.1 (ops.getD k dOp).2.2.2.1, k + 1⟩, ?_, rfl, ?_⟩
          · first | omega | (simp only []; omega)
          · first | exact ⟨⟨hR.ovJ, by omega⟩, rfl⟩ | exact ⟨⟨hR.ctJ, by omega⟩, rfl⟩ | exact ⟨⟨hR.drJ, by omega⟩, rfl⟩ | exact ⟨⟨hR, by omega⟩, rfl⟩
        · try simp only [decide_eq_true_eq, decide_eq_false_iff_not, Bool.not_eq_true', Bool.not_eq_false', bne_iff_ne, beq_iff_eq, Bool.and_eq_true, Bool.or_eq_true, Bool.not_eq_true, ge_iff_le, gt_iff_lt, Int.not_le, Int.not_lt, beq_eq_false_iff_ne, bne_eq_false_iff_eq, ne_eq, Decidable.not_not, wd_zero, wd_one, wd_inj] at hc4
          refine B_seq ?_
          refine B_region ?_
          refine L_op (env' := uL24n264) rfl rfl (rfl) rfl ?_
          refine L_op (env' := uL24n264) rfl rfl (v_move (.inr rfl) rfl) rfl ?_
          refine L_nil ?_
          refine K_seq ?_
          refine B_cond _ rfl (fun hc5 => ?_) (fun hc5 => ?_)
          · try simp only [decide_eq_true_eq, decide_eq_false_iff_not, Bool.not_eq_true', Bool.not_eq_false', bne_iff_ne, beq_iff_eq, Bool.and_eq_true, Bool.or_eq_true, Bool.not_eq_true, ge_iff_le, gt_iff_lt, Int.not_le, Int.not_lt, beq_eq_false_iff_ne, bne_eq_false_iff_eq, ne_eq, Decidable.not_not, wd_zero, wd_one, wd_inj] at hc5
            refine B_region ?_
            refine L_op (env' := uL24n264) rfl rfl (v_move (.inl rfl) rfl) rfl ?_
            refine L_op (env' := uL24n264) rfl rfl (v_move (.inl rfl) rfl) rfl ?_
            refine L_op (env' := uL24n264) rfl rfl (v_move (.inl rfl) rfl) rfl ?_
            refine L_op (env' := uL24n264) rfl rfl (by first | exact v_idxF rfl rfl rfl rfl rfl rfl rfl (by first | assumption | omega | (simp [*]; done) | (simp at *; omega)) | exact v_idx rfl rfl rfl rfl rfl rfl rfl (by first | assumption | omega | (simp [*]; done) | (simp at *; omega))) rfl ?_
            refine L_op (env' := uL24n264) rfl rfl (rfl) rfl ?_
            refine L_op (env' := uL24n264) rfl rfl (by first | exact v_loadF rfl rfl rfl rfl (by first | exact op_c0 (by omega) | exact op_c1 (by omega) | exact op_c2 (by omega) | exact op_c3 (by omega) | exact op_c4 (by omega) | exact pair_c0 (by omega) | exact pair_c1 (by omega) | rfl) | exact v_load rfl rfl rfl rfl (by first | exact get_app rfl rfl | exact get_out (by assumption) | assumption | (simp [*]; done)) (by first | exact op_c0 (by omega) | exact op_c1 (by omega) | exact op_c2 (by omega) | exact op_c3 (by omega) | exact op_c4 (by omega) | exact pair_c0 (by omega) | exact pair_c1 (by omega) | rfl)) rfl ?_
            refine L_call rfl rfl rfl (by exact Drop_loc _ _ rfl hR.len _) ?_
            rintro _ _ ⟨rfl, rfl⟩
            refine L_env (env' := uL24n264) rfl ?_
            refine L_nil ?_
            refine K_blk ?_
            refine K_blk ?_
            refine K_seq ?_
            refine B_region ?_
            refine L_op (env' := uL24n264) rfl rfl (v_move (.inl rfl) rfl) rfl ?_
            refine L_op (env' := uL24n264) rfl rfl (v_addI rfl rfl rfl (by first | assumption | omega | (simp [*]; done) | (simp at *; omega))) rfl ?_
            refine L_op (env' := uL24n264) rfl rfl (v_move (.inr rfl) rfl) rfl ?_
            refine L_nil ?_
            refine K_loop (false :: true :: true :: false :: false :: true :: true :: true :: true :: true :: true :: true :: true :: true :: true :: true :: true :: true :: true :: true :: true :: true :: true :: true :: true :: true :: true :: true :: true :: true :: true :: true :: true :: true :: true :: true :: true :: true :: true :: true :: true :: true :: true :: true :: true :: true :: true :: true :: true :: true :: true :: true :: true :: true :: true :: true :: true :: true :: true :: true :: true :: true :: true :: true :: true :: true :: true :: true :: true :: true :: true :: true :: true :: true :: true :: true :: true :: true :: true :: true :: true :: true :: true :: true :: true :: true :: true :: true :: true :: true :: true :: true :: true :: true :: true :: true :: true :: true :: true :: true :: true :: true :: true :: true :: true :: true :: true :: true :: true :: true :: true :: true :: true :: true :: true :: true :: true :: true :: true :: true :: true :: true :: true :: true :: true :: true :: true :: true :: true :: true :: true :: true :: true :: true :: true :: true :: true :: true :: true :: true :: true :: true :: true :: true :: true :: true :: true :: true :: true :: true :: true :: true :: true :: true :: true :: true :: true :: true :: true :: true :: true :: true :: true :: true :: true :: true :: true :: true :: true :: true :: true :: true :: true :: true :: true :: true :: true :: true :: true :: true :: true :: true :: true :: true :: true :: true :: true :: true :: true :: true :: true :: true :: true :: true :: true :: true :: true :: true :: true :: true :: true :: true :: true :: true :: true :: true :: true :: true :: true :: true :: true :: true :: true :: true :: true :: true :: true :: true :: true :: true :: true :: true :: true :: true :: true :: true :: true :: true :: true :: true :: true :: true :: true :: true :: true :: true :: true :: true :: true :: true :: true :: true :: true :: true :: true :: true :: true :: true :: true :: true :: true :: true :: true :: true :: true :: true :: true :: true :: true :: true :: true :: true :: true :: true :: []) (env' := uL24n264) rfl ⟨⟨drJ J (ops.getD k dOp).2.2.1, k + 1⟩, ?_, rfl, ?_⟩
            · first | omega | (simp only []; omega)
            · first | exact ⟨⟨hR.ovJ, by omega⟩, rfl⟩ | exact ⟨⟨hR.ctJ, by omega⟩, rfl⟩ | exact ⟨⟨hR.drJ, by omega⟩, rfl⟩ | exact ⟨⟨hR, by omega⟩, rfl⟩
          · try simp only [decide_eq_true_eq, decide_eq_false_iff_not, Bool.not_eq_true', Bool.not_eq_false', bne_iff_ne, beq_iff_eq, Bool.and_eq_true, Bool.or_eq_true, Bool.not_eq_true, ge_iff_le, gt_iff_lt, Int.not_le, Int.not_lt, beq_eq_false_iff_ne, bne_eq_false_iff_eq, ne_eq, Decidable.not_not, wd_zero, wd_one, wd_inj] at hc5
            refine B_skip ?_
            refine K_blk ?_
            refine K_blk ?_
            refine K_seq ?_
            refine B_region ?_
            refine L_op (env' := uL24n264) rfl rfl (v_move (.inl rfl) rfl) rfl ?_
            refine L_op (env' := uL24n264) rfl rfl (v_addI rfl rfl rfl (by first | assumption | omega | (simp [*]; done) | (simp at *; omega))) rfl ?_
            refine L_op (env' := uL24n264) rfl rfl (v_move (.inr rfl) rfl) rfl ?_
            refine L_nil ?_
            refine K_loop (false :: true :: true :: false :: false :: true :: true :: true :: true :: true :: true :: true :: true :: true :: true :: true :: true :: true :: true :: true :: true :: true :: true :: true :: true :: true :: true :: true :: true :: true :: true :: true :: true :: true :: true :: true :: true :: true :: true :: true :: true :: true :: true :: true :: true :: true :: true :: true :: true :: true :: true :: true :: true :: true :: true :: true :: true :: true :: true :: true :: true :: true :: true :: true :: true :: true :: true :: true :: true :: true :: true :: true :: true :: true :: true :: true :: true :: true :: true :: true :: true :: true :: true :: true :: true :: true :: true :: true :: true :: true :: true :: true :: true :: true :: true :: true :: true :: true :: true :: true :: true :: true :: true :: true :: true :: true :: true :: true :: true :: true :: true :: true :: true :: true :: true :: true :: true :: true :: true :: true :: true :: true :: true :: true :: true :: true :: true :: true :: true :: true :: true :: true :: true :: true :: true :: true :: true :: true :: true :: true :: true :: true :: true :: true :: true :: true :: true :: true :: true :: true :: true :: true :: true :: true :: true :: true :: true :: true :: true :: true :: true :: true :: true :: true :: true :: true :: true :: true :: true :: true :: true :: true :: true :: true :: true :: true :: true :: true :: true :: true :: true :: true :: true :: true :: true :: true :: true :: true :: true :: true :: true :: true :: true :: true :: true :: true :: true :: true :: true :: true :: true :: true :: true :: true :: true :: true :: true :: true :: true :: true :: true :: true :: true :: true :: true :: true :: true :: true :: true :: true :: true :: true :: true :: true :: true :: true :: true :: true :: true :: true :: true :: true :: true :: true :: true :: true :: true :: true :: true :: true :: true :: true :: true :: true :: true :: true :: true :: true :: true :: true :: true :: true :: true :: true :: true :: true :: true :: true :: true :: true :: true :: true :: true :: true :: []) (env' := uL24n264) rfl ⟨⟨J, k + 1⟩, ?_, rfl, ?_⟩
            · first | omega | (simp only []; omega)
            · first | exact ⟨⟨hR.ovJ, by omega⟩, rfl⟩ | exact ⟨⟨hR.ctJ, by omega⟩, rfl⟩ | exact ⟨⟨hR.drJ, by omega⟩, rfl⟩ | exact ⟨⟨hR, by omega⟩, rfl⟩
    · try simp only [decide_eq_true_eq, decide_eq_false_iff_not, Bool.not_eq_true', Bool.not_eq_false', bne_iff_ne, beq_iff_eq, Bool.and_eq_true, Bool.or_eq_true, Bool.not_eq_true, ge_iff_le, gt_iff_lt, Int.not_le, Int.not_lt, beq_eq_false_iff_ne, bne_eq_false_iff_eq, ne_eq, Decidable.not_not, wd_zero, wd_one, wd_inj] at hc2
      refine B_exit ?_
      refine K_seqX ?_
      refine K_loopX ?_
      refine K_blkX ?_
      refine K_seq ?_
      refine B_seq ?_
      refine B_region ?_
      refine L_op (env' := uL24n264) rfl rfl (v_move (.inl rfl) rfl) rfl ?_
      refine L_call rfl rfl rfl (by exact Links_spec _ _ J (get_app rfl rfl) hR.len) ?_
      rintro _ _ ⟨rfl, rfl⟩
      refine L_env (env' := uL24n264) rfl ?_
      refine L_op (env' := uL24n264) rfl rfl (v_move (.inr rfl) rfl) rfl ?_
      refine L_nil ?_
      refine K_seq ?_
      refine B_seq ?_
      refine B_seq ?_
      refine B_region ?_
      refine L_op (env' := uL24n264) rfl rfl (v_const (VVal.int .i64 0) (.inr rfl) rfl) rfl ?_
      refine L_nil ?_
      refine K_seq ?_
      refine B_block ?_
      refine B_clear (true :: true :: true :: false :: true :: false :: false :: true :: true :: true :: true :: true :: true :: true :: true :: true :: true :: true :: true :: true :: true :: true :: true :: true :: true :: true :: true :: true :: true :: true :: true :: true :: true :: true :: true :: true :: true :: true :: true :: true :: true :: true :: true :: true :: true :: true :: true :: true :: true :: true :: true :: true :: true :: true :: true :: true :: true :: true :: true :: true :: true :: true :: true :: true :: true :: true :: true :: true :: true :: true :: true :: true :: true :: true :: true :: true :: true :: true :: true :: true :: true :: true :: true :: true :: true :: true :: true :: true :: true :: true :: true :: true :: true :: true :: true :: true :: true :: true :: true :: true :: true :: true :: true :: true :: true :: true :: true :: true :: true :: true :: true :: true :: true :: true :: true :: true :: true :: true :: true :: true :: true :: true :: true :: true :: true :: true :: true :: true :: true :: true :: true :: true :: true :: true :: true :: true :: true :: true :: true :: true :: true :: true :: true :: true :: true :: true :: true :: true :: true :: true :: true :: true :: true :: true :: true :: true :: true :: true :: true :: true :: true :: true :: true :: true :: true :: true :: true :: true :: true :: true :: true :: true :: true :: true :: true :: true :: true :: true :: true :: true :: true :: true :: true :: true :: true :: true :: true :: true :: true :: true :: true :: true :: true :: true :: true :: true :: true :: true :: true :: true :: true :: true :: true :: true :: true :: true :: true :: true :: true :: true :: true :: true :: true :: true :: true :: true :: true :: true :: true :: true :: true :: true :: true :: true :: true :: true :: true :: true :: true :: true :: true :: true :: true :: true :: true :: true :: true :: true :: true :: true :: true :: true :: true :: true :: true :: true :: true :: true :: true :: true :: true :: true :: true :: true :: true :: true :: true :: true :: true :: true :: true :: true :: true :: true :: []) (env' := uL24n264) rfl ?_
      have hll : (lkL J).length ≤ 4096 := @lkTo_len J 64
      refine B_loopE (fun (i : Nat) => (lkL J).length - i) (fun (i : Nat) => [(6, iI (i : Nat))]) (fun (i : Nat) G => (i ≤ (lkL J).length) ∧ G = H ++ [rkB J]) 0 rfl ?_ ?_
      · refine ⟨?_, rfl⟩
        exact Nat.zero_le _
      rintro i _ ⟨hi, rfl⟩
      refine B_env (env' := uL24n264) rfl ?_
      refine B_seq ?_
      refine B_seq ?_
      refine B_region ?_
      refine L_op (env' := uL24n264) rfl rfl (v_move (.inl rfl) rfl) rfl ?_
      refine L_op (env' := uL24n264) rfl rfl (v_move (.inl rfl) rfl) rfl ?_
      refine L_op (env' := uL24n264) rfl rfl (rfl) rfl ?_
      refine L_op (env' := uL24n264) rfl rfl (rfl) rfl ?_
      refine L_nil ?_
      refine K_seq ?_
      refine B_cond _ rfl (fun hc6 => ?_) (fun hc6 => ?_)
      · try simp only [decide_eq_true_eq, decide_eq_false_iff_not, Bool.not_eq_true', Bool.not_eq_false', bne_iff_ne, beq_iff_eq, Bool.and_eq_true, Bool.or_eq_true, Bool.not_eq_true, ge_iff_le, gt_iff_lt, Int.not_le, Int.not_lt, beq_eq_false_iff_ne, bne_eq_false_iff_eq, ne_eq, Decidable.not_not, wd_zero, wd_one, wd_inj] at hc6
        refine B_skip ?_
        refine K_seq ?_
        refine B_seq ?_
        refine B_block ?_
        refine B_seq ?_
        have hmem := hR.lnk_lt (getD_mem (d := (0, 0)) (show (i : Int).toNat < (lkL J).length by omega))
        have hhas : hasB J ((lkL J).getD (i : Int).toNat (0, 0)).1 ((lkL J).getD (i : Int).toNat (0, 0)).2 = true := by
          unfold hasB; rw [decide_eq_true (by omega), decide_eq_true (by omega), Bool.true_and, Bool.true_and]; exact hmem.2.2.2.2
        have hlex : 0 < i → lexP ((lkL J).getD ((i : Int) - 1).toNat (0, 0)) ((lkL J).getD (i : Int).toNat (0, 0)) := fun h0 => by
          have := lkL_at (J := J) (i := i - 1) (by omega)
          rw [show i - 1 + 1 = i by omega] at this
          rw [show ((i : Int) - 1).toNat = i - 1 by omega]; exact this
        refine B_draw [0, 1, 2, 3, 4, 5, 6, 7, 8, 9, 10, 11, 12, 13, 14, 15, 16, 17, 18, 19, 20, 21, 22, 23, 24, 25, 26, 27, 28, 29, 30, 31, 32, 33, 34, 35, 36, 37, 38, 39, 40, 41, 42, 43, 44, 45, 46, 47, 48, 49, 50, 51, 52, 53, 54, 55, 56, 57, 58, 59, 60, 61, 62, 63, 64, 65, 66, 67, 68, 69, 70, 71, 72, 73, 74, 75, 76, 77, 78, 79, 80, 81, 82, 83, 84, 85, 86, 87, 88, 89, 90, 91] #[0, 0, 3, 7, 15, 31, 63, 127, 127, 511, 1023, 2047, 4095, 8191, 16383, 32767, 32767, 131071, 262143, 524287, 1048575, 2097151, 4194303, 8388607, 8388607, 33554431, 67108863, 134217727, 268435455, 536870911, 1073741823, 2147483647, 2147483647, 2147483647, 15032385535, 32212254719, 66571993087, 2147483647, 2147483647, 414464344063, 964220157951, 2063731785727, 4398046511103, 8796093022207, 17592186044415, 35184372088831, 70368744177663, 140737488355327, 281474976710655, 562949953421311, 562949953421311, 1688849860263935, 4503599627370495, 9007199254740991, 18014398509481983, 562949953421311, 562949953421311, 108649341010313215, 252764529086169087, 540994905237880831, 1152921504606846975, 2305843009213693951, 4611686018427387903, 4611686018427387903, 13835058055282163711, 36893488147419103231, 73786976294838206463, 147573952589676412927, 4611686018427387903, 4611686018427387903, 890055401556485865471, 2070647022273897168895, 4431830263708719775743, 9444732965739290427391, 18889465931478580854783, 37778931862957161709567, 37778931862957161709567, 113336795588871485128703, 302231454903657293676543, 604462909807314587353087, 1208925819614629174706175, 37778931862957161709567, 37778931862957161709567, 7291333849550732209946623, 16962740406467765607596031, 36305553520301832402894847, 77371252455336267181195263, 154742504910672534362390527, 309485009821345068724781055, 618970019642690137449562111, 1237940039285380274899124223, 2475880078570760549798248447] (by kernel_rfl) (by kernel_rfl) (by kernel_rfl) ?_
        refine O_op (env' := uL24n264) (c := .calm) rfl rfl rfl (v_move (.inl rfl) rfl) rfl rfl rfl ?_
        refine O_op (env' := uL24n264) (c := .calm) rfl rfl rfl (v_move (.inl rfl) rfl) rfl rfl rfl ?_
        refine O_op (env' := uL24n264) (c := .calm) rfl rfl rfl (by first | exact v_idxF rfl rfl rfl rfl rfl rfl rfl (by first | assumption | omega | (simp [*]; done) | (simp at *; omega)) | exact v_idx rfl rfl rfl rfl rfl rfl rfl (by first | assumption | omega | (simp [*]; done) | (simp at *; omega))) rfl rfl rfl ?_
        refine O_op (env' := uL24n264) (c := .calm) rfl rfl rfl (by first | exact v_idxFA rfl rfl rfl rfl rfl rfl (by first | assumption | omega | (simp [*]; done) | (simp at *; omega)) | exact v_idxA rfl rfl rfl rfl rfl rfl (by first | assumption | omega | (simp [*]; done) | (simp at *; omega))) rfl rfl rfl ?_
        refine O_op (env' := uL24n264) (c := .look) rfl rfl rfl (by first | exact v_loadF rfl rfl rfl rfl (by first | exact op_c0 (by omega) | exact op_c1 (by omega) | exact op_c2 (by omega) | exact op_c3 (by omega) | exact op_c4 (by omega) | exact pair_c0 (by omega) | exact pair_c1 (by omega) | rfl) | exact v_load rfl rfl rfl rfl (by first | exact get_app rfl rfl | exact get_out (by assumption) | assumption | (simp [*]; done)) (by first | exact op_c0 (by omega) | exact op_c1 (by omega) | exact op_c2 (by omega) | exact op_c3 (by omega) | exact op_c4 (by omega) | exact pair_c0 (by omega) | exact pair_c1 (by omega) | rfl)) rfl rfl rfl ?_
        refine O_op (env' := uL24n264) (c := .calm) rfl rfl rfl (v_is false rfl (decide_eq_false (by omega))) rfl rfl rfl ?_
        refine O_op (env' := uL24n264) (c := .calm) rfl rfl rfl (v_move (.inl rfl) rfl) rfl rfl rfl ?_
        refine O_op (env' := uL24n264) (c := .calm) rfl rfl rfl (v_move (.inl rfl) rfl) rfl rfl rfl ?_
        refine O_op (env' := uL24n264) (c := .calm) rfl rfl rfl (v_move (.inl rfl) rfl) rfl rfl rfl ?_
        refine O_op (env' := uL24n264) (c := .calm) rfl rfl rfl (by first | exact v_idxF rfl rfl rfl rfl rfl rfl rfl (by first | assumption | omega | (simp [*]; done) | (simp at *; omega)) | exact v_idx rfl rfl rfl rfl rfl rfl rfl (by first | assumption | omega | (simp [*]; done) | (simp at *; omega))) rfl rfl rfl ?_
        refine O_op (env' := uL24n264) (c := .calm) rfl rfl rfl (by first | exact v_idxFA rfl rfl rfl rfl rfl rfl (by first | assumption | omega | (simp [*]; done) | (simp at *; omega)) | exact v_idxA rfl rfl rfl rfl rfl rfl (by first | assumption | omega | (simp [*]; done) | (simp at *; omega))) rfl rfl rfl ?_
        refine O_op (env' := uL24n264) (c := .look) rfl rfl rfl (by first | exact v_loadF rfl rfl rfl rfl (by first | exact op_c0 (by omega) | exact op_c1 (by omega) | exact op_c2 (by omega) | exact op_c3 (by omega) | exact op_c4 (by omega) | exact pair_c0 (by omega) | exact pair_c1 (by omega) | rfl) | exact v_load rfl rfl rfl rfl (by first | exact get_app rfl rfl | exact get_out (by assumption) | assumption | (simp [*]; done)) (by first | exact op_c0 (by omega) | exact op_c1 (by omega) | exact op_c2 (by omega) | exact op_c3 (by omega) | exact op_c4 (by omega) | exact pair_c0 (by omega) | exact pair_c1 (by omega) | rfl)) rfl rfl rfl ?_
        refine O_op (env' := uL24n264) (c := .calm) rfl rfl rfl (v_is false rfl (decide_eq_false (by omega))) rfl rfl rfl ?_
        refine O_op (env' := uL24n264) (c := .calm) rfl rfl rfl (v_pickF rfl rfl rfl) rfl rfl rfl ?_
        refine O_op (env' := uL24n264) (c := .calm) rfl rfl rfl (v_move (.inl rfl) rfl) rfl rfl rfl ?_
        refine O_op (env' := uL24n264) (c := .calm) rfl rfl rfl (v_move (.inl rfl) rfl) rfl rfl rfl ?_
        refine O_op (env' := uL24n264) (c := .calm) rfl rfl rfl (v_move (.inl rfl) rfl) rfl rfl rfl ?_
        refine O_op (env' := uL24n264) (c := .calm) rfl rfl rfl (by first | exact v_idxF rfl rfl rfl rfl rfl rfl rfl (by first | assumption | omega | (simp [*]; done) | (simp at *; omega)) | exact v_idx rfl rfl rfl rfl rfl rfl rfl (by first | assumption | omega | (simp [*]; done) | (simp at *; omega))) rfl rfl rfl ?_
        refine O_op (env' := uL24n264) (c := .calm) rfl rfl rfl (by first | exact v_idxFA rfl rfl rfl rfl rfl rfl (by first | assumption | omega | (simp [*]; done) | (simp at *; omega)) | exact v_idxA rfl rfl rfl rfl rfl rfl (by first | assumption | omega | (simp [*]; done) | (simp at *; omega))) rfl rfl rfl ?_
        refine O_op (env' := uL24n264) (c := .look) rfl rfl rfl (by first | exact v_loadF rfl rfl rfl rfl (by first | exact op_c0 (by omega) | exact op_c1 (by omega) | exact op_c2 (by omega) | exact op_c3 (by omega) | exact op_c4 (by omega) | exact pair_c0 (by omega) | exact pair_c1 (by omega) | rfl) | exact v_load rfl rfl rfl rfl (by first | exact get_app rfl rfl | exact get_out (by assumption) | assumption | (simp [*]; done)) (by first | exact op_c0 (by omega) | exact op_c1 (by omega) | exact op_c2 (by omega) | exact op_c3 (by omega) | exact op_c4 (by omega) | exact pair_c0 (by omega) | exact pair_c1 (by omega) | rfl)) rfl rfl rfl ?_
        refine O_op (env' := uL24n264) (c := .calm) rfl rfl rfl (v_is false rfl (decide_eq_false (by omega))) rfl rfl rfl ?_
        refine O_op (env' := uL24n264) (c := .calm) rfl rfl rfl (v_pickF rfl rfl rfl) rfl rfl rfl ?_
        refine O_op (env' := uL24n264) (c := .calm) rfl rfl rfl (v_move (.inl rfl) rfl) rfl rfl rfl ?_
        refine O_op (env' := uL24n264) (c := .calm) rfl rfl rfl (v_move (.inl rfl) rfl) rfl rfl rfl ?_
        refine O_op (env' := uL24n264) (c := .calm) rfl rfl rfl (v_move (.inl rfl) rfl) rfl rfl rfl ?_
        refine O_op (env' := uL24n264) (c := .calm) rfl rfl rfl (by first | exact v_idxF rfl rfl rfl rfl rfl rfl rfl (by first | assumption | omega | (simp [*]; done) | (simp at *; omega)) | exact v_idx rfl rfl rfl rfl rfl rfl rfl (by first | assumption | omega | (simp [*]; done) | (simp at *; omega))) rfl rfl rfl ?_
        refine O_op (env' := uL24n264) (c := .calm) rfl rfl rfl (by first | exact v_idxFA rfl rfl rfl rfl rfl rfl (by first | assumption | omega | (simp [*]; done) | (simp at *; omega)) | exact v_idxA rfl rfl rfl rfl rfl rfl (by first | assumption | omega | (simp [*]; done) | (simp at *; omega))) rfl rfl rfl ?_
        refine O_op (env' := uL24n264) (c := .look) rfl rfl rfl (by first | exact v_loadF rfl rfl rfl rfl (by first | exact op_c0 (by omega) | exact op_c1 (by omega) | exact op_c2 (by omega) | exact op_c3 (by omega) | exact op_c4 (by omega) | exact pair_c0 (by omega) | exact pair_c1 (by omega) | rfl) | exact v_load rfl rfl rfl rfl (by first | exact get_app rfl rfl | exact get_out (by assumption) | assumption | (simp [*]; done)) (by first | exact op_c0 (by omega) | exact op_c1 (by omega) | exact op_c2 (by omega) | exact op_c3 (by omega) | exact op_c4 (by omega) | exact pair_c0 (by omega) | exact pair_c1 (by omega) | rfl)) rfl rfl rfl ?_
        refine O_op (env' := uL24n264) (c := .calm) rfl rfl rfl (v_is false rfl (decide_eq_false (by omega))) rfl rfl rfl ?_
        refine O_op (env' := uL24n264) (c := .calm) rfl rfl rfl (v_pickF rfl rfl rfl) rfl rfl rfl ?_
        refine O_op (env' := uL24n264) (c := .calm) rfl rfl rfl (v_move (.inl rfl) rfl) rfl rfl rfl ?_
        refine O_op (env' := uL24n264) (c := .calm) rfl rfl rfl (v_move (.inl rfl) rfl) rfl rfl rfl ?_
        refine O_op (env' := uL24n264) (c := .calm) rfl rfl rfl (v_move (.inl rfl) rfl) rfl rfl rfl ?_
        refine O_op (env' := uL24n264) (c := .calm) rfl rfl rfl (v_move (.inl rfl) rfl) rfl rfl rfl ?_
        refine O_op (env' := uL24n264) (c := .calm) rfl rfl rfl (by first | exact v_idxF rfl rfl rfl rfl rfl rfl rfl (by first | assumption | omega | (simp [*]; done) | (simp at *; omega)) | exact v_idx rfl rfl rfl rfl rfl rfl rfl (by first | assumption | omega | (simp [*]; done) | (simp at *; omega))) rfl rfl rfl ?_
        refine O_op (env' := uL24n264) (c := .calm) rfl rfl rfl (by first | exact v_idxFA rfl rfl rfl rfl rfl rfl (by first | assumption | omega | (simp [*]; done) | (simp at *; omega)) | exact v_idxA rfl rfl rfl rfl rfl rfl (by first | assumption | omega | (simp [*]; done) | (simp at *; omega))) rfl rfl rfl ?_
        refine O_op (env' := uL24n264) (c := .look) rfl rfl rfl (by first | exact v_loadF rfl rfl rfl rfl (by first | exact op_c0 (by omega) | exact op_c1 (by omega) | exact op_c2 (by omega) | exact op_c3 (by omega) | exact op_c4 (by omega) | exact pair_c0 (by omega) | exact pair_c1 (by omega) | rfl) | exact v_load rfl rfl rfl rfl (by first | exact get_app rfl rfl | exact get_out (by assumption) | assumption | (simp [*]; done)) (by first | exact op_c0 (by omega) | exact op_c1 (by omega) | exact op_c2 (by omega) | exact op_c3 (by omega) | exact op_c4 (by omega) | exact pair_c0 (by omega) | exact pair_c1 (by omega) | rfl)) rfl rfl rfl ?_
        refine O_op (env' := uL24n264) (c := .calm) rfl rfl rfl (v_move (.inl rfl) rfl) rfl rfl rfl ?_
        refine O_op (env' := uL24n264) (c := .calm) rfl rfl rfl (v_move (.inl rfl) rfl) rfl rfl rfl ?_
        refine O_op (env' := uL24n264) (c := .calm) rfl rfl rfl (by first | exact v_idxF rfl rfl rfl rfl rfl rfl rfl (by first | assumption | omega | (simp [*]; done) | (simp at *; omega)) | exact v_idx rfl rfl rfl rfl rfl rfl rfl (by first | assumption | omega | (simp [*]; done) | (simp at *; omega))) rfl rfl rfl ?_
        refine O_op (env' := uL24n264) (c := .calm) rfl rfl rfl (by first | exact v_idxFA rfl rfl rfl rfl rfl rfl (by first | assumption | omega | (simp [*]; done) | (simp at *; omega)) | exact v_idxA rfl rfl rfl rfl rfl rfl (by first | assumption | omega | (simp [*]; done) | (simp at *; omega))) rfl rfl rfl ?_
        refine O_op (env' := uL24n264) (c := .look) rfl rfl rfl (by first | exact v_loadF rfl rfl rfl rfl (by first | exact op_c0 (by omega) | exact op_c1 (by omega) | exact op_c2 (by omega) | exact op_c3 (by omega) | exact op_c4 (by omega) | exact pair_c0 (by omega) | exact pair_c1 (by omega) | rfl) | exact v_load rfl rfl rfl rfl (by first | exact get_app rfl rfl | exact get_out (by assumption) | assumption | (simp [*]; done)) (by first | exact op_c0 (by omega) | exact op_c1 (by omega) | exact op_c2 (by omega) | exact op_c3 (by omega) | exact op_c4 (by omega) | exact pair_c0 (by omega) | exact pair_c1 (by omega) | rfl)) rfl rfl rfl ?_
        refine O_call (env' := uL24n264) rfl rfl rfl rfl rfl (by exact rkHas_spec _ _ J (get_app rfl rfl) hR.len _ _) (by first | exact Nat.le_refl _ | simp) rfl rfl ?_
        refine O_op (env' := uL24n264) (c := .calm) rfl rfl rfl (v_is false rfl (by rw [show hasB J _ _ = true from hhas]; rfl)) rfl rfl rfl ?_
        refine O_op (env' := uL24n264) (c := .calm) rfl rfl rfl (v_pickF rfl rfl rfl) rfl rfl rfl ?_
        refine O_op (env' := uL24n264) (c := .calm) rfl rfl rfl (v_move (.inl rfl) rfl) rfl rfl rfl ?_
        refine O_op (env' := uL24n264) (c := .calm) rfl rfl rfl (v_move (.inl rfl) rfl) rfl rfl rfl ?_
        refine O_op (env' := uL24n264) (c := .calm) rfl rfl rfl (rfl) rfl rfl rfl ?_
        refine O_op (env' := uL24n264) (c := .calm) rfl rfl rfl (v_move (.inl rfl) rfl) rfl rfl rfl ?_
        refine O_split 128 (env1 := uL24n264) (env2 := uL24n264) rfl rfl rfl (fun hg7 => ?_) (fun hg7 => ?_)
        · try simp only [decide_eq_true_eq, decide_eq_false_iff_not, Bool.not_eq_true', Bool.not_eq_false', bne_iff_ne, beq_iff_eq, Bool.and_eq_true, Bool.or_eq_true, Bool.not_eq_true, ge_iff_le, gt_iff_lt, Int.not_le, Int.not_lt, beq_eq_false_iff_ne, bne_eq_false_iff_eq, ne_eq, Decidable.not_not, wd_zero, wd_one, wd_inj] at hg7
          refine O_op (env' := uL24n264) (c := .calm) rfl rfl rfl (v_move (.inl rfl) rfl) rfl rfl rfl ?_
          refine O_op (env' := uL24n264) (c := .calm) rfl rfl rfl (v_move (.inl rfl) rfl) rfl rfl rfl ?_
          refine O_op (env' := uL24n264) (c := .calm) rfl rfl rfl (v_subI rfl rfl rfl (by first | assumption | omega | (simp [*]; done) | (simp at *; omega))) rfl rfl rfl ?_
          refine O_op (env' := uL24n264) (c := .calm) rfl rfl rfl (by first | exact v_idxF rfl rfl rfl rfl rfl rfl rfl (by first | assumption | omega | (simp [*]; done) | (simp at *; omega)) | exact v_idx rfl rfl rfl rfl rfl rfl rfl (by first | assumption | omega | (simp [*]; done) | (simp at *; omega))) rfl rfl rfl ?_
          refine O_op (env' := uL24n264) (c := .calm) rfl rfl rfl (by first | exact v_idxFA rfl rfl rfl rfl rfl rfl (by first | assumption | omega | (simp [*]; done) | (simp at *; omega)) | exact v_idxA rfl rfl rfl rfl rfl rfl (by first | assumption | omega | (simp [*]; done) | (simp at *; omega))) rfl rfl rfl ?_
          refine O_op (env' := uL24n264) (c := .look) rfl rfl rfl (by first | exact v_loadF rfl rfl rfl rfl (by first | exact op_c0 (by omega) | exact op_c1 (by omega) | exact op_c2 (by omega) | exact op_c3 (by omega) | exact op_c4 (by omega) | exact pair_c0 (by omega) | exact pair_c1 (by omega) | rfl) | exact v_load rfl rfl rfl rfl (by first | exact get_app rfl rfl | exact get_out (by assumption) | assumption | (simp [*]; done)) (by first | exact op_c0 (by omega) | exact op_c1 (by omega) | exact op_c2 (by omega) | exact op_c3 (by omega) | exact op_c4 (by omega) | exact pair_c0 (by omega) | exact pair_c1 (by omega) | rfl)) rfl rfl rfl ?_
          refine O_op (env' := uL24n264) (c := .calm) rfl rfl rfl (v_move (.inl rfl) rfl) rfl rfl rfl ?_
          refine O_op (env' := uL24n264) (c := .calm) rfl rfl rfl (v_move (.inl rfl) rfl) rfl rfl rfl ?_
          refine O_op (env' := uL24n264) (c := .calm) rfl rfl rfl (by first | exact v_idxF rfl rfl rfl rfl rfl rfl rfl (by first | assumption | omega | (simp [*]; done) | (simp at *; omega)) | exact v_idx rfl rfl rfl rfl rfl rfl rfl (by first | assumption | omega | (simp [*]; done) | (simp at *; omega))) rfl rfl rfl ?_
          refine O_op (env' := uL24n264) (c := .calm) rfl rfl rfl (by first | exact v_idxFA rfl rfl rfl rfl rfl rfl (by first | assumption | omega | (simp [*]; done) | (simp at *; omega)) | exact v_idxA rfl rfl rfl rfl rfl rfl (by first | assumption | omega | (simp [*]; done) | (simp at *; omega))) rfl rfl rfl ?_
          refine O_op (env' := uL24n264) (c := .look) rfl rfl rfl (by first | exact v_loadF rfl rfl rfl rfl (by first | exact op_c0 (by omega) | exact op_c1 (by omega) | exact op_c2 (by omega) | exact op_c3 (by omega) | exact op_c4 (by omega) | exact pair_c0 (by omega) | exact pair_c1 (by omega) | rfl) | exact v_load rfl rfl rfl rfl (by first | exact get_app rfl rfl | exact get_out (by assumption) | assumption | (simp [*]; done)) (by first | exact op_c0 (by omega) | exact op_c1 (by omega) | exact op_c2 (by omega) | exact op_c3 (by omega) | exact op_c4 (by omega) | exact pair_c0 (by omega) | exact pair_c1 (by omega) | rfl)) rfl rfl rfl ?_
          refine O_op (env' := uL24n264) (c := .calm) rfl rfl rfl (rfl) rfl rfl rfl ?_
          refine O_op (env' := uL24n264) (c := .calm) rfl rfl rfl (v_move (.inl rfl) rfl) rfl rfl rfl ?_
          refine O_split 141 (env1 := uL24n264) (env2 := uL24n264) rfl rfl rfl (fun hg8 => ?_) (fun hg8 => ?_)
          · try simp only [decide_eq_true_eq, decide_eq_false_iff_not, Bool.not_eq_true', Bool.not_eq_false', bne_iff_ne, beq_iff_eq, Bool.and_eq_true, Bool.or_eq_true, Bool.not_eq_true, ge_iff_le, gt_iff_lt, Int.not_le, Int.not_lt, beq_eq_false_iff_ne, bne_eq_false_iff_eq, ne_eq, Decidable.not_not, wd_zero, wd_one, wd_inj] at hg8
            refine O_off (env' := uL24n264) rfl rfl rfl rfl ?_
            refine O_off (env' := uL24n264) rfl rfl rfl rfl ?_
            refine O_off (env' := uL24n264) rfl rfl rfl rfl ?_
            refine O_off (env' := uL24n264) rfl rfl rfl rfl ?_
            refine O_off (env' := uL24n264) rfl rfl rfl rfl ?_
            refine O_off (env' := uL24n264) rfl rfl rfl rfl ?_
            refine O_off (env' := uL24n264) rfl rfl rfl rfl ?_
            refine O_off (env' := uL24n264) rfl rfl rfl rfl ?_
            refine O_off (env' := uL24n264) rfl rfl rfl rfl ?_
            refine O_off (env' := uL24n264) rfl rfl rfl rfl ?_
            refine O_off (env' := uL24n264) rfl rfl rfl rfl ?_
            refine O_off (env' := uL24n264) rfl rfl rfl rfl ?_
            refine O_off (env' := uL24n264) rfl rfl rfl rfl ?_
            refine O_off (env' := uL24n264) rfl rfl rfl rfl ?_
            refine O_off (env' := uL24n264) rfl rfl rfl rfl ?_
            refine O_off (env' := uL24n264) rfl rfl rfl rfl ?_
            refine O_off (env' := uL24n264) rfl rfl rfl rfl ?_
            refine O_off (env' := uL24n264) rfl rfl rfl rfl ?_
            refine O_off (env' := uL24n264) rfl rfl rfl rfl ?_
            refine O_off (env' := uL24n264) rfl rfl rfl rfl ?_
            refine O_off (env' := uL24n264) rfl rfl rfl rfl ?_
            refine O_off (env' := uL24n264) rfl rfl rfl rfl ?_
            refine O_off (env' := uL24n264) rfl rfl rfl rfl ?_
            refine O_off (env' := uL24n264) rfl rfl rfl rfl ?_
            refine O_off (env' := uL24n264) rfl rfl rfl rfl ?_
            refine O_off (env' := uL24n264) rfl rfl rfl rfl ?_
            refine O_op (env' := uL24n264) (c := .calm) rfl rfl rfl (v_pickTC (VVal.bool true) rfl rfl rfl) rfl rfl rfl ?_
            refine O_op (env' := uL24n264) (c := .calm) rfl rfl rfl (rfl) rfl rfl rfl ?_
            refine O_op (env' := uL24n264) (c := .calm) rfl rfl rfl (v_pickT rfl rfl rfl) rfl rfl rfl ?_
            refine O_op (env' := uL24n264) (c := .calm) rfl rfl rfl (v_pickF rfl rfl rfl) rfl rfl rfl ?_
            refine O_nil [] (by kernel_rfl) (trivial) ?_
            refine K_seq ?_
            refine B_false rfl rfl ?_
            refine B_skip ?_
            refine K_blk ?_
            refine K_seq ?_
            refine B_region ?_
            refine L_op (env' := uL24n264) rfl rfl (v_move (.inl rfl) rfl) rfl ?_
            refine L_op (env' := uL24n264) rfl rfl (v_addI rfl rfl rfl (by first | assumption | omega | (simp [*]; done) | (simp at *; omega))) rfl ?_
            refine L_op (env' := uL24n264) rfl rfl (v_move (.inr rfl) rfl) rfl ?_
            refine L_nil ?_
            refine K_loop (true :: true :: true :: false :: true :: false :: false :: true :: true :: true :: true :: true :: true :: true :: true :: true :: true :: true :: true :: true :: true :: true :: true :: true :: true :: true :: true :: true :: true :: true :: true :: true :: true :: true :: true :: true :: true :: true :: true :: true :: true :: true :: true :: true :: true :: true :: true :: true :: true :: true :: true :: true :: true :: true :: true :: true :: true :: true :: true :: true :: true :: true :: true :: true :: true :: true :: true :: true :: true :: true :: true :: true :: true :: true :: true :: true :: true :: true :: true :: true :: true :: true :: true :: true :: true :: true :: true :: true :: true :: true :: true :: true :: true :: true :: true :: true :: true :: true :: true :: true :: true :: true :: true :: true :: true :: true :: true :: true :: true :: true :: true :: true :: true :: true :: true :: true :: true :: true :: true :: true :: true :: true :: true :: true :: true :: true :: true :: true :: true :: true :: true :: true :: true :: true :: true :: true :: true :: true :: true :: true :: true :: true :: true :: true :: true :: true :: true :: true :: true :: true :: true :: true :: true :: true :: true :: true :: true :: true :: true :: true :: true :: true :: true :: true :: true :: true :: true :: true :: true :: true :: true :: true :: true :: true :: true :: true :: true :: true :: true :: true :: true :: true :: true :: true :: true :: true :: true :: true :: true :: true :: true :: true :: true :: true :: true :: true :: true :: true :: true :: true :: true :: true :: true :: true :: true :: true :: true :: true :: true :: true :: true :: true :: true :: true :: true :: true :: true :: true :: true :: true :: true :: true :: true :: true :: true :: true :: true :: true :: true :: true :: true :: true :: true :: true :: true :: true :: true :: true :: true :: true :: true :: true :: true :: true :: true :: true :: true :: true :: true :: true :: true :: true :: true :: true :: true :: true :: true :: true :: true :: true :: true :: true :: true :: true :: []) (env' := uL24n264) rfl ⟨i + 1, ?_, rfl, ?_⟩
            · first | omega | (simp only []; omega)
            · exact ⟨by omega, rfl⟩
          · try simp only [decide_eq_true_eq, decide_eq_false_iff_not, Bool.not_eq_true', Bool.not_eq_false', bne_iff_ne, beq_iff_eq, Bool.and_eq_true, Bool.or_eq_true, Bool.not_eq_true, ge_iff_le, gt_iff_lt, Int.not_le, Int.not_lt, beq_eq_false_iff_ne, bne_eq_false_iff_eq, ne_eq, Decidable.not_not, wd_zero, wd_one, wd_inj] at hg8
            refine O_op (env' := uL24n264) (c := .calm) rfl rfl rfl (v_move (.inl rfl) rfl) rfl rfl rfl ?_
            refine O_op (env' := uL24n264) (c := .calm) rfl rfl rfl (v_move (.inl rfl) rfl) rfl rfl rfl ?_
            refine O_op (env' := uL24n264) (c := .calm) rfl rfl rfl (v_subI rfl rfl rfl (by first | assumption | omega | (simp [*]; done) | (simp at *; omega))) rfl rfl rfl ?_
            refine O_op (env' := uL24n264) (c := .calm) rfl rfl rfl (by first | exact v_idxF rfl rfl rfl rfl rfl rfl rfl (by first | assumption | omega | (simp [*]; done) | (simp at *; omega)) | exact v_idx rfl rfl rfl rfl rfl rfl rfl (by first | assumption | omega | (simp [*]; done) | (simp at *; omega))) rfl rfl rfl ?_
            refine O_op (env' := uL24n264) (c := .calm) rfl rfl rfl (by first | exact v_idxFA rfl rfl rfl rfl rfl rfl (by first | assumption | omega | (simp [*]; done) | (simp at *; omega)) | exact v_idxA rfl rfl rfl rfl rfl rfl (by first | assumption | omega | (simp [*]; done) | (simp at *; omega))) rfl rfl rfl ?_
            refine O_op (env' := uL24n264) (c := .look) rfl rfl rfl (by first | exact v_loadF rfl rfl rfl rfl (by first | exact op_c0 (by omega) | exact op_c1 (by omega) | exact op_c2 (by omega) | exact op_c3 (by omega) | exact op_c4 (by omega) | exact pair_c0 (by omega) | exact pair_c1 (by omega) | rfl) | exact v_load rfl rfl rfl rfl (by first | exact get_app rfl rfl | exact get_out (by assumption) | assumption | (simp [*]; done)) (by first | exact op_c0 (by omega) | exact op_c1 (by omega) | exact op_c2 (by omega) | exact op_c3 (by omega) | exact op_c4 (by omega) | exact pair_c0 (by omega) | exact pair_c1 (by omega) | rfl)) rfl rfl rfl ?_
            refine O_op (env' := uL24n264) (c := .calm) rfl rfl rfl (v_move (.inl rfl) rfl) rfl rfl rfl ?_
            refine O_op (env' := uL24n264) (c := .calm) rfl rfl rfl (v_move (.inl rfl) rfl) rfl rfl rfl ?_
            refine O_op (env' := uL24n264) (c := .calm) rfl rfl rfl (by first | exact v_idxF rfl rfl rfl rfl rfl rfl rfl (by first | assumption | omega | (simp [*]; done) | (simp at *; omega)) | exact v_idx rfl rfl rfl rfl rfl rfl rfl (by first | assumption | omega | (simp [*]; done) | (simp at *; omega))) rfl rfl rfl ?_
            refine O_op (env' := uL24n264) (c := .calm) rfl rfl rfl (by first | exact v_idxFA rfl rfl rfl rfl rfl rfl (by first | assumption | omega | (simp [*]; done) | (simp at *; omega)) | exact v_idxA rfl rfl rfl rfl rfl rfl (by first | assumption | omega | (simp [*]; done) | (simp at *; omega))) rfl rfl rfl ?_
            refine O_op (env' := uL24n264) (c := .look) rfl rfl rfl (by first | exact v_loadF rfl rfl rfl rfl (by first | exact op_c0 (by omega) | exact op_c1 (by omega) | exact op_c2 (by omega) | exact op_c3 (by omega) | exact op_c4 (by omega) | exact pair_c0 (by omega) | exact pair_c1 (by omega) | rfl) | exact v_load rfl rfl rfl rfl (by first | exact get_app rfl rfl | exact get_out (by assumption) | assumption | (simp [*]; done)) (by first | exact op_c0 (by omega) | exact op_c1 (by omega) | exact op_c2 (by omega) | exact op_c3 (by omega) | exact op_c4 (by omega) | exact pair_c0 (by omega) | exact pair_c1 (by omega) | rfl)) rfl rfl rfl ?_
            refine O_op (env' := uL24n264) (c := .calm) rfl rfl rfl (v_is true rfl (by rw [beq_iff_eq]; have hq := hlex (by omega); unfold lexP at hq; omega)) rfl rfl rfl ?_
            refine O_op (env' := uL24n264) (c := .calm) rfl rfl rfl (v_move (.inl rfl) rfl) rfl rfl rfl ?_
            refine O_op (env' := uL24n264) (c := .calm) rfl rfl rfl (v_move (.inl rfl) rfl) rfl rfl rfl ?_
            refine O_op (env' := uL24n264) (c := .calm) rfl rfl rfl (v_move (.inl rfl) rfl) rfl rfl rfl ?_
            refine O_op (env' := uL24n264) (c := .calm) rfl rfl rfl (v_subI rfl rfl rfl (by first | assumption | omega | (simp [*]; done) | (simp at *; omega))) rfl rfl rfl ?_
            refine O_op (env' := uL24n264) (c := .calm) rfl rfl rfl (by first | exact v_idxF rfl rfl rfl rfl rfl rfl rfl (by first | assumption | omega | (simp [*]; done) | (simp at *; omega)) | exact v_idx rfl rfl rfl rfl rfl rfl rfl (by first | assumption | omega | (simp [*]; done) | (simp at *; omega))) rfl rfl rfl ?_
            refine O_op (env' := uL24n264) (c := .calm) rfl rfl rfl (by first | exact v_idxFA rfl rfl rfl rfl rfl rfl (by first | assumption | omega | (simp [*]; done) | (simp at *; omega)) | exact v_idxA rfl rfl rfl rfl rfl rfl (by first | assumption | omega | (simp [*]; done) | (simp at *; omega))) rfl rfl rfl ?_
            refine O_op (env' := uL24n264) (c := .look) rfl rfl rfl (by first | exact v_loadF rfl rfl rfl rfl (by first | exact op_c0 (by omega) | exact op_c1 (by omega) | exact op_c2 (by omega) | exact op_c3 (by omega) | exact op_c4 (by omega) | exact pair_c0 (by omega) | exact pair_c1 (by omega) | rfl) | exact v_load rfl rfl rfl rfl (by first | exact get_app rfl rfl | exact get_out (by assumption) | assumption | (simp [*]; done)) (by first | exact op_c0 (by omega) | exact op_c1 (by omega) | exact op_c2 (by omega) | exact op_c3 (by omega) | exact op_c4 (by omega) | exact pair_c0 (by omega) | exact pair_c1 (by omega) | rfl)) rfl rfl rfl ?_
            refine O_op (env' := uL24n264) (c := .calm) rfl rfl rfl (v_move (.inl rfl) rfl) rfl rfl rfl ?_
            refine O_op (env' := uL24n264) (c := .calm) rfl rfl rfl (v_move (.inl rfl) rfl) rfl rfl rfl ?_
            refine O_op (env' := uL24n264) (c := .calm) rfl rfl rfl (by first | exact v_idxF rfl rfl rfl rfl rfl rfl rfl (by first | assumption | omega | (simp [*]; done) | (simp at *; omega)) | exact v_idx rfl rfl rfl rfl rfl rfl rfl (by first | assumption | omega | (simp [*]; done) | (simp at *; omega))) rfl rfl rfl ?_
            refine O_op (env' := uL24n264) (c := .calm) rfl rfl rfl (by first | exact v_idxFA rfl rfl rfl rfl rfl rfl (by first | assumption | omega | (simp [*]; done) | (simp at *; omega)) | exact v_idxA rfl rfl rfl rfl rfl rfl (by first | assumption | omega | (simp [*]; done) | (simp at *; omega))) rfl rfl rfl ?_
            refine O_op (env' := uL24n264) (c := .look) rfl rfl rfl (by first | exact v_loadF rfl rfl rfl rfl (by first | exact op_c0 (by omega) | exact op_c1 (by omega) | exact op_c2 (by omega) | exact op_c3 (by omega) | exact op_c4 (by omega) | exact pair_c0 (by omega) | exact pair_c1 (by omega) | rfl) | exact v_load rfl rfl rfl rfl (by first | exact get_app rfl rfl | exact get_out (by assumption) | assumption | (simp [*]; done)) (by first | exact op_c0 (by omega) | exact op_c1 (by omega) | exact op_c2 (by omega) | exact op_c3 (by omega) | exact op_c4 (by omega) | exact pair_c0 (by omega) | exact pair_c1 (by omega) | rfl)) rfl rfl rfl ?_
            refine O_op (env' := uL24n264) (c := .calm) rfl rfl rfl (v_is true rfl (decide_eq_true (by have hq := hlex (by omega); unfold lexP at hq; omega))) rfl rfl rfl ?_
            refine O_op (env' := uL24n264) (c := .calm) rfl rfl rfl (v_pickT rfl rfl rfl) rfl rfl rfl ?_
            refine O_op (env' := uL24n264) (c := .calm) rfl rfl rfl (v_pickF rfl rfl rfl) rfl rfl rfl ?_
            refine O_op (env' := uL24n264) (c := .calm) rfl rfl rfl (rfl) rfl rfl rfl ?_
            refine O_op (env' := uL24n264) (c := .calm) rfl rfl rfl (v_pickT rfl rfl rfl) rfl rfl rfl ?_
            refine O_op (env' := uL24n264) (c := .calm) rfl rfl rfl (v_pickF rfl rfl rfl) rfl rfl rfl ?_
            refine O_nil [] (by kernel_rfl) (trivial) ?_
            refine K_seq ?_
            refine B_false rfl rfl ?_
            refine B_skip ?_
            refine K_blk ?_
            refine K_seq ?_
            refine B_region ?_
            refine L_op (env' := uL24n264) rfl rfl (v_move (.inl rfl) rfl) rfl ?_
            refine L_op (env' := uL24n264) rfl rfl (v_addI rfl rfl rfl (by first | assumption | omega | (simp [*]; done) | (simp at *; omega))) rfl ?_
            refine L_op (env' := uL24n264) rfl rfl (v_move (.inr rfl) rfl) rfl ?_
            refine L_nil ?_
            refine K_loop (true :: true :: true :: false :: true :: false :: false :: true :: true :: true :: true :: true :: true :: true :: true :: true :: true :: true :: true :: true :: true :: true :: true :: true :: true :: true :: true :: true :: true :: true :: true :: true :: true :: true :: true :: true :: true :: true :: true :: true :: true :: true :: true :: true :: true :: true :: true :: true :: true :: true :: true :: true :: true :: true :: true :: true :: true :: true :: true :: true :: true :: true :: true :: true :: true :: true :: true :: true :: true :: true :: true :: true :: true :: true :: true :: true :: true :: true :: true :: true :: true :: true :: true :: true :: true :: true :: true :: true :: true :: true :: true :: true :: true :: true :: true :: true :: true :: true :: true :: true :: true :: true :: true :: true :: true :: true :: true :: true :: true :: true :: true :: true :: true :: true :: true :: true :: true :: true :: true :: true :: true :: true :: true :: true :: true :: true :: true :: true :: true :: true :: true :: true :: true :: true :: true :: true :: true :: true :: true :: true :: true :: true :: true :: true :: true :: true :: true :: true :: true :: true :: true :: true :: true :: true :: true :: true :: true :: true :: true :: true :: true :: true :: true :: true :: true :: true :: true :: true :: true :: true :: true :: true :: true :: true :: true :: true :: true :: true :: true :: true :: true :: true :: true :: true :: true :: true :: true :: true :: true :: true :: true :: true :: true :: true :: true :: true :: true :: true :: true :: true :: true :: true :: true :: true :: true :: true :: true :: true :: true :: true :: true :: true :: true :: true :: true :: true :: true :: true :: true :: true :: true :: true :: true :: true :: true :: true :: true :: true :: true :: true :: true :: true :: true :: true :: true :: true :: true :: true :: true :: true :: true :: true :: true :: true :: true :: true :: true :: true :: true :: true :: true :: true :: true :: true :: true :: true :: true :: true :: true :: true :: true :: true :: true :: true :: []) (env' := uL24n264) rfl ⟨i + 1, ?_, rfl, ?_⟩
            · first | omega | (simp only []; omega)
            · exact ⟨by omega, rfl⟩
        · try simp only [decide_eq_true_eq, decide_eq_false_iff_not, Bool.not_eq_true', Bool.not_eq_false', bne_iff_ne, beq_iff_eq, Bool.and_eq_true, Bool.or_eq_true, Bool.not_eq_true, ge_iff_le, gt_iff_lt, Int.not_le, Int.not_lt, beq_eq_false_iff_ne, bne_eq_false_iff_eq, ne_eq, Decidable.not_not, wd_zero, wd_one, wd_inj] at hg7
          refine O_off (env' := uL24n264) rfl rfl rfl rfl ?_
          refine O_off (env' := uL24n264) rfl rfl rfl rfl ?_
          refine O_off (env' := uL24n264) rfl rfl rfl rfl ?_
          refine O_off (env' := uL24n264) rfl rfl rfl rfl ?_
          refine O_off (env' := uL24n264) rfl rfl rfl rfl ?_
          refine O_off (env' := uL24n264) rfl rfl rfl rfl ?_
          refine O_off (env' := uL24n264) rfl rfl rfl rfl ?_
          refine O_off (env' := uL24n264) rfl rfl rfl rfl ?_
          refine O_off (env' := uL24n264) rfl rfl rfl rfl ?_
          refine O_off (env' := uL24n264) rfl rfl rfl rfl ?_
          refine O_off (env' := uL24n264) rfl rfl rfl rfl ?_
          refine O_off (env' := uL24n264) rfl rfl rfl rfl ?_
          refine O_off (env' := uL24n264) rfl rfl rfl rfl ?_
          refine O_off (env' := uL24n264) rfl rfl rfl rfl ?_
          refine O_off (env' := uL24n264) rfl rfl rfl rfl ?_
          refine O_off (env' := uL24n264) rfl rfl rfl rfl ?_
          refine O_off (env' := uL24n264) rfl rfl rfl rfl ?_
          refine O_off (env' := uL24n264) rfl rfl rfl rfl ?_
          refine O_off (env' := uL24n264) rfl rfl rfl rfl ?_
          refine O_off (env' := uL24n264) rfl rfl rfl rfl ?_
          refine O_off (env' := uL24n264) rfl rfl rfl rfl ?_
          refine O_off (env' := uL24n264) rfl rfl rfl rfl ?_
          refine O_off (env' := uL24n264) rfl rfl rfl rfl ?_
          refine O_off (env' := uL24n264) rfl rfl rfl rfl ?_
          refine O_off (env' := uL24n264) rfl rfl rfl rfl ?_
          refine O_off (env' := uL24n264) rfl rfl rfl rfl ?_
          refine O_off (env' := uL24n264) rfl rfl rfl rfl ?_
          refine O_off (env' := uL24n264) rfl rfl rfl rfl ?_
          refine O_off (env' := uL24n264) rfl rfl rfl rfl ?_
          refine O_off (env' := uL24n264) rfl rfl rfl rfl ?_
          refine O_off (env' := uL24n264) rfl rfl rfl rfl ?_
          refine O_off (env' := uL24n264) rfl rfl rfl rfl ?_
          refine O_off (env' := uL24n264) rfl rfl rfl rfl ?_
          refine O_off (env' := uL24n264) rfl rfl rfl rfl ?_
          refine O_off (env' := uL24n264) rfl rfl rfl rfl ?_
          refine O_off (env' := uL24n264) rfl rfl rfl rfl ?_
          refine O_off (env' := uL24n264) rfl rfl rfl rfl ?_
          refine O_off (env' := uL24n264) rfl rfl rfl rfl ?_
          refine O_off (env' := uL24n264) rfl rfl rfl rfl ?_
          refine O_off (env' := uL24n264) rfl rfl rfl rfl ?_
          refine O_off (env' := uL24n264) rfl rfl rfl rfl ?_
          refine O_op (env' := uL24n264) (c := .calm) rfl rfl rfl (v_pickFC (VVal.bool false) rfl rfl rfl) rfl rfl rfl ?_
          refine O_op (env' := uL24n264) (c := .calm) rfl rfl rfl (v_pickF rfl rfl rfl) rfl rfl rfl ?_
          refine O_nil [] (by kernel_rfl) (trivial) ?_
          refine K_seq ?_
          refine B_false rfl rfl ?_
          refine B_skip ?_
          refine K_blk ?_
          refine K_seq ?_
          refine B_region ?_
          refine L_op (env' := uL24n264) rfl rfl (v_move (.inl rfl) rfl) rfl ?_
          refine L_op (env' := uL24n264) rfl rfl (v_addI rfl rfl rfl (by first | assumption | omega | (simp [*]; done) | (simp at *; omega))) rfl ?_
          refine L_op (env' := uL24n264) rfl rfl (v_move (.inr rfl) rfl) rfl ?_
          refine L_nil ?_
          refine K_loop (true :: true :: true :: false :: true :: false :: false :: true :: true :: true :: true :: true :: true :: true :: true :: true :: true :: true :: true :: true :: true :: true :: true :: true :: true :: true :: true :: true :: true :: true :: true :: true :: true :: true :: true :: true :: true :: true :: true :: true :: true :: true :: true :: true :: true :: true :: true :: true :: true :: true :: true :: true :: true :: true :: true :: true :: true :: true :: true :: true :: true :: true :: true :: true :: true :: true :: true :: true :: true :: true :: true :: true :: true :: true :: true :: true :: true :: true :: true :: true :: true :: true :: true :: true :: true :: true :: true :: true :: true :: true :: true :: true :: true :: true :: true :: true :: true :: true :: true :: true :: true :: true :: true :: true :: true :: true :: true :: true :: true :: true :: true :: true :: true :: true :: true :: true :: true :: true :: true :: true :: true :: true :: true :: true :: true :: true :: true :: true :: true :: true :: true :: true :: true :: true :: true :: true :: true :: true :: true :: true :: true :: true :: true :: true :: true :: true :: true :: true :: true :: true :: true :: true :: true :: true :: true :: true :: true :: true :: true :: true :: true :: true :: true :: true :: true :: true :: true :: true :: true :: true :: true :: true :: true :: true :: true :: true :: true :: true :: true :: true :: true :: true :: true :: true :: true :: true :: true :: true :: true :: true :: true :: true :: true :: true :: true :: true :: true :: true :: true :: true :: true :: true :: true :: true :: true :: true :: true :: true :: true :: true :: true :: true :: true :: true :: true :: true :: true :: true :: true :: true :: true :: true :: true :: true :: true :: true :: true :: true :: true :: true :: true :: true :: true :: true :: true :: true :: true :: true :: true :: true :: true :: true :: true :: true :: true :: true :: true :: true :: true :: true :: true :: true :: true :: true :: true :: true :: true :: true :: true :: true :: true :: true :: true :: true :: []) (env' := uL24n264) rfl ⟨i + 1, ?_, rfl, ?_⟩
          · first | omega | (simp only []; omega)
          · exact ⟨by omega, rfl⟩
      · try simp only [decide_eq_true_eq, decide_eq_false_iff_not, Bool.not_eq_true', Bool.not_eq_false', bne_iff_ne, beq_iff_eq, Bool.and_eq_true, Bool.or_eq_true, Bool.not_eq_true, ge_iff_le, gt_iff_lt, Int.not_le, Int.not_lt, beq_eq_false_iff_ne, bne_eq_false_iff_eq, ne_eq, Decidable.not_not, wd_zero, wd_one, wd_inj] at hc6
        refine B_exit ?_
        refine K_seqX ?_
        refine K_loopX ?_
        refine K_blkX ?_
        refine K_seq ?_
        refine B_seq ?_
        refine B_region ?_
        refine L_op (env' := uL24n264) rfl rfl (v_const (VVal.int .u64 0) (.inr rfl) rfl) rfl ?_
        refine L_nil ?_
        refine K_seq ?_
        refine B_seq ?_
        refine B_seq ?_
        refine B_region ?_
        refine L_op (env' := uL24n264) rfl rfl (v_const (VVal.int .i64 0) (.inr rfl) rfl) rfl ?_
        refine L_nil ?_
        refine K_seq ?_
        refine B_block ?_
        refine B_clear (true :: true :: true :: false :: true :: false :: true :: false :: false :: true :: true :: true :: true :: true :: true :: true :: true :: true :: true :: true :: true :: true :: true :: true :: true :: true :: true :: true :: true :: true :: true :: true :: true :: true :: true :: true :: true :: true :: true :: true :: true :: true :: true :: true :: true :: true :: true :: true :: true :: true :: true :: true :: true :: true :: true :: true :: true :: true :: true :: true :: true :: true :: true :: true :: true :: true :: true :: true :: true :: true :: true :: true :: true :: true :: true :: true :: true :: true :: true :: true :: true :: true :: true :: true :: true :: true :: true :: true :: true :: true :: true :: true :: true :: true :: true :: true :: true :: true :: true :: true :: true :: true :: true :: true :: true :: true :: true :: true :: true :: true :: true :: true :: true :: true :: true :: true :: true :: true :: true :: true :: true :: true :: true :: true :: true :: true :: true :: true :: true :: true :: true :: true :: true :: true :: true :: true :: true :: true :: true :: true :: true :: true :: true :: true :: true :: true :: true :: true :: true :: true :: true :: true :: true :: true :: true :: true :: true :: true :: true :: true :: true :: true :: true :: true :: true :: true :: true :: true :: true :: true :: true :: true :: true :: true :: true :: true :: true :: true :: true :: true :: true :: true :: true :: true :: true :: true :: true :: true :: true :: true :: true :: true :: true :: true :: true :: true :: true :: true :: true :: true :: true :: true :: true :: true :: true :: true :: true :: true :: true :: true :: true :: true :: true :: true :: true :: true :: true :: true :: true :: true :: true :: true :: true :: true :: true :: true :: true :: true :: true :: true :: true :: true :: true :: true :: true :: true :: true :: true :: true :: true :: true :: true :: true :: true :: true :: true :: true :: true :: true :: true :: true :: true :: true :: true :: true :: true :: true :: true :: true :: true :: true :: true :: true :: true :: []) (env' := uL24n264) rfl ?_
        refine B_loopE (fun (a : Nat) => 64 - a) (fun (a : Nat) => [(7, iW (spr J (th3 a))), (8, iI (a : Nat))]) (fun (a : Nat) G => (a ≤ 64) ∧ G = H ++ [rkB J]) 0 (by rw [show th3 0 = 0#64 from rfl, spr_0]; rfl) ?_ ?_
        · refine ⟨?_, rfl⟩
          exact Nat.zero_le _
        rintro a _ ⟨ha, rfl⟩
        refine B_env (env' := uL24n264) rfl ?_
        refine B_seq ?_
        refine B_seq ?_
        refine B_region ?_
        refine L_op (env' := uL24n264) rfl rfl (v_move (.inl rfl) rfl) rfl ?_
        refine L_op (env' := uL24n264) rfl rfl (rfl) rfl ?_
        refine L_nil ?_
        refine K_seq ?_
        refine B_cond _ rfl (fun hc9 => ?_) (fun hc9 => ?_)
        · try simp only [decide_eq_true_eq, decide_eq_false_iff_not, Bool.not_eq_true', Bool.not_eq_false', bne_iff_ne, beq_iff_eq, Bool.and_eq_true, Bool.or_eq_true, Bool.not_eq_true, ge_iff_le, gt_iff_lt, Int.not_le, Int.not_lt, beq_eq_false_iff_ne, bne_eq_false_iff_eq, ne_eq, Decidable.not_not, wd_zero, wd_one, wd_inj] at hc9
          refine B_skip ?_
          refine K_seq ?_
          refine B_seq ?_
          refine B_block ?_
          refine B_seq ?_
          refine B_region ?_
          refine L_op (env' := uL24n264) rfl rfl (v_move (.inl rfl) rfl) rfl ?_
          refine L_op (env' := uL24n264) rfl rfl (v_shl1 rfl rfl rfl (by first | assumption | omega | (simp [*]; done) | (simp at *; omega))) rfl ?_
          refine L_op (env' := uL24n264) rfl rfl (v_move (.inr rfl) rfl) rfl ?_
          refine L_nil ?_
          refine K_seq ?_
          refine B_seq ?_
          refine B_seq ?_
          refine B_region ?_
          refine L_op (env' := uL24n264) rfl rfl (v_const (VVal.int .i64 0) (.inr rfl) rfl) rfl ?_
          refine L_nil ?_
          refine K_seq ?_
          refine B_block ?_
          refine B_clear (true :: true :: true :: false :: true :: false :: true :: false :: false :: false :: false :: true :: true :: true :: true :: true :: true :: true :: true :: true :: true :: true :: true :: true :: true :: true :: true :: true :: true :: true :: true :: true :: true :: true :: true :: true :: true :: true :: true :: true :: true :: true :: true :: true :: true :: true :: true :: true :: true :: true :: true :: true :: true :: true :: true :: true :: true :: true :: true :: true :: true :: true :: true :: true :: true :: true :: true :: true :: true :: true :: true :: true :: true :: true :: true :: true :: true :: true :: true :: true :: true :: true :: true :: true :: true :: true :: true :: true :: true :: true :: true :: true :: true :: true :: true :: true :: true :: true :: true :: true :: true :: true :: true :: true :: true :: true :: true :: true :: true :: true :: true :: true :: true :: true :: true :: true :: true :: true :: true :: true :: true :: true :: true :: true :: true :: true :: true :: true :: true :: true :: true :: true :: true :: true :: true :: true :: true :: true :: true :: true :: true :: true :: true :: true :: true :: true :: true :: true :: true :: true :: true :: true :: true :: true :: true :: true :: true :: true :: true :: true :: true :: true :: true :: true :: true :: true :: true :: true :: true :: true :: true :: true :: true :: true :: true :: true :: true :: true :: true :: true :: true :: true :: true :: true :: true :: true :: true :: true :: true :: true :: true :: true :: true :: true :: true :: true :: true :: true :: true :: true :: true :: true :: true :: true :: true :: true :: true :: true :: true :: true :: true :: true :: true :: true :: true :: true :: true :: true :: true :: true :: true :: true :: true :: true :: true :: true :: true :: true :: true :: true :: true :: true :: true :: true :: true :: true :: true :: true :: true :: true :: true :: true :: true :: true :: true :: true :: true :: true :: true :: true :: true :: true :: true :: true :: true :: true :: true :: true :: true :: true :: true :: true :: true :: true :: []) (env' := uL24n264) rfl ?_
          refine B_loopE (fun (q : Nat) => 64 - q) (fun (q : Nat) => [(9, iW (rndW (lkL J) (1#64 <<< a) q)), (10, iI (q : Nat))]) (fun (q : Nat) G => (q ≤ 64) ∧ G = H ++ [rkB J]) 0 rfl ?_ ?_
          · refine ⟨?_, rfl⟩
            exact Nat.zero_le _
          rintro q _ ⟨hq, rfl⟩
          refine B_env (env' := uL24n264) rfl ?_
          refine B_seq ?_
          refine B_seq ?_
          refine B_region ?_
          refine L_op (env' := uL24n264) rfl rfl (v_move (.inl rfl) rfl) rfl ?_
          refine L_op (env' := uL24n264) rfl rfl (rfl) rfl ?_
          refine L_nil ?_
          refine K_seq ?_
          refine B_cond _ rfl (fun hc10 => ?_) (fun hc10 => ?_)
          · try simp only [decide_eq_true_eq, decide_eq_false_iff_not, Bool.not_eq_true', Bool.not_eq_false', bne_iff_ne, beq_iff_eq, Bool.and_eq_true, Bool.or_eq_true, Bool.not_eq_true, ge_iff_le, gt_iff_lt, Int.not_le, Int.not_lt, beq_eq_false_iff_ne, bne_eq_false_iff_eq, ne_eq, Decidable.not_not, wd_zero, wd_one, wd_inj] at hc10
            refine B_skip ?_
            refine K_seq ?_
            refine B_seq ?_
            refine B_block ?_
            refine B_seq ?_
            refine B_region ?_
            refine L_op (env' := uL24n264) rfl rfl (v_const (VVal.int .i64 0) (.inr rfl) rfl) rfl ?_
            refine L_nil ?_
            refine K_seq ?_
            refine B_block ?_
            refine B_clear (true :: true :: true :: false :: true :: false :: true :: false :: false :: false :: false :: false :: true :: true :: true :: true :: true :: true :: true :: true :: true :: true :: true :: true :: true :: true :: true :: true :: true :: true :: true :: true :: true :: true :: true :: true :: true :: true :: true :: true :: true :: true :: true :: true :: true :: true :: true :: true :: true :: true :: true :: true :: true :: true :: true :: true :: true :: true :: true :: true :: true :: true :: true :: true :: true :: true :: true :: true :: true :: true :: true :: true :: true :: true :: true :: true :: true :: true :: true :: true :: true :: true :: true :: true :: true :: true :: true :: true :: true :: true :: true :: true :: true :: true :: true :: true :: true :: true :: true :: true :: true :: true :: true :: true :: true :: true :: true :: true :: true :: true :: true :: true :: true :: true :: true :: true :: true :: true :: true :: true :: true :: true :: true :: true :: true :: true :: true :: true :: true :: true :: true :: true :: true :: true :: true :: true :: true :: true :: true :: true :: true :: true :: true :: true :: true :: true :: true :: true :: true :: true :: true :: true :: true :: true :: true :: true :: true :: true :: true :: true :: true :: true :: true :: true :: true :: true :: true :: true :: true :: true :: true :: true :: true :: true :: true :: true :: true :: true :: true :: true :: true :: true :: true :: true :: true :: true :: true :: true :: true :: true :: true :: true :: true :: true :: true :: true :: true :: true :: true :: true :: true :: true :: true :: true :: true :: true :: true :: true :: true :: true :: true :: true :: true :: true :: true :: true :: true :: true :: true :: true :: true :: true :: true :: true :: true :: true :: true :: true :: true :: true :: true :: true :: true :: true :: true :: true :: true :: true :: true :: true :: true :: true :: true :: true :: true :: true :: true :: true :: true :: true :: true :: true :: true :: true :: true :: true :: true :: true :: true :: true :: true :: true :: true :: true :: []) (env' := uL24n264) rfl ?_
            refine B_loopE (fun (j : Nat) => (lkL J).length - j) (fun (j : Nat) => [(9, iW (passW ((lkL J).take j) (rndW (lkL J) (1#64 <<< a) q))), (11, iI (j : Nat))]) (fun (j : Nat) G => (j ≤ (lkL J).length) ∧ G = H ++ [rkB J]) 0 rfl ?_ ?_
            · refine ⟨?_, rfl⟩
              exact Nat.zero_le _
            rintro j _ ⟨hj, rfl⟩
            refine B_env (env' := uL24n264) rfl ?_
            refine B_seq ?_
            refine B_seq ?_
            refine B_region ?_
            refine L_op (env' := uL24n264) rfl rfl (v_move (.inl rfl) rfl) rfl ?_
            refine L_op (env' := uL24n264) rfl rfl (v_move (.inl rfl) rfl) rfl ?_
            refine L_op (env' := uL24n264) rfl rfl (rfl) rfl ?_
            refine L_op (env' := uL24n264) rfl rfl (rfl) rfl ?_
            refine L_nil ?_
            refine K_seq ?_
            refine B_cond _ rfl (fun hc11 => ?_) (fun hc11 => ?_)
            · try simp only [decide_eq_true_eq, decide_eq_false_iff_not, Bool.not_eq_true', Bool.not_eq_false', bne_iff_ne, beq_iff_eq, Bool.and_eq_true, Bool.or_eq_true, Bool.not_eq_true, ge_iff_le, gt_iff_lt, Int.not_le, Int.not_lt, beq_eq_false_iff_ne, bne_eq_false_iff_eq, ne_eq, Decidable.not_not, wd_zero, wd_one, wd_inj] at hc11
              refine B_skip ?_
              refine K_seq ?_
              refine B_seq ?_
              refine B_block ?_
              refine B_seq ?_
              have hmem := hR.lnk_lt (getD_mem (d := (0, 0)) (show (j : Int).toNat < (lkL J).length by omega))
              refine B_region ?_
              refine L_op (env' := uL24n264) rfl rfl (v_move (.inl rfl) rfl) rfl ?_
              refine L_op (env' := uL24n264) rfl rfl (v_move (.inl rfl) rfl) rfl ?_
              refine L_op (env' := uL24n264) rfl rfl (v_move (.inl rfl) rfl) rfl ?_
              refine L_op (env' := uL24n264) rfl rfl (by first | exact v_idxF rfl rfl rfl rfl rfl rfl rfl (by first | assumption | omega | (simp [*]; done) | (simp at *; omega)) | exact v_idx rfl rfl rfl rfl rfl rfl rfl (by first | assumption | omega | (simp [*]; done) | (simp at *; omega))) rfl ?_
              refine L_op (env' := uL24n264) rfl rfl (by first | exact v_idxFA rfl rfl rfl rfl rfl rfl (by first | assumption | omega | (simp [*]; done) | (simp at *; omega)) | exact v_idxA rfl rfl rfl rfl rfl rfl (by first | assumption | omega | (simp [*]; done) | (simp at *; omega))) rfl ?_
              refine L_op (env' := uL24n264) rfl rfl (by first | exact v_loadF rfl rfl rfl rfl (by first | exact op_c0 (by omega) | exact op_c1 (by omega) | exact op_c2 (by omega) | exact op_c3 (by omega) | exact op_c4 (by omega) | exact pair_c0 (by omega) | exact pair_c1 (by omega) | rfl) | exact v_load rfl rfl rfl rfl (by first | exact get_app rfl rfl | exact get_out (by assumption) | assumption | (simp [*]; done)) (by first | exact op_c0 (by omega) | exact op_c1 (by omega) | exact op_c2 (by omega) | exact op_c3 (by omega) | exact op_c4 (by omega) | exact pair_c0 (by omega) | exact pair_c1 (by omega) | rfl)) rfl ?_
              refine L_op (env' := uL24n264) rfl rfl (v_shrW rfl rfl rfl (by first | assumption | omega | (simp [*]; done) | (simp at *; omega))) rfl ?_
              refine L_op (env' := uL24n264) rfl rfl (v_andW (b := 1#64) rfl rfl rfl) rfl ?_
              refine L_op (env' := uL24n264) rfl rfl (rfl) rfl ?_
              refine L_nil ?_
              refine K_seq ?_
              refine B_cond _ rfl (fun hc12 => ?_) (fun hc12 => ?_)
              · try simp only [decide_eq_true_eq, decide_eq_false_iff_not, Bool.not_eq_true', Bool.not_eq_false', bne_iff_ne, beq_iff_eq, Bool.and_eq_true, Bool.or_eq_true, Bool.not_eq_true, ge_iff_le, gt_iff_lt, Int.not_le, Int.not_lt, beq_eq_false_iff_ne, bne_eq_false_iff_eq, ne_eq, Decidable.not_not, wd_zero, wd_one, wd_inj] at hc12
                refine B_region ?_
                refine L_op (env' := uL24n264) rfl rfl (v_move (.inl rfl) rfl) rfl ?_
                refine L_op (env' := uL24n264) rfl rfl (v_move (.inl rfl) rfl) rfl ?_
                refine L_op (env' := uL24n264) rfl rfl (v_move (.inl rfl) rfl) rfl ?_
                refine L_op (env' := uL24n264) rfl rfl (by first | exact v_idxF rfl rfl rfl rfl rfl rfl rfl (by first | assumption | omega | (simp [*]; done) | (simp at *; omega)) | exact v_idx rfl rfl rfl rfl rfl rfl rfl (by first | assumption | omega | (simp [*]; done) | (simp at *; omega))) rfl ?_
                refine L_op (env' := uL24n264) rfl rfl (by first | exact v_idxFA rfl rfl rfl rfl rfl rfl (by first | assumption | omega | (simp [*]; done) | (simp at *; omega)) | exact v_idxA rfl rfl rfl rfl rfl rfl (by first | assumption | omega | (simp [*]; done) | (simp at *; omega))) rfl ?_
                refine L_op (env' := uL24n264) rfl rfl (by first | exact v_loadF rfl rfl rfl rfl (by first | exact op_c0 (by omega) | exact op_c1 (by omega) | exact op_c2 (by omega) | exact op_c3 (by omega) | exact op_c4 (by omega) | exact pair_c0 (by omega) | exact pair_c1 (by omega) | rfl) | exact v_load rfl rfl rfl rfl (by first | exact get_app rfl rfl | exact get_out (by assumption) | assumption | (simp [*]; done)) (by first | exact op_c0 (by omega) | exact op_c1 (by omega) | exact op_c2 (by omega) | exact op_c3 (by omega) | exact op_c4 (by omega) | exact pair_c0 (by omega) | exact pair_c1 (by omega) | rfl)) rfl ?_
                refine L_op (env' := uL24n264) rfl rfl (v_shl1 rfl rfl rfl (by first | assumption | omega | (simp [*]; done) | (simp at *; omega))) rfl ?_
                refine L_op (env' := uL24n264) rfl rfl (v_orW rfl rfl rfl) rfl ?_
                refine L_op (env' := uL24n264) rfl rfl (v_move (.inr rfl) rfl) rfl ?_
                refine L_nil ?_
                refine K_blk ?_
                refine K_seq ?_
                refine B_region ?_
                refine L_op (env' := uL24n264) rfl rfl (v_move (.inl rfl) rfl) rfl ?_
                refine L_op (env' := uL24n264) rfl rfl (v_addI rfl rfl rfl (by first | assumption | omega | (simp [*]; done) | (simp at *; omega))) rfl ?_
                refine L_op (env' := uL24n264) rfl rfl (v_move (.inr rfl) rfl) rfl ?_
                refine L_nil ?_
                have hpt : passW ((lkL J).take (j + 1)) (rndW (lkL J) (1#64 <<< a) q) = stepW (passW ((lkL J).take j) (rndW (lkL J) (1#64 <<< a) q)) ((lkL J).getD (j : Int).toNat (0, 0)) := passW_take (by omega)
                unfold stepW at hpt
                first
                  | (rw [if_pos (sh1.1 (by assumption))] at hpt; rw [← hpt])
                  | (rw [if_neg (fun e => absurd e (by rw [sh1n.1 (by assumption)]; decide))] at hpt; rw [← hpt])
                refine K_loop (true :: true :: true :: false :: true :: false :: true :: false :: false :: false :: false :: false :: true :: true :: true :: true :: true :: true :: true :: true :: true :: true :: true :: true :: true :: true :: true :: true :: true :: true :: true :: true :: true :: true :: true :: true :: true :: true :: true :: true :: true :: true :: true :: true :: true :: true :: true :: true :: true :: true :: true :: true :: true :: true :: true :: true :: true :: true :: true :: true :: true :: true :: true :: true :: true :: true :: true :: true :: true :: true :: true :: true :: true :: true :: true :: true :: true :: true :: true :: true :: true :: true :: true :: true :: true :: true :: true :: true :: true :: true :: true :: true :: true :: true :: true :: true :: true :: true :: true :: true :: true :: true :: true :: true :: true :: true :: true :: true :: true :: true :: true :: true :: true :: true :: true :: true :: true :: true :: true :: true :: true :: true :: true :: true :: true :: true :: true :: true :: true :: true :: true :: true :: true :: true :: true :: true :: true :: true :: true :: true :: true :: true :: true :: true :: true :: true :: true :: true :: true :: true :: true :: true :: true :: true :: true :: true :: true :: true :: true :: true :: true :: true :: true :: true :: true :: true :: true :: true :: true :: true :: true :: true :: true :: true :: true :: true :: true :: true :: true :: true :: true :: true :: true :: true :: true :: true :: true :: true :: true :: true :: true :: true :: true :: true :: true :: true :: true :: true :: true :: true :: true :: true :: true :: true :: true :: true :: true :: true :: true :: true :: true :: true :: true :: true :: true :: true :: true :: true :: true :: true :: true :: true :: true :: true :: true :: true :: true :: true :: true :: true :: true :: true :: true :: true :: true :: true :: true :: true :: true :: true :: true :: true :: true :: true :: true :: true :: true :: true :: true :: true :: true :: true :: true :: true :: true :: true :: true :: true :: true :: true :: true :: true :: true :: true :: []) (env' := uL24n264) rfl ⟨j + 1, ?_, rfl, ?_⟩
                · first | omega | (simp only []; omega)
                · exact ⟨by omega, rfl⟩
              · try simp only [decide_eq_true_eq, decide_eq_false_iff_not, Bool.not_eq_true', Bool.not_eq_false', bne_iff_ne, beq_iff_eq, Bool.and_eq_true, Bool.or_eq_true, Bool.not_eq_true, ge_iff_le, gt_iff_lt, Int.not_le, Int.not_lt, beq_eq_false_iff_ne, bne_eq_false_iff_eq, ne_eq, Decidable.not_not, wd_zero, wd_one, wd_inj] at hc12
                refine B_skip ?_
                refine K_blk ?_
                refine K_seq ?_
                refine B_region ?_
                refine L_op (env' := uL24n264) rfl rfl (v_move (.inl rfl) rfl) rfl ?_
                refine L_op (env' := uL24n264) rfl rfl (v_addI rfl rfl rfl (by first | assumption | omega | (simp [*]; done) | (simp at *; omega))) rfl ?_
                refine L_op (env' := uL24n264) rfl rfl (v_move (.inr rfl) rfl) rfl ?_
                refine L_nil ?_
                have hpt : passW ((lkL J).take (j + 1)) (rndW (lkL J) (1#64 <<< a) q) = stepW (passW ((lkL J).take j) (rndW (lkL J) (1#64 <<< a) q)) ((lkL J).getD (j : Int).toNat (0, 0)) := passW_take (by omega)
                unfold stepW at hpt
                first
                  | (rw [if_pos (sh1.1 (by assumption))] at hpt; rw [← hpt])
                  | (rw [if_neg (fun e => absurd e (by rw [sh1n.1 (by assumption)]; decide))] at hpt; rw [← hpt])
                refine K_loop (true :: true :: true :: false :: true :: false :: true :: false :: false :: false :: false :: false :: true :: true :: true :: true :: true :: true :: true :: true :: true :: true :: true :: true :: true :: true :: true :: true :: true :: true :: true :: true :: true :: true :: true :: true :: true :: true :: true :: true :: true :: true :: true :: true :: true :: true :: true :: true :: true :: true :: true :: true :: true :: true :: true :: true :: true :: true :: true :: true :: true :: true :: true :: true :: true :: true :: true :: true :: true :: true :: true :: true :: true :: true :: true :: true :: true :: true :: true :: true :: true :: true :: true :: true :: true :: true :: true :: true :: true :: true :: true :: true :: true :: true :: true :: true :: true :: true :: true :: true :: true :: true :: true :: true :: true :: true :: true :: true :: true :: true :: true :: true :: true :: true :: true :: true :: true :: true :: true :: true :: true :: true :: true :: true :: true :: true :: true :: true :: true :: true :: true :: true :: true :: true :: true :: true :: true :: true :: true :: true :: true :: true :: true :: true :: true :: true :: true :: true :: true :: true :: true :: true :: true :: true :: true :: true :: true :: true :: true :: true :: true :: true :: true :: true :: true :: true :: true :: true :: true :: true :: true :: true :: true :: true :: true :: true :: true :: true :: true :: true :: true :: true :: true :: true :: true :: true :: true :: true :: true :: true :: true :: true :: true :: true :: true :: true :: true :: true :: true :: true :: true :: true :: true :: true :: true :: true :: true :: true :: true :: true :: true :: true :: true :: true :: true :: true :: true :: true :: true :: true :: true :: true :: true :: true :: true :: true :: true :: true :: true :: true :: true :: true :: true :: true :: true :: true :: true :: true :: true :: true :: true :: true :: true :: true :: true :: true :: true :: true :: true :: true :: true :: true :: true :: true :: true :: true :: true :: true :: true :: true :: true :: true :: true :: true :: []) (env' := uL24n264) rfl ⟨j + 1, ?_, rfl, ?_⟩
                · first | omega | (simp only []; omega)
                · exact ⟨by omega, rfl⟩
            · try simp only [decide_eq_true_eq, decide_eq_false_iff_not, Bool.not_eq_true', Bool.not_eq_false', bne_iff_ne, beq_iff_eq, Bool.and_eq_true, Bool.or_eq_true, Bool.not_eq_true, ge_iff_le, gt_iff_lt, Int.not_le, Int.not_lt, beq_eq_false_iff_ne, bne_eq_false_iff_eq, ne_eq, Decidable.not_not, wd_zero, wd_one, wd_inj] at hc11
              refine B_exit ?_
              refine K_seqX ?_
              refine K_loopX ?_
              refine K_blkX ?_
              refine K_blk ?_
              refine K_seq ?_
              refine B_region ?_
              refine L_op (env' := uL24n264) rfl rfl (v_move (.inl rfl) rfl) rfl ?_
              refine L_op (env' := uL24n264) rfl rfl (v_addI rfl rfl rfl (by first | assumption | omega | (simp [*]; done) | (simp at *; omega))) rfl ?_
              refine L_op (env' := uL24n264) rfl rfl (v_move (.inr rfl) rfl) rfl ?_
              refine L_nil ?_
              have hE : passW ((lkL J).take j) (rndW (lkL J) (1#64 <<< a) q) = rndW (lkL J) (1#64 <<< a) (q + 1) := by rw [show j = (lkL J).length by omega, List.take_length]; rfl
              rw [hE]
              refine K_loop (true :: true :: true :: false :: true :: false :: true :: false :: false :: false :: false :: true :: true :: true :: true :: true :: true :: true :: true :: true :: true :: true :: true :: true :: true :: true :: true :: true :: true :: true :: true :: true :: true :: true :: true :: true :: true :: true :: true :: true :: true :: true :: true :: true :: true :: true :: true :: true :: true :: true :: true :: true :: true :: true :: true :: true :: true :: true :: true :: true :: true :: true :: true :: true :: true :: true :: true :: true :: true :: true :: true :: true :: true :: true :: true :: true :: true :: true :: true :: true :: true :: true :: true :: true :: true :: true :: true :: true :: true :: true :: true :: true :: true :: true :: true :: true :: true :: true :: true :: true :: true :: true :: true :: true :: true :: true :: true :: true :: true :: true :: true :: true :: true :: true :: true :: true :: true :: true :: true :: true :: true :: true :: true :: true :: true :: true :: true :: true :: true :: true :: true :: true :: true :: true :: true :: true :: true :: true :: true :: true :: true :: true :: true :: true :: true :: true :: true :: true :: true :: true :: true :: true :: true :: true :: true :: true :: true :: true :: true :: true :: true :: true :: true :: true :: true :: true :: true :: true :: true :: true :: true :: true :: true :: true :: true :: true :: true :: true :: true :: true :: true :: true :: true :: true :: true :: true :: true :: true :: true :: true :: true :: true :: true :: true :: true :: true :: true :: true :: true :: true :: true :: true :: true :: true :: true :: true :: true :: true :: true :: true :: true :: true :: true :: true :: true :: true :: true :: true :: true :: true :: true :: true :: true :: true :: true :: true :: true :: true :: true :: true :: true :: true :: true :: true :: true :: true :: true :: true :: true :: true :: true :: true :: true :: true :: true :: true :: true :: true :: true :: true :: true :: true :: true :: true :: true :: true :: true :: true :: true :: true :: true :: true :: true :: true :: []) (env' := uL24n264) rfl ⟨q + 1, ?_, rfl, ?_⟩
              · first | omega | (simp only []; omega)
              · exact ⟨by omega, rfl⟩
          · try simp only [decide_eq_true_eq, decide_eq_false_iff_not, Bool.not_eq_true', Bool.not_eq_false', bne_iff_ne, beq_iff_eq, Bool.and_eq_true, Bool.or_eq_true, Bool.not_eq_true, ge_iff_le, gt_iff_lt, Int.not_le, Int.not_lt, beq_eq_false_iff_ne, bne_eq_false_iff_eq, ne_eq, Decidable.not_not, wd_zero, wd_one, wd_inj] at hc10
            refine B_exit ?_
            refine K_seqX ?_
            refine K_loopX ?_
            refine K_blkX ?_
            refine K_seq ?_
            refine B_seq ?_
            refine B_seq ?_
            obtain rfl : q = 64 := by omega
            rw [hR.rnd (one_ne (show a < 64 by omega))]
            refine B_region ?_
            refine L_op (env' := uL24n264) rfl rfl (v_move (.inl rfl) rfl) rfl ?_
            refine L_op (env' := uL24n264) rfl rfl (v_move (.inl rfl) rfl) rfl ?_
            refine L_call rfl rfl rfl (by exact rkBelow_spec _ _ J (get_app rfl rfl) hR.len _) ?_
            rintro v _ ⟨hv, rfl⟩; obtain rfl : v = iW (spr J (1#64 <<< a)) := hv.trans (by rw [blw, if_pos (by omega)]; rfl)
            refine L_env (env' := uL24n264) rfl ?_
            refine L_op (env' := uL24n264) rfl rfl (v_move (.inl rfl) rfl) rfl ?_
            refine L_op (env' := uL24n264) rfl rfl (v_is false rfl (by simp)) rfl ?_
            refine L_op (env' := uL24n264) rfl rfl (v_move (.inl rfl) rfl) rfl ?_
            refine L_op (env' := uL24n264) rfl rfl (v_move (.inl rfl) rfl) rfl ?_
            refine L_op (env' := uL24n264) rfl rfl (v_move (.inl rfl) rfl) rfl ?_
            refine L_op (env' := uL24n264) rfl rfl (v_shl1 rfl rfl rfl (by first | assumption | omega | (simp [*]; done) | (simp at *; omega))) rfl ?_
            refine L_call rfl rfl rfl (by exact Spread_spec _ _ J (get_app rfl rfl) hR.len _) ?_
            rintro _ _ ⟨rfl, rfl⟩
            refine L_env (env' := uL24n264) rfl ?_
            refine L_op (env' := uL24n264) rfl rfl (v_move (.inl rfl) rfl) rfl ?_
            refine L_op (env' := uL24n264) rfl rfl (v_is false rfl (by simp)) rfl ?_
            refine L_op (env' := uL24n264) rfl rfl (v_pickF rfl rfl rfl) rfl ?_
            refine L_nil ?_
            refine K_seq ?_
            refine B_false rfl rfl ?_
            refine B_skip ?_
            refine K_seq ?_
            refine B_seq ?_
            refine B_seq ?_
            refine B_region ?_
            refine L_op (env' := uL24n264) rfl rfl (v_const (VVal.int .i64 0) (.inr rfl) rfl) rfl ?_
            refine L_nil ?_
            refine K_seq ?_
            refine B_block ?_
            refine B_clear (true :: true :: true :: false :: true :: false :: true :: false :: false :: false :: true :: true :: false :: true :: true :: true :: true :: true :: true :: true :: true :: true :: true :: true :: true :: true :: true :: true :: true :: true :: true :: true :: true :: true :: true :: true :: true :: true :: true :: true :: true :: true :: true :: true :: true :: true :: true :: true :: true :: true :: true :: true :: true :: true :: true :: true :: true :: true :: true :: true :: true :: true :: true :: true :: true :: true :: true :: true :: true :: true :: true :: true :: true :: true :: true :: true :: true :: true :: true :: true :: true :: true :: true :: true :: true :: true :: true :: true :: true :: true :: true :: true :: true :: true :: true :: true :: true :: true :: true :: true :: true :: true :: true :: true :: true :: true :: true :: true :: true :: true :: true :: true :: true :: true :: true :: true :: true :: true :: true :: true :: true :: true :: true :: true :: true :: true :: true :: true :: true :: true :: true :: true :: true :: true :: true :: true :: true :: true :: true :: true :: true :: true :: true :: true :: true :: true :: true :: true :: true :: true :: true :: true :: true :: true :: true :: true :: true :: true :: true :: true :: true :: true :: true :: true :: true :: true :: true :: true :: true :: true :: true :: true :: true :: true :: true :: true :: true :: true :: true :: true :: true :: true :: true :: true :: true :: true :: true :: true :: true :: true :: true :: true :: true :: true :: true :: true :: true :: true :: true :: true :: true :: true :: true :: true :: true :: true :: true :: true :: true :: true :: true :: true :: true :: true :: true :: true :: true :: true :: true :: true :: true :: true :: true :: true :: true :: true :: true :: true :: true :: true :: true :: true :: true :: true :: true :: true :: true :: true :: true :: true :: true :: true :: true :: true :: true :: true :: true :: true :: true :: true :: true :: true :: true :: true :: true :: true :: true :: true :: true :: true :: true :: true :: true :: true :: []) (env' := uL24n264) rfl ?_
            refine B_loopE (fun (b : Nat) => 64 - b) (fun (b : Nat) => [(12, iI (b : Nat))]) (fun (b : Nat) G => (b ≤ 64) ∧ G = H ++ [rkB J]) 0 rfl ?_ ?_
            · refine ⟨?_, rfl⟩
              exact Nat.zero_le _
            rintro b _ ⟨hb, rfl⟩
            refine B_env (env' := uL24n264) rfl ?_
            refine B_seq ?_
            refine B_seq ?_
            refine B_region ?_
            refine L_op (env' := uL24n264) rfl rfl (v_move (.inl rfl) rfl) rfl ?_
            refine L_op (env' := uL24n264) rfl rfl (rfl) rfl ?_
            refine L_nil ?_
            refine K_seq ?_
            refine B_cond _ rfl (fun hc13 => ?_) (fun hc13 => ?_)
            · try simp only [decide_eq_true_eq, decide_eq_false_iff_not, Bool.not_eq_true', Bool.not_eq_false', bne_iff_ne, beq_iff_eq, Bool.and_eq_true, Bool.or_eq_true, Bool.not_eq_true, ge_iff_le, gt_iff_lt, Int.not_le, Int.not_lt, beq_eq_false_iff_ne, bne_eq_false_iff_eq, ne_eq, Decidable.not_not, wd_zero, wd_one, wd_inj] at hc13
              refine B_skip ?_
              refine K_seq ?_
              refine B_seq ?_
              refine B_block ?_
              refine B_seq ?_
              refine B_draw [0, 1, 3, 6, 7, 8, 9, 2, 4, 5, 10, 11, 12, 13, 14, 15, 16, 17, 18, 19, 20, 21, 22, 23, 24, 26, 25, 27, 28, 29, 30, 31] #[0, 0, 3, 0, 15, 31, 0, 0, 192, 448, 1023, 2047, 4095, 4095, 16383, 32767, 65535, 65535, 262143, 524287, 1048575, 2097151, 4194303, 8388607, 8388607, 33554431, 8388607, 134217727, 268435455, 536870911, 1073741823, 2147483647] (by kernel_rfl) (by kernel_rfl) (by kernel_rfl) ?_
              refine O_op (env' := uL24n264) (c := .calm) rfl rfl rfl (v_move (.inl rfl) rfl) rfl rfl rfl ?_
              refine O_op (env' := uL24n264) (c := .calm) rfl rfl rfl (v_move (.inl rfl) rfl) rfl rfl rfl ?_
              refine O_op (env' := uL24n264) (c := .calm) rfl rfl rfl (v_move (.inl rfl) rfl) rfl rfl rfl ?_
              refine O_op (env' := uL24n264) (c := .calm) rfl rfl rfl (v_move (.inl rfl) rfl) rfl rfl rfl ?_
              refine O_op (env' := uL24n264) (c := .calm) rfl rfl rfl (v_move (.inl rfl) rfl) rfl rfl rfl ?_
              refine O_op (env' := uL24n264) (c := .calm) rfl rfl rfl (v_shrW rfl rfl rfl (by first | assumption | omega | (simp [*]; done) | (simp at *; omega))) rfl rfl rfl ?_
              refine O_op (env' := uL24n264) (c := .calm) rfl rfl rfl (v_andW (b := 1#64) rfl rfl rfl) rfl rfl rfl ?_
              refine O_call (env' := uL24n264) rfl rfl rfl rfl rfl (by exact Above_spec _ _ J (get_app rfl rfl) hR.len _) (by first | exact Nat.le_refl _ | simp) rfl rfl ?_
              refine O_op (env' := uL24n264) (c := .calm) rfl rfl rfl (v_shrW rfl rfl rfl (by first | assumption | omega | (simp [*]; done) | (simp at *; omega))) rfl rfl rfl ?_
              refine O_op (env' := uL24n264) (c := .calm) rfl rfl rfl (v_andW (b := 1#64) rfl rfl rfl) rfl rfl rfl ?_
              refine O_op (env' := uL24n264) (c := .calm) rfl rfl rfl (v_is false rfl (by rw [show abv J (b : Int) >>> (a : Int).toNat &&& 1#64 = spr J (1#64 <<< a) >>> (b : Int).toNat &&& 1#64 from sh_eq (abv_bit (by omega) (by omega))]; simp)) rfl rfl rfl ?_
              refine O_op (env' := uL24n264) (c := .calm) rfl rfl rfl (v_move (.inl rfl) rfl) rfl rfl rfl ?_
              refine O_op (env' := uL24n264) (c := .calm) rfl rfl rfl (v_move (.inl rfl) rfl) rfl rfl rfl ?_
              refine O_op (env' := uL24n264) (c := .calm) rfl rfl rfl (v_move (.inl rfl) rfl) rfl rfl rfl ?_
              refine O_op (env' := uL24n264) (c := .calm) rfl rfl rfl (rfl) rfl rfl rfl ?_
              refine O_op (env' := uL24n264) (c := .calm) rfl rfl rfl (v_move (.inl rfl) rfl) rfl rfl rfl ?_
              refine O_split 237 (env1 := uL24n264) (env2 := uL24n264) rfl rfl rfl (fun hg14 => ?_) (fun hg14 => ?_)
              · try simp only [decide_eq_true_eq, decide_eq_false_iff_not, Bool.not_eq_true', Bool.not_eq_false', bne_iff_ne, beq_iff_eq, Bool.and_eq_true, Bool.or_eq_true, Bool.not_eq_true, ge_iff_le, gt_iff_lt, Int.not_le, Int.not_lt, beq_eq_false_iff_ne, bne_eq_false_iff_eq, ne_eq, Decidable.not_not, wd_zero, wd_one, wd_inj] at hg14
                refine O_op (env' := uL24n264) (c := .calm) rfl rfl rfl (v_move (.inl rfl) rfl) rfl rfl rfl ?_
                refine O_op (env' := uL24n264) (c := .calm) rfl rfl rfl (v_move (.inl rfl) rfl) rfl rfl rfl ?_
                refine O_op (env' := uL24n264) (c := .calm) rfl rfl rfl (v_shrW rfl rfl rfl (by first | assumption | omega | (simp [*]; done) | (simp at *; omega))) rfl rfl rfl ?_
                refine O_op (env' := uL24n264) (c := .calm) rfl rfl rfl (v_andW (b := 1#64) rfl rfl rfl) rfl rfl rfl ?_
                refine O_op (env' := uL24n264) (c := .calm) rfl rfl rfl (rfl) rfl rfl rfl ?_
                refine O_op (env' := uL24n264) (c := .calm) rfl rfl rfl (v_pickT rfl rfl rfl) rfl rfl rfl ?_
                refine O_op (env' := uL24n264) (c := .calm) rfl rfl rfl (v_move (.inl rfl) rfl) rfl rfl rfl ?_
                refine O_split 244 (env1 := uL24n264) (env2 := uL24n264) rfl rfl rfl (fun hg15 => ?_) (fun hg15 => ?_)
                · try simp only [decide_eq_true_eq, decide_eq_false_iff_not, Bool.not_eq_true', Bool.not_eq_false', bne_iff_ne, beq_iff_eq, Bool.and_eq_true, Bool.or_eq_true, Bool.not_eq_true, ge_iff_le, gt_iff_lt, Int.not_le, Int.not_lt, beq_eq_false_iff_ne, bne_eq_false_iff_eq, ne_eq, Decidable.not_not, wd_zero, wd_one, wd_inj] at hg15
                  refine O_op (env' := uL24n264) (c := .calm) rfl rfl rfl (v_move (.inl rfl) rfl) rfl rfl rfl ?_
                  refine O_op (env' := uL24n264) (c := .calm) rfl rfl rfl (v_move (.inl rfl) rfl) rfl rfl rfl ?_
                  refine O_op (env' := uL24n264) (c := .calm) rfl rfl rfl (v_move (.inl rfl) rfl) rfl rfl rfl ?_
                  refine O_call (env' := uL24n264) rfl rfl rfl rfl rfl (by exact rkBelow_nat _ _ J (get_app rfl rfl) hR.len b (by omega)) (by first | exact Nat.le_refl _ | simp) rfl rfl ?_
                  refine O_op (env' := uL24n264) (c := .calm) rfl rfl rfl (v_shrW rfl rfl rfl (by first | assumption | omega | (simp [*]; done) | (simp at *; omega))) rfl rfl rfl ?_
                  refine O_op (env' := uL24n264) (c := .calm) rfl rfl rfl (v_andW (b := 1#64) rfl rfl rfl) rfl rfl rfl ?_
                  refine O_op (env' := uL24n264) (c := .calm) rfl rfl rfl (v_is false rfl (by rw [show spr J (1#64 <<< b) >>> (a : Int).toNat &&& 1#64 = 0#64 from sh0.2 (bool_f fun e => hR.spr_2 (a := a) (b := b) (by omega) (by omega) (by omega) (sh1.1 (by assumption)) e)]; rfl)) rfl rfl rfl ?_
                  refine O_op (env' := uL24n264) (c := .calm) rfl rfl rfl (v_pickT rfl rfl rfl) rfl rfl rfl ?_
                  refine O_op (env' := uL24n264) (c := .calm) rfl rfl rfl (v_pickF rfl rfl rfl) rfl rfl rfl ?_
                  refine O_nil [] (by kernel_rfl) (trivial) ?_
                  refine K_seq ?_
                  refine B_false rfl rfl ?_
                  refine B_skip ?_
                  refine K_blk ?_
                  refine K_seq ?_
                  refine B_region ?_
                  refine L_op (env' := uL24n264) rfl rfl (v_move (.inl rfl) rfl) rfl ?_
                  refine L_op (env' := uL24n264) rfl rfl (v_addI rfl rfl rfl (by first | assumption | omega | (simp [*]; done) | (simp at *; omega))) rfl ?_
                  refine L_op (env' := uL24n264) rfl rfl (v_move (.inr rfl) rfl) rfl ?_
                  refine L_nil ?_
                  refine K_loop (true :: true :: true :: false :: true :: false :: true :: false :: false :: false :: true :: true :: false :: true :: true :: true :: true :: true :: true :: true :: true :: true :: true :: true :: true :: true :: true :: true :: true :: true :: true :: true :: true :: true :: true :: true :: true :: true :: true :: true :: true :: true :: true :: true :: true :: true :: true :: true :: true :: true :: true :: true :: true :: true :: true :: true :: true :: true :: true :: true :: true :: true :: true :: true :: true :: true :: true :: true :: true :: true :: true :: true :: true :: true :: true :: true :: true :: true :: true :: true :: true :: true :: true :: true :: true :: true :: true :: true :: true :: true :: true :: true :: true :: true :: true :: true :: true :: true :: true :: true :: true :: true :: true :: true :: true :: true :: true :: true :: true :: true :: true :: true :: true :: true :: true :: true :: true :: true :: true :: true :: true :: true :: true :: true :: true :: true :: true :: true :: true :: true :: true :: true :: true :: true :: true :: true :: true :: true :: true :: true :: true :: true :: true :: true :: true :: true :: true :: true :: true :: true :: true :: true :: true :: true :: true :: true :: true :: true :: true :: true :: true :: true :: true :: true :: true :: true :: true :: true :: true :: true :: true :: true :: true :: true :: true :: true :: true :: true :: true :: true :: true :: true :: true :: true :: true :: true :: true :: true :: true :: true :: true :: true :: true :: true :: true :: true :: true :: true :: true :: true :: true :: true :: true :: true :: true :: true :: true :: true :: true :: true :: true :: true :: true :: true :: true :: true :: true :: true :: true :: true :: true :: true :: true :: true :: true :: true :: true :: true :: true :: true :: true :: true :: true :: true :: true :: true :: true :: true :: true :: true :: true :: true :: true :: true :: true :: true :: true :: true :: true :: true :: true :: true :: true :: true :: true :: true :: true :: true :: true :: true :: true :: true :: true :: true :: []) (env' := uL24n264) rfl ⟨b + 1, ?_, rfl, ?_⟩
                  · first | omega | (simp only []; omega)
                  · exact ⟨by omega, rfl⟩
                · try simp only [decide_eq_true_eq, decide_eq_false_iff_not, Bool.not_eq_true', Bool.not_eq_false', bne_iff_ne, beq_iff_eq, Bool.and_eq_true, Bool.or_eq_true, Bool.not_eq_true, ge_iff_le, gt_iff_lt, Int.not_le, Int.not_lt, beq_eq_false_iff_ne, bne_eq_false_iff_eq, ne_eq, Decidable.not_not, wd_zero, wd_one, wd_inj] at hg15
                  refine O_off (env' := uL24n264) rfl rfl rfl rfl ?_
                  refine O_off (env' := uL24n264) rfl rfl rfl rfl ?_
                  refine O_off (env' := uL24n264) rfl rfl rfl rfl ?_
                  refine O_off (env' := uL24n264) rfl rfl rfl rfl ?_
                  refine O_off (env' := uL24n264) rfl rfl rfl rfl ?_
                  refine O_off (env' := uL24n264) rfl rfl rfl rfl ?_
                  refine O_off (env' := uL24n264) rfl rfl rfl rfl ?_
                  refine O_op (env' := uL24n264) (c := .calm) rfl rfl rfl (v_pickFC (VVal.bool false) rfl rfl rfl) rfl rfl rfl ?_
                  refine O_op (env' := uL24n264) (c := .calm) rfl rfl rfl (v_pickF rfl rfl rfl) rfl rfl rfl ?_
                  refine O_nil [] (by kernel_rfl) (trivial) ?_
                  refine K_seq ?_
                  refine B_false rfl rfl ?_
                  refine B_skip ?_
                  refine K_blk ?_
                  refine K_seq ?_
                  refine B_region ?_
                  refine L_op (env' := uL24n264) rfl rfl (v_move (.inl rfl) rfl) rfl ?_
                  refine L_op (env' := uL24n264) rfl rfl (v_addI rfl rfl rfl (by first | assumption | omega | (simp [*]; done) | (simp at *; omega))) rfl ?_
                  refine L_op (env' := uL24n264) rfl rfl (v_move (.inr rfl) rfl) rfl ?_
                  refine L_nil ?_
                  refine K_loop (true :: true :: true :: false :: true :: false :: true :: false :: false :: false :: true :: true :: false :: true :: true :: true :: true :: true :: true :: true :: true :: true :: true :: true :: true :: true :: true :: true :: true :: true :: true :: true :: true :: true :: true :: true :: true :: true :: true :: true :: true :: true :: true :: true :: true :: true :: true :: true :: true :: true :: true :: true :: true :: true :: true :: true :: true :: true :: true :: true :: true :: true :: true :: true :: true :: true :: true :: true :: true :: true :: true :: true :: true :: true :: true :: true :: true :: true :: true :: true :: true :: true :: true :: true :: true :: true :: true :: true :: true :: true :: true :: true :: true :: true :: true :: true :: true :: true :: true :: true :: true :: true :: true :: true :: true :: true :: true :: true :: true :: true :: true :: true :: true :: true :: true :: true :: true :: true :: true :: true :: true :: true :: true :: true :: true :: true :: true :: true :: true :: true :: true :: true :: true :: true :: true :: true :: true :: true :: true :: true :: true :: true :: true :: true :: true :: true :: true :: true :: true :: true :: true :: true :: true :: true :: true :: true :: true :: true :: true :: true :: true :: true :: true :: true :: true :: true :: true :: true :: true :: true :: true :: true :: true :: true :: true :: true :: true :: true :: true :: true :: true :: true :: true :: true :: true :: true :: true :: true :: true :: true :: true :: true :: true :: true :: true :: true :: true :: true :: true :: true :: true :: true :: true :: true :: true :: true :: true :: true :: true :: true :: true :: true :: true :: true :: true :: true :: true :: true :: true :: true :: true :: true :: true :: true :: true :: true :: true :: true :: true :: true :: true :: true :: true :: true :: true :: true :: true :: true :: true :: true :: true :: true :: true :: true :: true :: true :: true :: true :: true :: true :: true :: true :: true :: true :: true :: true :: true :: true :: true :: true :: true :: true :: true :: true :: []) (env' := uL24n264) rfl ⟨b + 1, ?_, rfl, ?_⟩
                  · first | omega | (simp only []; omega)
                  · exact ⟨by omega, rfl⟩
              · try simp only [decide_eq_true_eq, decide_eq_false_iff_not, Bool.not_eq_true', Bool.not_eq_false', bne_iff_ne, beq_iff_eq, Bool.and_eq_true, Bool.or_eq_true, Bool.not_eq_true, ge_iff_le, gt_iff_lt, Int.not_le, Int.not_lt, beq_eq_false_iff_ne, bne_eq_false_iff_eq, ne_eq, Decidable.not_not, wd_zero, wd_one, wd_inj] at hg14
                refine O_off (env' := uL24n264) rfl rfl rfl rfl ?_
                refine O_off (env' := uL24n264) rfl rfl rfl rfl ?_
                refine O_off (env' := uL24n264) rfl rfl rfl rfl ?_
                refine O_off (env' := uL24n264) rfl rfl rfl rfl ?_
                refine O_off (env' := uL24n264) rfl rfl rfl rfl ?_
                refine O_op (env' := uL24n264) (c := .calm) rfl rfl rfl (v_pickFC (VVal.bool false) rfl rfl rfl) rfl rfl rfl ?_
                refine O_op (env' := uL24n264) (c := .calm) rfl rfl rfl (v_move (.inl rfl) rfl) rfl rfl rfl ?_
                refine O_off (env' := uL24n264) rfl rfl rfl rfl ?_
                refine O_off (env' := uL24n264) rfl rfl rfl rfl ?_
                refine O_off (env' := uL24n264) rfl rfl rfl rfl ?_
                refine O_off (env' := uL24n264) rfl rfl rfl rfl ?_
                refine O_off (env' := uL24n264) rfl rfl rfl rfl ?_
                refine O_off (env' := uL24n264) rfl rfl rfl rfl ?_
                refine O_off (env' := uL24n264) rfl rfl rfl rfl ?_
                refine O_op (env' := uL24n264) (c := .calm) rfl rfl rfl (v_pickFC (VVal.bool false) rfl rfl rfl) rfl rfl rfl ?_
                refine O_op (env' := uL24n264) (c := .calm) rfl rfl rfl (v_pickF rfl rfl rfl) rfl rfl rfl ?_
                refine O_nil [] (by kernel_rfl) (trivial) ?_
                refine K_seq ?_
                refine B_false rfl rfl ?_
                refine B_skip ?_
                refine K_blk ?_
                refine K_seq ?_
                refine B_region ?_
                refine L_op (env' := uL24n264) rfl rfl (v_move (.inl rfl) rfl) rfl ?_
                refine L_op (env' := uL24n264) rfl rfl (v_addI rfl rfl rfl (by first | assumption | omega | (simp [*]; done) | (simp at *; omega))) rfl ?_
                refine L_op (env' := uL24n264) rfl rfl (v_move (.inr rfl) rfl) rfl ?_
                refine L_nil ?_
                refine K_loop (true :: true :: true :: false :: true :: false :: true :: false :: false :: false :: true :: true :: false :: true :: true :: true :: true :: true :: true :: true :: true :: true :: true :: true :: true :: true :: true :: true :: true :: true :: true :: true :: true :: true :: true :: true :: true :: true :: true :: true :: true :: true :: true :: true :: true :: true :: true :: true :: true :: true :: true :: true :: true :: true :: true :: true :: true :: true :: true :: true :: true :: true :: true :: true :: true :: true :: true :: true :: true :: true :: true :: true :: true :: true :: true :: true :: true :: true :: true :: true :: true :: true :: true :: true :: true :: true :: true :: true :: true :: true :: true :: true :: true :: true :: true :: true :: true :: true :: true :: true :: true :: true :: true :: true :: true :: true :: true :: true :: true :: true :: true :: true :: true :: true :: true :: true :: true :: true :: true :: true :: true :: true :: true :: true :: true :: true :: true :: true :: true :: true :: true :: true :: true :: true :: true :: true :: true :: true :: true :: true :: true :: true :: true :: true :: true :: true :: true :: true :: true :: true :: true :: true :: true :: true :: true :: true :: true :: true :: true :: true :: true :: true :: true :: true :: true :: true :: true :: true :: true :: true :: true :: true :: true :: true :: true :: true :: true :: true :: true :: true :: true :: true :: true :: true :: true :: true :: true :: true :: true :: true :: true :: true :: true :: true :: true :: true :: true :: true :: true :: true :: true :: true :: true :: true :: true :: true :: true :: true :: true :: true :: true :: true :: true :: true :: true :: true :: true :: true :: true :: true :: true :: true :: true :: true :: true :: true :: true :: true :: true :: true :: true :: true :: true :: true :: true :: true :: true :: true :: true :: true :: true :: true :: true :: true :: true :: true :: true :: true :: true :: true :: true :: true :: true :: true :: true :: true :: true :: true :: true :: true :: true :: true :: true :: true :: []) (env' := uL24n264) rfl ⟨b + 1, ?_, rfl, ?_⟩
                · first | omega | (simp only []; omega)
                · exact ⟨by omega, rfl⟩
            · try simp only [decide_eq_true_eq, decide_eq_false_iff_not, Bool.not_eq_true', Bool.not_eq_false', bne_iff_ne, beq_iff_eq, Bool.and_eq_true, Bool.or_eq_true, Bool.not_eq_true, ge_iff_le, gt_iff_lt, Int.not_le, Int.not_lt, beq_eq_false_iff_ne, bne_eq_false_iff_eq, ne_eq, Decidable.not_not, wd_zero, wd_one, wd_inj] at hc13
              refine B_exit ?_
              refine K_seqX ?_
              refine K_loopX ?_
              refine K_blkX ?_
              refine K_seq ?_
              refine B_seq ?_
              refine B_region ?_
              refine L_op (env' := uL24n264) rfl rfl (v_move (.inl rfl) rfl) rfl ?_
              refine L_op (env' := uL24n264) rfl rfl (rfl) rfl ?_
              refine L_op (env' := uL24n264) rfl rfl (rfl) rfl ?_
              refine L_nil ?_
              refine K_seq ?_
              refine B_cond _ rfl (fun hc16 => ?_) (fun hc16 => ?_)
              · try simp only [decide_eq_true_eq, decide_eq_false_iff_not, Bool.not_eq_true', Bool.not_eq_false', bne_iff_ne, beq_iff_eq, Bool.and_eq_true, Bool.or_eq_true, Bool.not_eq_true, ge_iff_le, gt_iff_lt, Int.not_le, Int.not_lt, beq_eq_false_iff_ne, bne_eq_false_iff_eq, ne_eq, Decidable.not_not, wd_zero, wd_one, wd_inj] at hc16
                refine B_region ?_
                refine L_op (env' := uL24n264) rfl rfl (v_move (.inl rfl) rfl) rfl ?_
                refine L_op (env' := uL24n264) rfl rfl (v_move (.inl rfl) rfl) rfl ?_
                refine L_op (env' := uL24n264) rfl rfl (v_orW rfl rfl rfl) rfl ?_
                refine L_op (env' := uL24n264) rfl rfl (v_move (.inr rfl) rfl) rfl ?_
                refine L_nil ?_
                refine K_blk ?_
                refine K_seq ?_
                refine B_region ?_
                refine L_op (env' := uL24n264) rfl rfl (v_move (.inl rfl) rfl) rfl ?_
                refine L_op (env' := uL24n264) rfl rfl (v_addI rfl rfl rfl (by first | assumption | omega | (simp [*]; done) | (simp at *; omega))) rfl ?_
                refine L_op (env' := uL24n264) rfl rfl (v_move (.inr rfl) rfl) rfl ?_
                refine L_nil ?_
                first
                  | (have hE : spr J (th3 a) ||| spr J (1#64 <<< a) = spr J (th3 (a + 1)) := by rw [th3, if_pos (tmod3.1 (by assumption)), spr_or]); rw [hE]
                  | (have hE : spr J (th3 a) = spr J (th3 (a + 1)) := by rw [th3, if_neg (mt tmod3.2 (by assumption))]); rw [hE]
                refine K_loop (true :: true :: true :: false :: true :: false :: true :: false :: false :: true :: true :: true :: true :: true :: true :: true :: true :: true :: true :: true :: true :: true :: true :: true :: true :: true :: true :: true :: true :: true :: true :: true :: true :: true :: true :: true :: true :: true :: true :: true :: true :: true :: true :: true :: true :: true :: true :: true :: true :: true :: true :: true :: true :: true :: true :: true :: true :: true :: true :: true :: true :: true :: true :: true :: true :: true :: true :: true :: true :: true :: true :: true :: true :: true :: true :: true :: true :: true :: true :: true :: true :: true :: true :: true :: true :: true :: true :: true :: true :: true :: true :: true :: true :: true :: true :: true :: true :: true :: true :: true :: true :: true :: true :: true :: true :: true :: true :: true :: true :: true :: true :: true :: true :: true :: true :: true :: true :: true :: true :: true :: true :: true :: true :: true :: true :: true :: true :: true :: true :: true :: true :: true :: true :: true :: true :: true :: true :: true :: true :: true :: true :: true :: true :: true :: true :: true :: true :: true :: true :: true :: true :: true :: true :: true :: true :: true :: true :: true :: true :: true :: true :: true :: true :: true :: true :: true :: true :: true :: true :: true :: true :: true :: true :: true :: true :: true :: true :: true :: true :: true :: true :: true :: true :: true :: true :: true :: true :: true :: true :: true :: true :: true :: true :: true :: true :: true :: true :: true :: true :: true :: true :: true :: true :: true :: true :: true :: true :: true :: true :: true :: true :: true :: true :: true :: true :: true :: true :: true :: true :: true :: true :: true :: true :: true :: true :: true :: true :: true :: true :: true :: true :: true :: true :: true :: true :: true :: true :: true :: true :: true :: true :: true :: true :: true :: true :: true :: true :: true :: true :: true :: true :: true :: true :: true :: true :: true :: true :: true :: true :: true :: true :: true :: true :: true :: []) (env' := uL24n264) rfl ⟨a + 1, ?_, rfl, ?_⟩
                · first | omega | (simp only []; omega)
                · exact ⟨by omega, rfl⟩
              · try simp only [decide_eq_true_eq, decide_eq_false_iff_not, Bool.not_eq_true', Bool.not_eq_false', bne_iff_ne, beq_iff_eq, Bool.and_eq_true, Bool.or_eq_true, Bool.not_eq_true, ge_iff_le, gt_iff_lt, Int.not_le, Int.not_lt, beq_eq_false_iff_ne, bne_eq_false_iff_eq, ne_eq, Decidable.not_not, wd_zero, wd_one, wd_inj] at hc16
                refine B_skip ?_
                refine K_blk ?_
                refine K_seq ?_
                refine B_region ?_
                refine L_op (env' := uL24n264) rfl rfl (v_move (.inl rfl) rfl) rfl ?_
                refine L_op (env' := uL24n264) rfl rfl (v_addI rfl rfl rfl (by first | assumption | omega | (simp [*]; done) | (simp at *; omega))) rfl ?_
                refine L_op (env' := uL24n264) rfl rfl (v_move (.inr rfl) rfl) rfl ?_
                refine L_nil ?_
                first
                  | (have hE : spr J (th3 a) ||| spr J (1#64 <<< a) = spr J (th3 (a + 1)) := by rw [th3, if_pos (tmod3.1 (by assumption)), spr_or]); rw [hE]
                  | (have hE : spr J (th3 a) = spr J (th3 (a + 1)) := by rw [th3, if_neg (mt tmod3.2 (by assumption))]); rw [hE]
                refine K_loop (true :: true :: true :: false :: true :: false :: true :: false :: false :: true :: true :: true :: true :: true :: true :: true :: true :: true :: true :: true :: true :: true :: true :: true :: true :: true :: true :: true :: true :: true :: true :: true :: true :: true :: true :: true :: true :: true :: true :: true :: true :: true :: true :: true :: true :: true :: true :: true :: true :: true :: true :: true :: true :: true :: true :: true :: true :: true :: true :: true :: true :: true :: true :: true :: true :: true :: true :: true :: true :: true :: true :: true :: true :: true :: true :: true :: true :: true :: true :: true :: true :: true :: true :: true :: true :: true :: true :: true :: true :: true :: true :: true :: true :: true :: true :: true :: true :: true :: true :: true :: true :: true :: true :: true :: true :: true :: true :: true :: true :: true :: true :: true :: true :: true :: true :: true :: true :: true :: true :: true :: true :: true :: true :: true :: true :: true :: true :: true :: true :: true :: true :: true :: true :: true :: true :: true :: true :: true :: true :: true :: true :: true :: true :: true :: true :: true :: true :: true :: true :: true :: true :: true :: true :: true :: true :: true :: true :: true :: true :: true :: true :: true :: true :: true :: true :: true :: true :: true :: true :: true :: true :: true :: true :: true :: true :: true :: true :: true :: true :: true :: true :: true :: true :: true :: true :: true :: true :: true :: true :: true :: true :: true :: true :: true :: true :: true :: true :: true :: true :: true :: true :: true :: true :: true :: true :: true :: true :: true :: true :: true :: true :: true :: true :: true :: true :: true :: true :: true :: true :: true :: true :: true :: true :: true :: true :: true :: true :: true :: true :: true :: true :: true :: true :: true :: true :: true :: true :: true :: true :: true :: true :: true :: true :: true :: true :: true :: true :: true :: true :: true :: true :: true :: true :: true :: true :: true :: true :: true :: true :: true :: true :: true :: true :: true :: []) (env' := uL24n264) rfl ⟨a + 1, ?_, rfl, ?_⟩
                · first | omega | (simp only []; omega)
                · exact ⟨by omega, rfl⟩
        · try simp only [decide_eq_true_eq, decide_eq_false_iff_not, Bool.not_eq_true', Bool.not_eq_false', bne_iff_ne, beq_iff_eq, Bool.and_eq_true, Bool.or_eq_true, Bool.not_eq_true, ge_iff_le, gt_iff_lt, Int.not_le, Int.not_lt, beq_eq_false_iff_ne, bne_eq_false_iff_eq, ne_eq, Decidable.not_not, wd_zero, wd_one, wd_inj] at hc9
          refine B_exit ?_
          refine K_seqX ?_
          refine K_loopX ?_
          refine K_blkX ?_
          refine K_seq ?_
          refine B_seq ?_
          obtain rfl : a = 64 := by omega
          rw [th3_all]
          refine B_region ?_
          refine L_op (env' := uL24n264) rfl rfl (v_move (.inl rfl) rfl) rfl ?_
          refine L_call rfl rfl rfl (by exact Spread_spec _ _ J (get_app rfl rfl) hR.len 10540996613548315209#64) ?_
          rintro _ _ ⟨rfl, rfl⟩
          refine L_env (env' := uL24n264) rfl ?_
          refine L_op (env' := uL24n264) rfl rfl (v_move (.inl rfl) rfl) rfl ?_
          refine L_op (env' := uL24n264) rfl rfl (rfl) rfl ?_
          refine L_op (env' := uL24n264) rfl rfl (v_move (.inr rfl) rfl) rfl ?_
          refine L_nil ?_
          refine K_seq ?_
          refine B_ret ?_
          refine E_app (.inr rfl) (vres_tmp rfl rfl) (by first | exact BaseOk.refl _ | exact BaseOk.set (BaseOk.refl _) _ rfl) (by first | rfl | simp [VVal.under, VVal.underL, *]) ?_
          exact ⟨by simp, rfl⟩
  · try simp only [decide_eq_true_eq, decide_eq_false_iff_not, Bool.not_eq_true', Bool.not_eq_false', bne_iff_ne, beq_iff_eq, Bool.and_eq_true, Bool.or_eq_true, Bool.not_eq_true, ge_iff_le, gt_iff_lt, Int.not_le, Int.not_lt, beq_eq_false_iff_ne, bne_eq_false_iff_eq, ne_eq, Decidable.not_not, wd_zero, wd_one, wd_inj] at hg1
    refine L_off (env' := uL24n264) rfl rfl ?_
    refine L_off (env' := uL24n264) rfl rfl ?_
    refine L_op (env' := uL24n264) rfl rfl (v_pickFC (VVal.bool false) rfl rfl rfl) rfl ?_
    refine L_nil ?_
    refine K_seq ?_
    refine B_false rfl rfl ?_
    refine B_exit ?_
    refine K_seqX ?_
    refine K_loopX ?_
    refine K_blkX ?_
    refine K_seq ?_
    refine B_seq ?_
    refine B_region ?_
    refine L_op (env' := uL24n264) rfl rfl (v_move (.inl rfl) rfl) rfl ?_
    refine L_call rfl rfl rfl (by exact Links_spec _ _ J (get_app rfl rfl) hR.len) ?_
    rintro _ _ ⟨rfl, rfl⟩
    refine L_env (env' := uL24n264) rfl ?_
    refine L_op (env' := uL24n264) rfl rfl (v_move (.inr rfl) rfl) rfl ?_
    refine L_nil ?_
    refine K_seq ?_
    refine B_seq ?_
    refine B_seq ?_
    refine B_region ?_
    refine L_op (env' := uL24n264) rfl rfl (v_const (VVal.int .i64 0) (.inr rfl) rfl) rfl ?_
    refine L_nil ?_
    refine K_seq ?_
    refine B_block ?_
    refine B_clear (true :: true :: true :: false :: true :: false :: false :: true :: true :: true :: true :: true :: true :: true :: true :: true :: true :: true :: true :: true :: true :: true :: true :: true :: true :: true :: true :: true :: true :: true :: true :: true :: true :: true :: true :: true :: true :: true :: true :: true :: true :: true :: true :: true :: true :: true :: true :: true :: true :: true :: true :: true :: true :: true :: true :: true :: true :: true :: true :: true :: true :: true :: true :: true :: true :: true :: true :: true :: true :: true :: true :: true :: true :: true :: true :: true :: true :: true :: true :: true :: true :: true :: true :: true :: true :: true :: true :: true :: true :: true :: true :: true :: true :: true :: true :: true :: true :: true :: true :: true :: true :: true :: true :: true :: true :: true :: true :: true :: true :: true :: true :: true :: true :: true :: true :: true :: true :: true :: true :: true :: true :: true :: true :: true :: true :: true :: true :: true :: true :: true :: true :: true :: true :: true :: true :: true :: true :: true :: true :: true :: true :: true :: true :: true :: true :: true :: true :: true :: true :: true :: true :: true :: true :: true :: true :: true :: true :: true :: true :: true :: true :: true :: true :: true :: true :: true :: true :: true :: true :: true :: true :: true :: true :: true :: true :: true :: true :: true :: true :: true :: true :: true :: true :: true :: true :: true :: true :: true :: true :: true :: true :: true :: true :: true :: true :: true :: true :: true :: true :: true :: true :: true :: true :: true :: true :: true :: true :: true :: true :: true :: true :: true :: true :: true :: true :: true :: true :: true :: true :: true :: true :: true :: true :: true :: true :: true :: true :: true :: true :: true :: true :: true :: true :: true :: true :: true :: true :: true :: true :: true :: true :: true :: true :: true :: true :: true :: true :: true :: true :: true :: true :: true :: true :: true :: true :: true :: true :: true :: true :: true :: true :: true :: true :: true :: []) (env' := uL24n264) rfl ?_
    have hll : (lkL J).length ≤ 4096 := @lkTo_len J 64
    refine B_loopE (fun (i : Nat) => (lkL J).length - i) (fun (i : Nat) => [(6, iI (i : Nat))]) (fun (i : Nat) G => (i ≤ (lkL J).length) ∧ G = H ++ [rkB J]) 0 rfl ?_ ?_
    · refine ⟨?_, rfl⟩
      exact Nat.zero_le _
    rintro i _ ⟨hi, rfl⟩
    refine B_env (env' := uL24n264) rfl ?_
    refine B_seq ?_
    refine B_seq ?_
    refine B_region ?_
    refine L_op (env' := uL24n264) rfl rfl (v_move (.inl rfl) rfl) rfl ?_
    refine L_op (env' := uL24n264) rfl rfl (v_move (.inl rfl) rfl) rfl ?_
    refine L_op (env' := uL24n264) rfl rfl (rfl) rfl ?_
    refine L_op (env' := uL24n264) rfl rfl (rfl) rfl ?_
    refine L_nil ?_
    refine K_seq ?_
    refine B_cond _ rfl (fun hc17 => ?_) (fun hc17 => ?_)
    · try simp only [decide_eq_true_eq, decide_eq_false_iff_not, Bool.not_eq_true', Bool.not_eq_false', bne_iff_ne, beq_iff_eq, Bool.and_eq_true, Bool.or_eq_true, Bool.not_eq_true, ge_iff_le, gt_iff_lt, Int.not_le, Int.not_lt, beq_eq_false_iff_ne, bne_eq_false_iff_eq, ne_eq, Decidable.not_not, wd_zero, wd_one, wd_inj] at hc17
      refine B_skip ?_
      refine K_seq ?_
      refine B_seq ?_
      refine B_block ?_
      refine B_seq ?_
      have hmem := hR.lnk_lt (getD_mem (d := (0, 0)) (show (i : Int).toNat < (lkL J).length by omega))
      have hhas : hasB J ((lkL J).getD (i : Int).toNat (0, 0)).1 ((lkL J).getD (i : Int).toNat (0, 0)).2 = true := by
        unfold hasB; rw [decide_eq_true (by omega), decide_eq_true (by omega), Bool.true_and, Bool.true_and]; exact hmem.2.2.2.2
      have hlex : 0 < i → lexP ((lkL J).getD ((i : Int) - 1).toNat (0, 0)) ((lkL J).getD (i : Int).toNat (0, 0)) := fun h0 => by
        have := lkL_at (J := J) (i := i - 1) (by omega)
        rw [show i - 1 + 1 = i by omega] at this
        rw [show ((i : Int) - 1).toNat = i - 1 by omega]; exact this
      refine B_draw [0, 1, 2, 3, 4, 5, 6, 7, 8, 9, 10, 11, 12, 13, 14, 15, 16, 17, 18, 19, 20, 21, 22, 23, 24, 25, 26, 27, 28, 29, 30, 31, 32, 33, 34, 35, 36, 37, 38, 39, 40, 41, 42, 43, 44, 45, 46, 47, 48, 49, 50, 51, 52, 53, 54, 55, 56, 57, 58, 59, 60, 61, 62, 63, 64, 65, 66, 67, 68, 69, 70, 71, 72, 73, 74, 75, 76, 77, 78, 79, 80, 81, 82, 83, 84, 85, 86, 87, 88, 89, 90, 91] #[0, 0, 3, 7, 15, 31, 63, 127, 127, 511, 1023, 2047, 4095, 8191, 16383, 32767, 32767, 131071, 262143, 524287, 1048575, 2097151, 4194303, 8388607, 8388607, 33554431, 67108863, 134217727, 268435455, 536870911, 1073741823, 2147483647, 2147483647, 2147483647, 15032385535, 32212254719, 66571993087, 2147483647, 2147483647, 414464344063, 964220157951, 2063731785727, 4398046511103, 8796093022207, 17592186044415, 35184372088831, 70368744177663, 140737488355327, 281474976710655, 562949953421311, 562949953421311, 1688849860263935, 4503599627370495, 9007199254740991, 18014398509481983, 562949953421311, 562949953421311, 108649341010313215, 252764529086169087, 540994905237880831, 1152921504606846975, 2305843009213693951, 4611686018427387903, 4611686018427387903, 13835058055282163711, 36893488147419103231, 73786976294838206463, 147573952589676412927, 4611686018427387903, 4611686018427387903, 890055401556485865471, 2070647022273897168895, 4431830263708719775743, 9444732965739290427391, 18889465931478580854783, 37778931862957161709567, 37778931862957161709567, 113336795588871485128703, 302231454903657293676543, 604462909807314587353087, 1208925819614629174706175, 37778931862957161709567, 37778931862957161709567, 7291333849550732209946623, 16962740406467765607596031, 36305553520301832402894847, 77371252455336267181195263, 154742504910672534362390527, 309485009821345068724781055, 618970019642690137449562111, 1237940039285380274899124223, 2475880078570760549798248447] (by kernel_rfl) (by kernel_rfl) (by kernel_rfl) ?_
      refine O_op (env' := uL24n264) (c := .calm) rfl rfl rfl (v_move (.inl rfl) rfl) rfl rfl rfl ?_
      refine O_op (env' := uL24n264) (c := .calm) rfl rfl rfl (v_move (.inl rfl) rfl) rfl rfl rfl ?_
      refine O_op (env' := uL24n264) (c := .calm) rfl rfl rfl (by first | exact v_idxF rfl rfl rfl rfl rfl rfl rfl (by first | assumption | omega | (simp [*]; done) | (simp at *; omega)) | exact v_idx rfl rfl rfl rfl rfl rfl rfl (by first | assumption | omega | (simp [*]; done) | (simp at *; omega))) rfl rfl rfl ?_
      refine O_op (env' := uL24n264) (c := .calm) rfl rfl rfl (by first | exact v_idxFA rfl rfl rfl rfl rfl rfl (by first | assumption | omega | (simp [*]; done) | (simp at *; omega)) | exact v_idxA rfl rfl rfl rfl rfl rfl (by first | assumption | omega | (simp [*]; done) | (simp at *; omega))) rfl rfl rfl ?_
      refine O_op (env' := uL24n264) (c := .look) rfl rfl rfl (by first | exact v_loadF rfl rfl rfl rfl (by first | exact op_c0 (by omega) | exact op_c1 (by omega) | exact op_c2 (by omega) | exact op_c3 (by omega) | exact op_c4 (by omega) | exact pair_c0 (by omega) | exact pair_c1 (by omega) | rfl) | exact v_load rfl rfl rfl rfl (by first | exact get_app rfl rfl | exact get_out (by assumption) | assumption | (simp [*]; done)) (by first | exact op_c0 (by omega) | exact op_c1 (by omega) | exact op_c2 (by omega) | exact op_c3 (by omega) | exact op_c4 (by omega) | exact pair_c0 (by omega) | exact pair_c1 (by omega) | rfl)) rfl rfl rfl ?_
      refine O_op (env' := uL24n264) (c := .calm) rfl rfl rfl (v_is false rfl (decide_eq_false (by omega))) rfl rfl rfl ?_
      refine O_op (env' := uL24n264) (c := .calm) rfl rfl rfl (v_move (.inl rfl) rfl) rfl rfl rfl ?_
      refine O_op (env' := uL24n264) (c := .calm) rfl rfl rfl (v_move (.inl rfl) rfl) rfl rfl rfl ?_
      refine O_op (env' := uL24n264) (c := .calm) rfl rfl rfl (v_move (.inl rfl) rfl) rfl rfl rfl ?_
      refine O_op (env' := uL24n264) (c := .calm) rfl rfl rfl (by first | exact v_idxF rfl rfl rfl rfl rfl rfl rfl (by first | assumption | omega | (simp [*]; done) | (simp at *; omega)) | exact v_idx rfl rfl rfl rfl rfl rfl rfl (by first | assumption | omega | (simp [*]; done) | (simp at *; omega))) rfl rfl rfl ?_
      refine O_op (env' := uL24n264) (c := .calm) rfl rfl rfl (by first | exact v_idxFA rfl rfl rfl rfl rfl rfl (by first | assumption | omega | (simp [*]; done) | (simp at *; omega)) | exact v_idxA rfl rfl rfl rfl rfl rfl (by first | assumption | omega | (simp [*]; done) | (simp at *; omega))) rfl rfl rfl ?_
      refine O_op (env' := uL24n264) (c := .look) rfl rfl rfl (by first | exact v_loadF rfl rfl rfl rfl (by first | exact op_c0 (by omega) | exact op_c1 (by omega) | exact op_c2 (by omega) | exact op_c3 (by omega) | exact op_c4 (by omega) | exact pair_c0 (by omega) | exact pair_c1 (by omega) | rfl) | exact v_load rfl rfl rfl rfl (by first | exact get_app rfl rfl | exact get_out (by assumption) | assumption | (simp [*]; done)) (by first | exact op_c0 (by omega) | exact op_c1 (by omega) | exact op_c2 (by omega) | exact op_c3 (by omega) | exact op_c4 (by omega) | exact pair_c0 (by omega) | exact pair_c1 (by omega) | rfl)) rfl rfl rfl ?_
      refine O_op (env' := uL24n264) (c := .calm) rfl rfl rfl (v_is false rfl (decide_eq_false (by omega))) rfl rfl rfl ?_
      refine O_op (env' := uL24n264) (c := .calm) rfl rfl rfl (v_pickF rfl rfl rfl) rfl rfl rfl ?_
      refine O_op (env' := uL24n264) (c := .calm) rfl rfl rfl (v_move (.inl rfl) rfl) rfl rfl rfl ?_
      refine O_op (env' := uL24n264) (c := .calm) rfl rfl rfl (v_move (.inl rfl) rfl) rfl rfl rfl ?_
      refine O_op (env' := uL24n264) (c := .calm) rfl rfl rfl (v_move (.inl rfl) rfl) rfl rfl rfl ?_
      refine O_op (env' := uL24n264) (c := .calm) rfl rfl rfl (by first | exact v_idxF rfl rfl rfl rfl rfl rfl rfl (by first | assumption | omega | (simp [*]; done) | (simp at *; omega)) | exact v_idx rfl rfl rfl rfl rfl rfl rfl (by first | assumption | omega | (simp [*]; done) | (simp at *; omega))) rfl rfl rfl ?_
      refine O_op (env' := uL24n264) (c := .calm) rfl rfl rfl (by first | exact v_idxFA rfl rfl rfl rfl rfl rfl (by first | assumption | omega | (simp [*]; done) | (simp at *; omega)) | exact v_idxA rfl rfl rfl rfl rfl rfl (by first | assumption | omega | (simp [*]; done) | (simp at *; omega))) rfl rfl rfl ?_
      refine O_op (env' := uL24n264) (c := .look) rfl rfl rfl (by first | exact v_loadF rfl rfl rfl rfl (by first | exact op_c0 (by omega) | exact op_c1 (by omega) | exact op_c2 (by omega) | exact op_c3 (by omega) | exact op_c4 (by omega) | exact pair_c0 (by omega) | exact pair_c1 (by omega) | rfl) | exact v_load rfl rfl rfl rfl (by first | exact get_app rfl rfl | exact get_out (by assumption) | assumption | (simp [*]; done)) (by first | exact op_c0 (by omega) | exact op_c1 (by omega) | exact op_c2 (by omega) | exact op_c3 (by omega) | exact op_c4 (by omega) | exact pair_c0 (by omega) | exact pair_c1 (by omega) | rfl)) rfl rfl rfl ?_
      refine O_op (env' := uL24n264) (c := .calm) rfl rfl rfl (v_is false rfl (decide_eq_false (by omega))) rfl rfl rfl ?_
      refine O_op (env' := uL24n264) (c := .calm) rfl rfl rfl (v_pickF rfl rfl rfl) rfl rfl rfl ?_
      refine O_op (env' := uL24n264) (c := .calm) rfl rfl rfl (v_move (.inl rfl) rfl) rfl rfl rfl ?_
      refine O_op (env' := uL24n264) (c := .calm) rfl rfl rfl (v_move (.inl rfl) rfl) rfl rfl rfl ?_
      refine O_op (env' := uL24n264) (c := .calm) rfl rfl rfl (v_move (.inl rfl) rfl) rfl rfl rfl ?_
      refine O_op (env' := uL24n264) (c := .calm) rfl rfl rfl (by first | exact v_idxF rfl rfl rfl rfl rfl rfl rfl (by first | assumption | omega | (simp [*]; done) | (simp at *; omega)) | exact v_idx rfl rfl rfl rfl rfl rfl rfl (by first | assumption | omega | (simp [*]; done) | (simp at *; omega))) rfl rfl rfl ?_
      refine O_op (env' := uL24n264) (c := .calm) rfl rfl rfl (by first | exact v_idxFA rfl rfl rfl rfl rfl rfl (by first | assumption | omega | (simp [*]; done) | (simp at *; omega)) | exact v_idxA rfl rfl rfl rfl rfl rfl (by first | assumption | omega | (simp [*]; done) | (simp at *; omega))) rfl rfl rfl ?_
      refine O_op (env' := uL24n264) (c := .look) rfl rfl rfl (by first | exact v_loadF rfl rfl rfl rfl (by first | exact op_c0 (by omega) | exact op_c1 (by omega) | exact op_c2 (by omega) | exact op_c3 (by omega) | exact op_c4 (by omega) | exact pair_c0 (by omega) | exact pair_c1 (by omega) | rfl) | exact v_load rfl rfl rfl rfl (by first | exact get_app rfl rfl | exact get_out (by assumption) | assumption | (simp [*]; done)) (by first | exact op_c0 (by omega) | exact op_c1 (by omega) | exact op_c2 (by omega) | exact op_c3 (by omega) | exact op_c4 (by omega) | exact pair_c0 (by omega) | exact pair_c1 (by omega) | rfl)) rfl rfl rfl ?_
      refine O_op (env' := uL24n264) (c := .calm) rfl rfl rfl (v_is false rfl (decide_eq_false (by omega))) rfl rfl rfl ?_
      refine O_op (env' := uL24n264) (c := .calm) rfl rfl rfl (v_pickF rfl rfl rfl) rfl rfl rfl ?_
      refine O_op (env' := uL24n264) (c := .calm) rfl rfl rfl (v_move (.inl rfl) rfl) rfl rfl rfl ?_
      refine O_op (env' := uL24n264) (c := .calm) rfl rfl rfl (v_move (.inl rfl) rfl) rfl rfl rfl ?_
      refine O_op (env' := uL24n264) (c := .calm) rfl rfl rfl (v_move (.inl rfl) rfl) rfl rfl rfl ?_
      refine O_op (env' := uL24n264) (c := .calm) rfl rfl rfl (v_move (.inl rfl) rfl) rfl rfl rfl ?_
      refine O_op (env' := uL24n264) (c := .calm) rfl rfl rfl (by first | exact v_idxF rfl rfl rfl rfl rfl rfl rfl (by first | assumption | omega | (simp [*]; done) | (simp at *; omega)) | exact v_idx rfl rfl rfl rfl rfl rfl rfl (by first | assumption | omega | (simp [*]; done) | (simp at *; omega))) rfl rfl rfl ?_
      refine O_op (env' := uL24n264) (c := .calm) rfl rfl rfl (by first | exact v_idxFA rfl rfl rfl rfl rfl rfl (by first | assumption | omega | (simp [*]; done) | (simp at *; omega)) | exact v_idxA rfl rfl rfl rfl rfl rfl (by first | assumption | omega | (simp [*]; done) | (simp at *; omega))) rfl rfl rfl ?_
      refine O_op (env' := uL24n264) (c := .look) rfl rfl rfl (by first | exact v_loadF rfl rfl rfl rfl (by first | exact op_c0 (by omega) | exact op_c1 (by omega) | exact op_c2 (by omega) | exact op_c3 (by omega) | exact op_c4 (by omega) | exact pair_c0 (by omega) | exact pair_c1 (by omega) | rfl) | exact v_load rfl rfl rfl rfl (by first | exact get_app rfl rfl | exact get_out (by assumption) | assumption | (simp [*]; done)) (by first | exact op_c0 (by omega) | exact op_c1 (by omega) | exact op_c2 (by omega) | exact op_c3 (by omega) | exact op_c4 (by omega) | exact pair_c0 (by omega) | exact pair_c1 (by omega) | rfl)) rfl rfl rfl ?_
      refine O_op (env' := uL24n264) (c := .calm) rfl rfl rfl (v_move (.inl rfl) rfl) rfl rfl rfl ?_
      refine O_op (env' := uL24n264) (c := .calm) rfl rfl rfl (v_move (.inl rfl) rfl) rfl rfl rfl ?_
      refine O_op (env' := uL24n264) (c := .calm) rfl rfl rfl (by first | exact v_idxF rfl rfl rfl rfl rfl rfl rfl (by first | assumption | omega | (simp [*]; done) | (simp at *; omega)) | exact v_idx rfl rfl rfl rfl rfl rfl rfl (by first | assumption | omega | (simp [*]; done) | (simp at *; omega))) rfl rfl rfl ?_
      refine O_op (env' := uL24n264) (c := .calm) rfl rfl rfl (by first | exact v_idxFA rfl rfl rfl rfl rfl rfl (by first | assumption | omega | (simp [*]; done) | (simp at *; omega)) | exact v_idxA rfl rfl rfl rfl rfl rfl (by first | assumption | omega | (simp [*]; done) | (simp at *; omega))) rfl rfl rfl ?_
      refine O_op (env' := uL24n264) (c := .look) rfl rfl rfl (by first | exact v_loadF rfl rfl rfl rfl (by first | exact op_c0 (by omega) | exact op_c1 (by omega) | exact op_c2 (by omega) | exact op_c3 (by omega) | exact op_c4 (by omega) | exact pair_c0 (by omega) | exact pair_c1 (by omega) | rfl) | exact v_load rfl rfl rfl rfl (by first | exact get_app rfl rfl | exact get_out (by assumption) | assumption | (simp [*]; done)) (by first | exact op_c0 (by omega) | exact op_c1 (by omega) | exact op_c2 (by omega) | exact op_c3 (by omega) | exact op_c4 (by omega) | exact pair_c0 (by omega) | exact pair_c1 (by omega) | rfl)) rfl rfl rfl ?_
      refine O_call (env' := uL24n264) rfl rfl rfl rfl rfl (by exact rkHas_spec _ _ J (get_app rfl rfl) hR.len _ _) (by first | exact Nat.le_refl _ | simp) rfl rfl ?_
      refine O_op (env' := uL24n264) (c := .calm) rfl rfl rfl (v_is false rfl (by rw [show hasB J _ _ = true from hhas]; rfl)) rfl rfl rfl ?_
      refine O_op (env' := uL24n264) (c := .calm) rfl rfl rfl (v_pickF rfl rfl rfl) rfl rfl rfl ?_
      refine O_op (env' := uL24n264) (c := .calm) rfl rfl rfl (v_move (.inl rfl) rfl) rfl rfl rfl ?_
      refine O_op (env' := uL24n264) (c := .calm) rfl rfl rfl (v_move (.inl rfl) rfl) rfl rfl rfl ?_
      refine O_op (env' := uL24n264) (c := .calm) rfl rfl rfl (rfl) rfl rfl rfl ?_
      refine O_op (env' := uL24n264) (c := .calm) rfl rfl rfl (v_move (.inl rfl) rfl) rfl rfl rfl ?_
      refine O_split 128 (env1 := uL24n264) (env2 := uL24n264) rfl rfl rfl (fun hg18 => ?_) (fun hg18 => ?_)
      · try simp only [decide_eq_true_eq, decide_eq_false_iff_not, Bool.not_eq_true', Bool.not_eq_false', bne_iff_ne, beq_iff_eq, Bool.and_eq_true, Bool.or_eq_true, Bool.not_eq_true, ge_iff_le, gt_iff_lt, Int.not_le, Int.not_lt, beq_eq_false_iff_ne, bne_eq_false_iff_eq, ne_eq, Decidable.not_not, wd_zero, wd_one, wd_inj] at hg18
        refine O_op (env' := uL24n264) (c := .calm) rfl rfl rfl (v_move (.inl rfl) rfl) rfl rfl rfl ?_
        refine O_op (env' := uL24n264) (c := .calm) rfl rfl rfl (v_move (.inl rfl) rfl) rfl rfl rfl ?_
        refine O_op (env' := uL24n264) (c := .calm) rfl rfl rfl (v_subI rfl rfl rfl (by first | assumption | omega | (simp [*]; done) | (simp at *; omega))) rfl rfl rfl ?_
        refine O_op (env' := uL24n264) (c := .calm) rfl rfl rfl (by first | exact v_idxF rfl rfl rfl rfl rfl rfl rfl (by first | assumption | omega | (simp [*]; done) | (simp at *; omega)) | exact v_idx rfl rfl rfl rfl rfl rfl rfl (by first | assumption | omega | (simp [*]; done) | (simp at *; omega))) rfl rfl rfl ?_
        refine O_op (env' := uL24n264) (c := .calm) rfl rfl rfl (by first | exact v_idxFA rfl rfl rfl rfl rfl rfl (by first | assumption | omega | (simp [*]; done) | (simp at *; omega)) | exact v_idxA rfl rfl rfl rfl rfl rfl (by first | assumption | omega | (simp [*]; done) | (simp at *; omega))) rfl rfl rfl ?_
        refine O_op (env' := uL24n264) (c := .look) rfl rfl rfl (by first | exact v_loadF rfl rfl rfl rfl (by first | exact op_c0 (by omega) | exact op_c1 (by omega) | exact op_c2 (by omega) | exact op_c3 (by omega) | exact op_c4 (by omega) | exact pair_c0 (by omega) | exact pair_c1 (by omega) | rfl) | exact v_load rfl rfl rfl rfl (by first | exact get_app rfl rfl | exact get_out (by assumption) | assumption | (simp [*]; done)) (by first | exact op_c0 (by omega) | exact op_c1 (by omega) | exact op_c2 (by omega) | exact op_c3 (by omega) | exact op_c4 (by omega) | exact pair_c0 (by omega) | exact pair_c1 (by omega) | rfl)) rfl rfl rfl ?_
        refine O_op (env' := uL24n264) (c := .calm) rfl rfl rfl (v_move (.inl rfl) rfl) rfl rfl rfl ?_
        refine O_op (env' := uL24n264) (c := .calm) rfl rfl rfl (v_move (.inl rfl) rfl) rfl rfl rfl ?_
        refine O_op (env' := uL24n264) (c := .calm) rfl rfl rfl (by first | exact v_idxF rfl rfl rfl rfl rfl rfl rfl (by first | assumption | omega | (simp [*]; done) | (simp at *; omega)) | exact v_idx rfl rfl rfl rfl rfl rfl rfl (by first | assumption | omega | (simp [*]; done) | (simp at *; omega))) rfl rfl rfl ?_
        refine O_op (env' := uL24n264) (c := .calm) rfl rfl rfl (by first | exact v_idxFA rfl rfl rfl rfl rfl rfl (by first | assumption | omega | (simp [*]; done) | (simp at *; omega)) | exact v_idxA rfl rfl rfl rfl rfl rfl (by first | assumption | omega | (simp [*]; done) | (simp at *; omega))) rfl rfl rfl ?_
        refine O_op (env' := uL24n264) (c := .look) rfl rfl rfl (by first | exact v_loadF rfl rfl rfl rfl (by first | exact op_c0 (by omega) | exact op_c1 (by omega) | exact op_c2 (by omega) | exact op_c3 (by omega) | exact op_c4 (by omega) | exact pair_c0 (by omega) | exact pair_c1 (by omega) | rfl) | exact v_load rfl rfl rfl rfl (by first | exact get_app rfl rfl | exact get_out (by assumption) | assumption | (simp [*]; done)) (by first | exact op_c0 (by omega) | exact op_c1 (by omega) | exact op_c2 (by omega) | exact op_c3 (by omega) | exact op_c4 (by omega) | exact pair_c0 (by omega) | exact pair_c1 (by omega) | rfl)) rfl rfl rfl ?_
        refine O_op (env' := uL24n264) (c := .calm) rfl rfl rfl (rfl) rfl rfl rfl ?_
        refine O_op (env' := uL24n264) (c := .calm) rfl rfl rfl (v_move (.inl rfl) rfl) rfl rfl rfl ?_
        refine O_split 141 (env1 := uL24n264) (env2 := uL24n264) rfl rfl rfl (fun hg19 => ?_) (fun hg19 => ?_)
        · try simp only [decide_eq_true_eq, decide_eq_false_iff_not, Bool.not_eq_true', Bool.not_eq_false', bne_iff_ne, beq_iff_eq, Bool.and_eq_true, Bool.or_eq_true, Bool.not_eq_true, ge_iff_le, gt_iff_lt, Int.not_le, Int.not_lt, beq_eq_false_iff_ne, bne_eq_false_iff_eq, ne_eq, Decidable.not_not, wd_zero, wd_one, wd_inj] at hg19
          refine O_off (env' := uL24n264) rfl rfl rfl rfl ?_
          refine O_off (env' := uL24n264) rfl rfl rfl rfl ?_
          refine O_off (env' := uL24n264) rfl rfl rfl rfl ?_
          refine O_off (env' := uL24n264) rfl rfl rfl rfl ?_
          refine O_off (env' := uL24n264) rfl rfl rfl rfl ?_
          refine O_off (env' := uL24n264) rfl rfl rfl rfl ?_
          refine O_off (env' := uL24n264) rfl rfl rfl rfl ?_
          refine O_off (env' := uL24n264) rfl rfl rfl rfl ?_
          refine O_off (env' := uL24n264) rfl rfl rfl rfl ?_
          refine O_off (env' := uL24n264) rfl rfl rfl rfl ?_
          refine O_off (env' := uL24n264) rfl rfl rfl rfl ?_
          refine O_off (env' := uL24n264) rfl rfl rfl rfl ?_
          refine O_off (env' := uL24n264) rfl rfl rfl rfl ?_
          refine O_off (env' := uL24n264) rfl rfl rfl rfl ?_
          refine O_off (env' := uL24n264) rfl rfl rfl rfl ?_
          refine O_off (env' := uL24n264) rfl rfl rfl rfl ?_
          refine O_off (env' := uL24n264) rfl rfl rfl rfl ?_
          refine O_off (env' := uL24n264) rfl rfl rfl rfl ?_
          refine O_off (env' := uL24n264) rfl rfl rfl rfl ?_
          refine O_off (env' := uL24n264) rfl rfl rfl rfl ?_
          refine O_off (env' := uL24n264) rfl rfl rfl rfl ?_
          refine O_off (env' := uL24n264) rfl rfl rfl rfl ?_
          refine O_off (env' := uL24n264) rfl rfl rfl rfl ?_
          refine O_off (env' := uL24n264) rfl rfl rfl rfl ?_
          refine O_off (env' := uL24n264) rfl rfl rfl rfl ?_
          refine O_off (env' := uL24n264) rfl rfl rfl rfl ?_
          refine O_op (env' := uL24n264) (c := .calm) rfl rfl rfl (v_pickTC (VVal.bool true) rfl rfl rfl) rfl rfl rfl ?_
          refine O_op (env' := uL24n264) (c := .calm) rfl rfl rfl (rfl) rfl rfl rfl ?_
          refine O_op (env' := uL24n264) (c := .calm) rfl rfl rfl (v_pickT rfl rfl rfl) rfl rfl rfl ?_
          refine O_op (env' := uL24n264) (c := .calm) rfl rfl rfl (v_pickF rfl rfl rfl) rfl rfl rfl ?_
          refine O_nil [] (by kernel_rfl) (trivial) ?_
          refine K_seq ?_
          refine B_false rfl rfl ?_
          refine B_skip ?_
          refine K_blk ?_
          refine K_seq ?_
          refine B_region ?_
          refine L_op (env' := uL24n264) rfl rfl (v_move (.inl rfl) rfl) rfl ?_
          refine L_op (env' := uL24n264) rfl rfl (v_addI rfl rfl rfl (by first | assumption | omega | (simp [*]; done) | (simp at *; omega))) rfl ?_
          refine L_op (env' := uL24n264) rfl rfl (v_move (.inr rfl) rfl) rfl ?_
          refine L_nil ?_
          refine K_loop (true :: true :: true :: false :: true :: false :: false :: true :: true :: true :: true :: true :: true :: true :: true :: true :: true :: true :: true :: true :: true :: true :: true :: true :: true :: true :: true :: true :: true :: true :: true :: true :: true :: true :: true :: true :: true :: true :: true :: true :: true :: true :: true :: true :: true :: true :: true :: true :: true :: true :: true :: true :: true :: true :: true :: true :: true :: true :: true :: true :: true :: true :: true :: true :: true :: true :: true :: true :: true :: true :: true :: true :: true :: true :: true :: true :: true :: true :: true :: true :: true :: true :: true :: true :: true :: true :: true :: true :: true :: true :: true :: true :: true :: true :: true :: true :: true :: true :: true :: true :: true :: true :: true :: true :: true :: true :: true :: true :: true :: true :: true :: true :: true :: true :: true :: true :: true :: true :: true :: true :: true :: true :: true :: true :: true :: true :: true :: true :: true :: true :: true :: true :: true :: true :: true :: true :: true :: true :: true :: true :: true :: true :: true :: true :: true :: true :: true :: true :: true :: true :: true :: true :: true :: true :: true :: true :: true :: true :: true :: true :: true :: true :: true :: true :: true :: true :: true :: true :: true :: true :: true :: true :: true :: true :: true :: true :: true :: true :: true :: true :: true :: true :: true :: true :: true :: true :: true :: true :: true :: true :: true :: true :: true :: true :: true :: true :: true :: true :: true :: true :: true :: true :: true :: true :: true :: true :: true :: true :: true :: true :: true :: true :: true :: true :: true :: true :: true :: true :: true :: true :: true :: true :: true :: true :: true :: true :: true :: true :: true :: true :: true :: true :: true :: true :: true :: true :: true :: true :: true :: true :: true :: true :: true :: true :: true :: true :: true :: true :: true :: true :: true :: true :: true :: true :: true :: true :: true :: true :: true :: true :: true :: true :: true :: true :: []) (env' := uL24n264) rfl ⟨i + 1, ?_, rfl, ?_⟩
          · first | omega | (simp only []; omega)
          · exact ⟨by omega, rfl⟩
        · try simp only [decide_eq_true_eq, decide_eq_false_iff_not, Bool.not_eq_true', Bool.not_eq_false', bne_iff_ne, beq_iff_eq, Bool.and_eq_true, Bool.or_eq_true, Bool.not_eq_true, ge_iff_le, gt_iff_lt, Int.not_le, Int.not_lt, beq_eq_false_iff_ne, bne_eq_false_iff_eq, ne_eq, Decidable.not_not, wd_zero, wd_one, wd_inj] at hg19
          refine O_op (env' := uL24n264) (c := .calm) rfl rfl rfl (v_move (.inl rfl) rfl) rfl rfl rfl ?_
          refine O_op (env' := uL24n264) (c := .calm) rfl rfl rfl (v_move (.inl rfl) rfl) rfl rfl rfl ?_
          refine O_op (env' := uL24n264) (c := .calm) rfl rfl rfl (v_subI rfl rfl rfl (by first | assumption | omega | (simp [*]; done) | (simp at *; omega))) rfl rfl rfl ?_
          refine O_op (env' := uL24n264) (c := .calm) rfl rfl rfl (by first | exact v_idxF rfl rfl rfl rfl rfl rfl rfl (by first | assumption | omega | (simp [*]; done) | (simp at *; omega)) | exact v_idx rfl rfl rfl rfl rfl rfl rfl (by first | assumption | omega | (simp [*]; done) | (simp at *; omega))) rfl rfl rfl ?_
          refine O_op (env' := uL24n264) (c := .calm) rfl rfl rfl (by first | exact v_idxFA rfl rfl rfl rfl rfl rfl (by first | assumption | omega | (simp [*]; done) | (simp at *; omega)) | exact v_idxA rfl rfl rfl rfl rfl rfl (by first | assumption | omega | (simp [*]; done) | (simp at *; omega))) rfl rfl rfl ?_
          refine O_op (env' := uL24n264) (c := .look) rfl rfl rfl (by first | exact v_loadF rfl rfl rfl rfl (by first | exact op_c0 (by omega) | exact op_c1 (by omega) | exact op_c2 (by omega) | exact op_c3 (by omega) | exact op_c4 (by omega) | exact pair_c0 (by omega) | exact pair_c1 (by omega) | rfl) | exact v_load rfl rfl rfl rfl (by first | exact get_app rfl rfl | exact get_out (by assumption) | assumption | (simp [*]; done)) (by first | exact op_c0 (by omega) | exact op_c1 (by omega) | exact op_c2 (by omega) | exact op_c3 (by omega) | exact op_c4 (by omega) | exact pair_c0 (by omega) | exact pair_c1 (by omega) | rfl)) rfl rfl rfl ?_
          refine O_op (env' := uL24n264) (c := .calm) rfl rfl rfl (v_move (.inl rfl) rfl) rfl rfl rfl ?_
          refine O_op (env' := uL24n264) (c := .calm) rfl rfl rfl (v_move (.inl rfl) rfl) rfl rfl rfl ?_
          refine O_op (env' := uL24n264) (c := .calm) rfl rfl rfl (by first | exact v_idxF rfl rfl rfl rfl rfl rfl rfl (by first | assumption | omega | (simp [*]; done) | (simp at *; omega)) | exact v_idx rfl rfl rfl rfl rfl rfl rfl (by first | assumption | omega | (simp [*]; done) | (simp at *; omega))) rfl rfl rfl ?_
          refine O_op (env' := uL24n264) (c := .calm) rfl rfl rfl (by first | exact v_idxFA rfl rfl rfl rfl rfl rfl (by first | assumption | omega | (simp [*]; done) | (simp at *; omega)) | exact v_idxA rfl rfl rfl rfl rfl rfl (by first | assumption | omega | (simp [*]; done) | (simp at *; omega))) rfl rfl rfl ?_
          refine O_op (env' := uL24n264) (c := .look) rfl rfl rfl (by first | exact v_loadF rfl rfl rfl rfl (by first | exact op_c0 (by omega) | exact op_c1 (by omega) | exact op_c2 (by omega) | exact op_c3 (by omega) | exact op_c4 (by omega) | exact pair_c0 (by omega) | exact pair_c1 (by omega) | rfl) | exact v_load rfl rfl rfl rfl (by first | exact get_app rfl rfl | exact get_out (by assumption) | assumption | (simp [*]; done)) (by first | exact op_c0 (by omega) | exact op_c1 (by omega) | exact op_c2 (by omega) | exact op_c3 (by omega) | exact op_c4 (by omega) | exact pair_c0 (by omega) | exact pair_c1 (by omega) | rfl)) rfl rfl rfl ?_
          refine O_op (env' := uL24n264) (c := .calm) rfl rfl rfl (v_is true rfl (by rw [beq_iff_eq]; have hq := hlex (by omega); unfold lexP at hq; omega)) rfl rfl rfl ?_
          refine O_op (env' := uL24n264) (c := .calm) rfl rfl rfl (v_move (.inl rfl) rfl) rfl rfl rfl ?_
          refine O_op (env' := uL24n264) (c := .calm) rfl rfl rfl (v_move (.inl rfl) rfl) rfl rfl rfl ?_
          refine O_op (env' := uL24n264) (c := .calm) rfl rfl rfl (v_move (.inl rfl) rfl) rfl rfl rfl ?_
          refine O_op (env' := uL24n264) (c := .calm) rfl rfl rfl (v_subI rfl rfl rfl (by first | assumption | omega | (simp [*]; done) | (simp at *; omega))) rfl rfl rfl ?_
          refine O_op (env' := uL24n264) (c := .calm) rfl rfl rfl (by first | exact v_idxF rfl rfl rfl rfl rfl rfl rfl (by first | assumption | omega | (simp [*]; done) | (simp at *; omega)) | exact v_idx rfl rfl rfl rfl rfl rfl rfl (by first | assumption | omega | (simp [*]; done) | (simp at *; omega))) rfl rfl rfl ?_
          refine O_op (env' := uL24n264) (c := .calm) rfl rfl rfl (by first | exact v_idxFA rfl rfl rfl rfl rfl rfl (by first | assumption | omega | (simp [*]; done) | (simp at *; omega)) | exact v_idxA rfl rfl rfl rfl rfl rfl (by first | assumption | omega | (simp [*]; done) | (simp at *; omega))) rfl rfl rfl ?_
          refine O_op (env' := uL24n264) (c := .look) rfl rfl rfl (by first | exact v_loadF rfl rfl rfl rfl (by first | exact op_c0 (by omega) | exact op_c1 (by omega) | exact op_c2 (by omega) | exact op_c3 (by omega) | exact op_c4 (by omega) | exact pair_c0 (by omega) | exact pair_c1 (by omega) | rfl) | exact v_load rfl rfl rfl rfl (by first | exact get_app rfl rfl | exact get_out (by assumption) | assumption | (simp [*]; done)) (by first | exact op_c0 (by omega) | exact op_c1 (by omega) | exact op_c2 (by omega) | exact op_c3 (by omega) | exact op_c4 (by omega) | exact pair_c0 (by omega) | exact pair_c1 (by omega) | rfl)) rfl rfl rfl ?_
          refine O_op (env' := uL24n264) (c := .calm) rfl rfl rfl (v_move (.inl rfl) rfl) rfl rfl rfl ?_
          refine O_op (env' := uL24n264) (c := .calm) rfl rfl rfl (v_move (.inl rfl) rfl) rfl rfl rfl ?_
          refine O_op (env' := uL24n264) (c := .calm) rfl rfl rfl (by first | exact v_idxF rfl rfl rfl rfl rfl rfl rfl (by first | assumption | omega | (simp [*]; done) | (simp at *; omega)) | exact v_idx rfl rfl rfl rfl rfl rfl rfl (by first | assumption | omega | (simp [*]; done) | (simp at *; omega))) rfl rfl rfl ?_
          refine O_op (env' := uL24n264) (c := .calm) rfl rfl rfl (by first | exact v_idxFA rfl rfl rfl rfl rfl rfl (by first | assumption | omega | (simp [*]; done) | (simp at *; omega)) | exact v_idxA rfl rfl rfl rfl rfl rfl (by first | assumption | omega | (simp [*]; done) | (simp at *; omega))) rfl rfl rfl ?_
          refine O_op (env' := uL24n264) (c := .look) rfl rfl rfl (by first | exact v_loadF rfl rfl rfl rfl (by first | exact op_c0 (by omega) | exact op_c1 (by omega) | exact op_c2 (by omega) | exact op_c3 (by omega) | exact op_c4 (by omega) | exact pair_c0 (by omega) | exact pair_c1 (by omega) | rfl) | exact v_load rfl rfl rfl rfl (by first | exact get_app rfl rfl | exact get_out (by assumption) | assumption | (simp [*]; done)) (by first | exact op_c0 (by omega) | exact op_c1 (by omega) | exact op_c2 (by omega) | exact op_c3 (by omega) | exact op_c4 (by omega) | exact pair_c0 (by omega) | exact pair_c1 (by omega) | rfl)) rfl rfl rfl ?_
          refine O_op (env' := uL24n264) (c := .calm) rfl rfl rfl (v_is true rfl (decide_eq_true (by have hq := hlex (by omega); unfold lexP at hq; omega))) rfl rfl rfl ?_
          refine O_op (env' := uL24n264) (c := .calm) rfl rfl rfl (v_pickT rfl rfl rfl) rfl rfl rfl ?_
          refine O_op (env' := uL24n264) (c := .calm) rfl rfl rfl (v_pickF rfl rfl rfl) rfl rfl rfl ?_
          refine O_op (env' := uL24n264) (c := .calm) rfl rfl rfl (rfl) rfl rfl rfl ?_
          refine O_op (env' := uL24n264) (c := .calm) rfl rfl rfl (v_pickT rfl rfl rfl) rfl rfl rfl ?_
          refine O_op (env' := uL24n264) (c := .calm) rfl rfl rfl (v_pickF rfl rfl rfl) rfl rfl rfl ?_
          refine O_nil [] (by kernel_rfl) (trivial) ?_
          refine K_seq ?_
          refine B_false rfl rfl ?_
          refine B_skip ?_
          refine K_blk ?_
          refine K_seq ?_
          refine B_region ?_
          refine L_op (env' := uL24n264) rfl rfl (v_move (.inl rfl) rfl) rfl ?_
          refine L_op (env' := uL24n264) rfl rfl (v_addI rfl rfl rfl (by first | assumption | omega | (simp [*]; done) | (simp at *; omega))) rfl ?_
          refine L_op (env' := uL24n264) rfl rfl (v_move (.inr rfl) rfl) rfl ?_
          refine L_nil ?_
          refine K_loop (true :: true :: true :: false :: true :: false :: false :: true :: true :: true :: true :: true :: true :: true :: true :: true :: true :: true :: true :: true :: true :: true :: true :: true :: true :: true :: true :: true :: true :: true :: true :: true :: true :: true :: true :: true :: true :: true :: true :: true :: true :: true :: true :: true :: true :: true :: true :: true :: true :: true :: true :: true :: true :: true :: true :: true :: true :: true :: true :: true :: true :: true :: true :: true :: true :: true :: true :: true :: true :: true :: true :: true :: true :: true :: true :: true :: true :: true :: true :: true :: true :: true :: true :: true :: true :: true :: true :: true :: true :: true :: true :: true :: true :: true :: true :: true :: true :: true :: true :: true :: true :: true :: true :: true :: true :: true :: true :: true :: true :: true :: true :: true :: true :: true :: true :: true :: true :: true :: true :: true :: true :: true :: true :: true :: true :: true :: true :: true :: true :: true :: true :: true :: true :: true :: true :: true :: true :: true :: true :: true :: true :: true :: true :: true :: true :: true :: true :: true :: true :: true :: true :: true :: true :: true :: true :: true :: true :: true :: true :: true :: true :: true :: true :: true :: true :: true :: true :: true :: true :: true :: true :: true :: true :: true :: true :: true :: true :: true :: true :: true :: true :: true :: true :: true :: true :: true :: true :: true :: true :: true :: true :: true :: true :: true :: true :: true :: true :: true :: true :: true :: true :: true :: true :: true :: true :: true :: true :: true :: true :: true :: true :: true :: true :: true :: true :: true :: true :: true :: true :: true :: true :: true :: true :: true :: true :: true :: true :: true :: true :: true :: true :: true :: true :: true :: true :: true :: true :: true :: true :: true :: true :: true :: true :: true :: true :: true :: true :: true :: true :: true :: true :: true :: true :: true :: true :: true :: true :: true :: true :: true :: true :: true :: true :: true :: []) (env' := uL24n264) rfl ⟨i + 1, ?_, rfl, ?_⟩
          · first | omega | (simp only []; omega)
          · exact ⟨by omega, rfl⟩
      · try simp only [decide_eq_true_eq, decide_eq_false_iff_not, Bool.not_eq_true', Bool.not_eq_false', bne_iff_ne, beq_iff_eq, Bool.and_eq_true, Bool.or_eq_true, Bool.not_eq_true, ge_iff_le, gt_iff_lt, Int.not_le, Int.not_lt, beq_eq_false_iff_ne, bne_eq_false_iff_eq, ne_eq, Decidable.not_not, wd_zero, wd_one, wd_inj] at hg18
        refine O_off (env' := uL24n264) rfl rfl rfl rfl ?_
        refine O_off (env' := uL24n264) rfl rfl rfl rfl ?_
        refine O_off (env' := uL24n264) rfl rfl rfl rfl ?_
        refine O_off (env' := uL24n264) rfl rfl rfl rfl ?_
        refine O_off (env' := uL24n264) rfl rfl rfl rfl ?_
        refine O_off (env' := uL24n264) rfl rfl rfl rfl ?_
        refine O_off (env' := uL24n264) rfl rfl rfl rfl ?_
        refine O_off (env' := uL24n264) rfl rfl rfl rfl ?_
        refine O_off (env' := uL24n264) rfl rfl rfl rfl ?_
        refine O_off (env' := uL24n264) rfl rfl rfl rfl ?_
        refine O_off (env' := uL24n264) rfl rfl rfl rfl ?_
        refine O_off (env' := uL24n264) rfl rfl rfl rfl ?_
        refine O_off (env' := uL24n264) rfl rfl rfl rfl ?_
        refine O_off (env' := uL24n264) rfl rfl rfl rfl ?_
        refine O_off (env' := uL24n264) rfl rfl rfl rfl ?_
        refine O_off (env' := uL24n264) rfl rfl rfl rfl ?_
        refine O_off (env' := uL24n264) rfl rfl rfl rfl ?_
        refine O_off (env' := uL24n264) rfl rfl rfl rfl ?_
        refine O_off (env' := uL24n264) rfl rfl rfl rfl ?_
        refine O_off (env' := uL24n264) rfl rfl rfl rfl ?_
        refine O_off (env' := uL24n264) rfl rfl rfl rfl ?_
        refine O_off (env' := uL24n264) rfl rfl rfl rfl ?_
        refine O_off (env' := uL24n264) rfl rfl rfl rfl ?_
        refine O_off (env' := uL24n264) rfl rfl rfl rfl ?_
        refine O_off (env' := uL24n264) rfl rfl rfl rfl ?_
        refine O_off (env' := uL24n264) rfl rfl rfl rfl ?_
        refine O_off (env' := uL24n264) rfl rfl rfl rfl ?_
        refine O_off (env' := uL24n264) rfl rfl rfl rfl ?_
        refine O_off (env' := uL24n264) rfl rfl rfl rfl ?_
        refine O_off (env' := uL24n264) rfl rfl rfl rfl ?_
        refine O_off (env' := uL24n264) rfl rfl rfl rfl ?_
        refine O_off (env' := uL24n264) rfl rfl rfl rfl ?_
        refine O_off (env' := uL24n264) rfl rfl rfl rfl ?_
        refine O_off (env' := uL24n264) rfl rfl rfl rfl ?_
        refine O_off (env' := uL24n264) rfl rfl rfl rfl ?_
        refine O_off (env' := uL24n264) rfl rfl rfl rfl ?_
        refine O_off (env' := uL24n264) rfl rfl rfl rfl ?_
        refine O_off (env' := uL24n264) rfl rfl rfl rfl ?_
        refine O_off (env' := uL24n264) rfl rfl rfl rfl ?_
        refine O_off (env' := uL24n264) rfl rfl rfl rfl ?_
        refine O_off (env' := uL24n264) rfl rfl rfl rfl ?_
        refine O_op (env' := uL24n264) (c := .calm) rfl rfl rfl (v_pickFC (VVal.bool false) rfl rfl rfl) rfl rfl rfl ?_
        refine O_op (env' := uL24n264) (c := .calm) rfl rfl rfl (v_pickF rfl rfl rfl) rfl rfl rfl ?_
        refine O_nil [] (by kernel_rfl) (trivial) ?_
        refine K_seq ?_
        refine B_false rfl rfl ?_
        refine B_skip ?_
        refine K_blk ?_
        refine K_seq ?_
        refine B_region ?_
        refine L_op (env' := uL24n264) rfl rfl (v_move (.inl rfl) rfl) rfl ?_
        refine L_op (env' := uL24n264) rfl rfl (v_addI rfl rfl rfl (by first | assumption | omega | (simp [*]; done) | (simp at *; omega))) rfl ?_
        refine L_op (env' := uL24n264) rfl rfl (v_move (.inr rfl) rfl) rfl ?_
        refine L_nil ?_
        refine K_loop (true :: true :: true :: false :: true :: false :: false :: true :: true :: true :: true :: true :: true :: true :: true :: true :: true :: true :: true :: true :: true :: true :: true :: true :: true :: true :: true :: true :: true :: true :: true :: true :: true :: true :: true :: true :: true :: true :: true :: true :: true :: true :: true :: true :: true :: true :: true :: true :: true :: true :: true :: true :: true :: true :: true :: true :: true :: true :: true :: true :: true :: true :: true :: true :: true :: true :: true :: true :: true :: true :: true :: true :: true :: true :: true :: true :: true :: true :: true :: true :: true :: true :: true :: true :: true :: true :: true :: true :: true :: true :: true :: true :: true :: true :: true :: true :: true :: true :: true :: true :: true :: true :: true :: true :: true :: true :: true :: true :: true :: true :: true :: true :: true :: true :: true :: true :: true :: true :: true :: true :: true :: true :: true :: true :: true :: true :: true :: true :: true :: true :: true :: true :: true :: true :: true :: true :: true :: true :: true :: true :: true :: true :: true :: true :: true :: true :: true :: true :: true :: true :: true :: true :: true :: true :: true :: true :: true :: true :: true :: true :: true :: true :: true :: true :: true :: true :: true :: true :: true :: true :: true :: true :: true :: true :: true :: true :: true :: true :: true :: true :: true :: true :: true :: true :: true :: true :: true :: true :: true :: true :: true :: true :: true :: true :: true :: true :: true :: true :: true :: true :: true :: true :: true :: true :: true :: true :: true :: true :: true :: true :: true :: true :: true :: true :: true :: true :: true :: true :: true :: true :: true :: true :: true :: true :: true :: true :: true :: true :: true :: true :: true :: true :: true :: true :: true :: true :: true :: true :: true :: true :: true :: true :: true :: true :: true :: true :: true :: true :: true :: true :: true :: true :: true :: true :: true :: true :: true :: true :: true :: true :: true :: true :: true :: true :: []) (env' := uL24n264) rfl ⟨i + 1, ?_, rfl, ?_⟩
        · first | omega | (simp only []; omega)
        · exact ⟨by omega, rfl⟩
    · try simp only [decide_eq_true_eq, decide_eq_false_iff_not, Bool.not_eq_true', Bool.not_eq_false', bne_iff_ne, beq_iff_eq, Bool.and_eq_true, Bool.or_eq_true, Bool.not_eq_true, ge_iff_le, gt_iff_lt, Int.not_le, Int.not_lt, beq_eq_false_iff_ne, bne_eq_false_iff_eq, ne_eq, Decidable.not_not, wd_zero, wd_one, wd_inj] at hc17
      refine B_exit ?_
      refine K_seqX ?_
      refine K_loopX ?_
      refine K_blkX ?_
      refine K_seq ?_
      refine B_seq ?_
      refine B_region ?_
      refine L_op (env' := uL24n264) rfl rfl (v_const (VVal.int .u64 0) (.inr rfl) rfl) rfl ?_
      refine L_nil ?_
      refine K_seq ?_
      refine B_seq ?_
      refine B_seq ?_
      refine B_region ?_
      refine L_op (env' := uL24n264) rfl rfl (v_const (VVal.int .i64 0) (.inr rfl) rfl) rfl ?_
      refine L_nil ?_
      refine K_seq ?_
      refine B_block ?_
      refine B_clear (true :: true :: true :: false :: true :: false :: true :: false :: false :: true :: true :: true :: true :: true :: true :: true :: true :: true :: true :: true :: true :: true :: true :: true :: true :: true :: true :: true :: true :: true :: true :: true :: true :: true :: true :: true :: true :: true :: true :: true :: true :: true :: true :: true :: true :: true :: true :: true :: true :: true :: true :: true :: true :: true :: true :: true :: true :: true :: true :: true :: true :: true :: true :: true :: true :: true :: true :: true :: true :: true :: true :: true :: true :: true :: true :: true :: true :: true :: true :: true :: true :: true :: true :: true :: true :: true :: true :: true :: true :: true :: true :: true :: true :: true :: true :: true :: true :: true :: true :: true :: true :: true :: true :: true :: true :: true :: true :: true :: true :: true :: true :: true :: true :: true :: true :: true :: true :: true :: true :: true :: true :: true :: true :: true :: true :: true :: true :: true :: true :: true :: true :: true :: true :: true :: true :: true :: true :: true :: true :: true :: true :: true :: true :: true :: true :: true :: true :: true :: true :: true :: true :: true :: true :: true :: true :: true :: true :: true :: true :: true :: true :: true :: true :: true :: true :: true :: true :: true :: true :: true :: true :: true :: true :: true :: true :: true :: true :: true :: true :: true :: true :: true :: true :: true :: true :: true :: true :: true :: true :: true :: true :: true :: true :: true :: true :: true :: true :: true :: true :: true :: true :: true :: true :: true :: true :: true :: true :: true :: true :: true :: true :: true :: true :: true :: true :: true :: true :: true :: true :: true :: true :: true :: true :: true :: true :: true :: true :: true :: true :: true :: true :: true :: true :: true :: true :: true :: true :: true :: true :: true :: true :: true :: true :: true :: true :: true :: true :: true :: true :: true :: true :: true :: true :: true :: true :: true :: true :: true :: true :: true :: true :: true :: true :: true :: []) (env' := uL24n264) rfl ?_
      refine B_loopE (fun (a : Nat) => 64 - a) (fun (a : Nat) => [(7, iW (spr J (th3 a))), (8, iI (a : Nat))]) (fun (a : Nat) G => (a ≤ 64) ∧ G = H ++ [rkB J]) 0 (by rw [show th3 0 = 0#64 from rfl, spr_0]; rfl) ?_ ?_
      · refine ⟨?_, rfl⟩
        exact Nat.zero_le _
      rintro a _ ⟨ha, rfl⟩
      refine B_env (env' := uL24n264) rfl ?_
      refine B_seq ?_
      refine B_seq ?_
      refine B_region ?_
      refine L_op (env' := uL24n264) rfl rfl (v_move (.inl rfl) rfl) rfl ?_
      refine L_op (env' := uL24n264) rfl rfl (rfl) rfl ?_
      refine L_nil ?_
      refine K_seq ?_
      refine B_cond _ rfl (fun hc20 => ?_) (fun hc20 => ?_)
      · try simp only [decide_eq_true_eq, decide_eq_false_iff_not, Bool.not_eq_true', Bool.not_eq_false', bne_iff_ne, beq_iff_eq, Bool.and_eq_true, Bool.or_eq_true, Bool.not_eq_true, ge_iff_le, gt_iff_lt, Int.not_le, Int.not_lt, beq_eq_false_iff_ne, bne_eq_false_iff_eq, ne_eq, Decidable.not_not, wd_zero, wd_one, wd_inj] at hc20
        refine B_skip ?_
        refine K_seq ?_
        refine B_seq ?_
        refine B_block ?_
        refine B_seq ?_
        refine B_region ?_
        refine L_op (env' := uL24n264) rfl rfl (v_move (.inl rfl) rfl) rfl ?_
        refine L_op (env' := uL24n264) rfl rfl (v_shl1 rfl rfl rfl (by first | assumption | omega | (simp [*]; done) | (simp at *; omega))) rfl ?_
        refine L_op (env' := uL24n264) rfl rfl (v_move (.inr rfl) rfl) rfl ?_
        refine L_nil ?_
        refine K_seq ?_
        refine B_seq ?_
        refine B_seq ?_
        refine B_region ?_
        refine L_op (env' := uL24n264) rfl rfl (v_const (VVal.int .i64 0) (.inr rfl) rfl) rfl ?_
        refine L_nil ?_
        refine K_seq ?_
        refine B_block ?_
        refine B_clear (true :: true :: true :: false :: true :: false :: true :: false :: false :: false :: false :: true :: true :: true :: true :: true :: true :: true :: true :: true :: true :: true :: true :: true :: true :: true :: true :: true :: true :: true :: true :: true :: true :: true :: true :: true :: true :: true :: true :: true :: true :: true :: true :: true :: true :: true :: true :: true :: true :: true :: true :: true :: true :: true :: true :: true :: true :: true :: true :: true :: true :: true :: true :: true :: true :: true :: true :: true :: true :: true :: true :: true :: true :: true :: true :: true :: true :: true :: true :: true :: true :: true :: true :: true :: true :: true :: true :: true :: true :: true :: true :: true :: true :: true :: true :: true :: true :: true :: true :: true :: true :: true :: true :: true :: true :: true :: true :: true :: true :: true :: true :: true :: true :: true :: true :: true :: true :: true :: true :: true :: true :: true :: true :: true :: true :: true :: true :: true :: true :: true :: true :: true :: true :: true :: true :: true :: true :: true :: true :: true :: true :: true :: true :: true :: true :: true :: true :: true :: true :: true :: true :: true :: true :: true :: true :: true :: true :: true :: true :: true :: true :: true :: true :: true :: true :: true :: true :: true :: true :: true :: true :: true :: true :: true :: true :: true :: true :: true :: true :: true :: true :: true :: true :: true :: true :: true :: true :: true :: true :: true :: true :: true :: true :: true :: true :: true :: true :: true :: true :: true :: true :: true :: true :: true :: true :: true :: true :: true :: true :: true :: true :: true :: true :: true :: true :: true :: true :: true :: true :: true :: true :: true :: true :: true :: true :: true :: true :: true :: true :: true :: true :: true :: true :: true :: true :: true :: true :: true :: true :: true :: true :: true :: true :: true :: true :: true :: true :: true :: true :: true :: true :: true :: true :: true :: true :: true :: true :: true :: true :: true :: true :: true :: true :: true :: []) (env' := uL24n264) rfl ?_
        refine B_loopE (fun (q : Nat) => 64 - q) (fun (q : Nat) => [(9, iW (rndW (lkL J) (1#64 <<< a) q)), (10, iI (q : Nat))]) (fun (q : Nat) G => (q ≤ 64) ∧ G = H ++ [rkB J]) 0 rfl ?_ ?_
        · refine ⟨?_, rfl⟩
          exact Nat.zero_le _
        rintro q _ ⟨hq, rfl⟩
        refine B_env (env' := uL24n264) rfl ?_
        refine B_seq ?_
        refine B_seq ?_
        refine B_region ?_
        refine L_op (env' := uL24n264) rfl rfl (v_move (.inl rfl) rfl) rfl ?_
        refine L_op (env' := uL24n264) rfl rfl (rfl) rfl ?_
        refine L_nil ?_
        refine K_seq ?_
        refine B_cond _ rfl (fun hc21 => ?_) (fun hc21 => ?_)
        · try simp only [decide_eq_true_eq, decide_eq_false_iff_not, Bool.not_eq_true', Bool.not_eq_false', bne_iff_ne, beq_iff_eq, Bool.and_eq_true, Bool.or_eq_true, Bool.not_eq_true, ge_iff_le, gt_iff_lt, Int.not_le, Int.not_lt, beq_eq_false_iff_ne, bne_eq_false_iff_eq, ne_eq, Decidable.not_not, wd_zero, wd_one, wd_inj] at hc21
          refine B_skip ?_
          refine K_seq ?_
          refine B_seq ?_
          refine B_block ?_
          refine B_seq ?_
          refine B_region ?_
          refine L_op (env' := uL24n264) rfl rfl (v_const (VVal.int .i64 0) (.inr rfl) rfl) rfl ?_
          refine L_nil ?_
          refine K_seq ?_
          refine B_block ?_
          refine B_clear (true :: true :: true :: false :: true :: false :: true :: false :: false :: false :: false :: false :: true :: true :: true :: true :: true :: true :: true :: true :: true :: true :: true :: true :: true :: true :: true :: true :: true :: true :: true :: true :: true :: true :: true :: true :: true :: true :: true :: true :: true :: true :: true :: true :: true :: true :: true :: true :: true :: true :: true :: true :: true :: true :: true :: true :: true :: true :: true :: true :: true :: true :: true :: true :: true :: true :: true :: true :: true :: true :: true :: true :: true :: true :: true :: true :: true :: true :: true :: true :: true :: true :: true :: true :: true :: true :: true :: true :: true :: true :: true :: true :: true :: true :: true :: true :: true :: true :: true :: true :: true :: true :: true :: true :: true :: true :: true :: true :: true :: true :: true :: true :: true :: true :: true :: true :: true :: true :: true :: true :: true :: true :: true :: true :: true :: true :: true :: true :: true :: true :: true :: true :: true :: true :: true :: true :: true :: true :: true :: true :: true :: true :: true :: true :: true :: true :: true :: true :: true :: true :: true :: true :: true :: true :: true :: true :: true :: true :: true :: true :: true :: true :: true :: true :: true :: true :: true :: true :: true :: true :: true :: true :: true :: true :: true :: true :: true :: true :: true :: true :: true :: true :: true :: true :: true :: true :: true :: true :: true :: true :: true :: true :: true :: true :: true :: true :: true :: true :: true :: true :: true :: true :: true :: true :: true :: true :: true :: true :: true :: true :: true :: true :: true :: true :: true :: true :: true :: true :: true :: true :: true :: true :: true :: true :: true :: true :: true :: true :: true :: true :: true :: true :: true :: true :: true :: true :: true :: true :: true :: true :: true :: true :: true :: true :: true :: true :: true :: true :: true :: true :: true :: true :: true :: true :: true :: true :: true :: true :: true :: true :: true :: true :: true :: true :: []) (env' := uL24n264) rfl ?_
          refine B_loopE (fun (j : Nat) => (lkL J).length - j) (fun (j : Nat) => [(9, iW (passW ((lkL J).take j) (rndW (lkL J) (1#64 <<< a) q))), (11, iI (j : Nat))]) (fun (j : Nat) G => (j ≤ (lkL J).length) ∧ G = H ++ [rkB J]) 0 rfl ?_ ?_
          · refine ⟨?_, rfl⟩
            exact Nat.zero_le _
          rintro j _ ⟨hj, rfl⟩
          refine B_env (env' := uL24n264) rfl ?_
          refine B_seq ?_
          refine B_seq ?_
          refine B_region ?_
          refine L_op (env' := uL24n264) rfl rfl (v_move (.inl rfl) rfl) rfl ?_
          refine L_op (env' := uL24n264) rfl rfl (v_move (.inl rfl) rfl) rfl ?_
          refine L_op (env' := uL24n264) rfl rfl (rfl) rfl ?_
          refine L_op (env' := uL24n264) rfl rfl (rfl) rfl ?_
          refine L_nil ?_
          refine K_seq ?_
          refine B_cond _ rfl (fun hc22 => ?_) (fun hc22 => ?_)
          · try simp only [decide_eq_true_eq, decide_eq_false_iff_not, Bool.not_eq_true', Bool.not_eq_false', bne_iff_ne, beq_iff_eq, Bool.and_eq_true, Bool.or_eq_true, Bool.not_eq_true, ge_iff_le, gt_iff_lt, Int.not_le, Int.not_lt, beq_eq_false_iff_ne, bne_eq_false_iff_eq, ne_eq, Decidable.not_not, wd_zero, wd_one, wd_inj] at hc22
            refine B_skip ?_
            refine K_seq ?_
            refine B_seq ?_
            refine B_block ?_
            refine B_seq ?_
            have hmem := hR.lnk_lt (getD_mem (d := (0, 0)) (show (j : Int).toNat < (lkL J).length by omega))
            refine B_region ?_
            refine L_op (env' := uL24n264) rfl rfl (v_move (.inl rfl) rfl) rfl ?_
            refine L_op (env' := uL24n264) rfl rfl (v_move (.inl rfl) rfl) rfl ?_
            refine L_op (env' := uL24n264) rfl rfl (v_move (.inl rfl) rfl) rfl ?_
            refine L_op (env' := uL24n264) rfl rfl (by first | exact v_idxF rfl rfl rfl rfl rfl rfl rfl (by first | assumption | omega | (simp [*]; done) | (simp at *; omega)) | exact v_idx rfl rfl rfl rfl rfl rfl rfl (by first | assumption | omega | (simp [*]; done) | (simp at *; omega))) rfl ?_
            refine L_op (env' := uL24n264) rfl rfl (by first | exact v_idxFA rfl rfl rfl rfl rfl rfl (by first | assumption | omega | (simp [*]; done) | (simp at *; omega)) | exact v_idxA rfl rfl rfl rfl rfl rfl (by first | assumption | omega | (simp [*]; done) | (simp at *; omega))) rfl ?_
            refine L_op (env' := uL24n264) rfl rfl (by first | exact v_loadF rfl rfl rfl rfl (by first | exact op_c0 (by omega) | exact op_c1 (by omega) | exact op_c2 (by omega) | exact op_c3 (by omega) | exact op_c4 (by omega) | exact pair_c0 (by omega) | exact pair_c1 (by omega) | rfl) | exact v_load rfl rfl rfl rfl (by first | exact get_app rfl rfl | exact get_out (by assumption) | assumption | (simp [*]; done)) (by first | exact op_c0 (by omega) | exact op_c1 (by omega) | exact op_c2 (by omega) | exact op_c3 (by omega) | exact op_c4 (by omega) | exact pair_c0 (by omega) | exact pair_c1 (by omega) | rfl)) rfl ?_
            refine L_op (env' := uL24n264) rfl rfl (v_shrW rfl rfl rfl (by first | assumption | omega | (simp [*]; done) | (simp at *; omega))) rfl ?_
            refine L_op (env' := uL24n264) rfl rfl (v_andW (b := 1#64) rfl rfl rfl) rfl ?_
            refine L_op (env' := uL24n264) rfl rfl (rfl) rfl ?_
            refine L_nil ?_
            refine K_seq ?_
            refine B_cond _ rfl (fun hc23 => ?_) (fun hc23 => ?_)
            · try simp only [decide_eq_true_eq, decide_eq_false_iff_not, Bool.not_eq_true', Bool.not_eq_false', bne_iff_ne, beq_iff_eq, Bool.and_eq_true, Bool.or_eq_true, Bool.not_eq_true, ge_iff_le, gt_iff_lt, Int.not_le, Int.not_lt, beq_eq_false_iff_ne, bne_eq_false_iff_eq, ne_eq, Decidable.not_not, wd_zero, wd_one, wd_inj] at hc23
              refine B_region ?_
              refine L_op (env' := uL24n264) rfl rfl (v_move (.inl rfl) rfl) rfl ?_
              refine L_op (env' := uL24n264) rfl rfl (v_move (.inl rfl) rfl) rfl ?_
              refine L_op (env' := uL24n264) rfl rfl (v_move (.inl rfl) rfl) rfl ?_
              refine L_op (env' := uL24n264) rfl rfl (by first | exact v_idxF rfl rfl rfl rfl rfl rfl rfl (by first | assumption | omega | (simp [*]; done) | (simp at *; omega)) | exact v_idx rfl rfl rfl rfl rfl rfl rfl (by first | assumption | omega | (simp [*]; done) | (simp at *; omega))) rfl ?_
              refine L_op (env' := uL24n264) rfl rfl (by first | exact v_idxFA rfl rfl rfl rfl rfl rfl (by first | assumption | omega | (simp [*]; done) | (simp at *; omega)) | exact v_idxA rfl rfl rfl rfl rfl rfl (by first | assumption | omega | (simp [*]; done) | (simp at *; omega))) rfl ?_
              refine L_op (env' := uL24n264) rfl rfl (by first | exact v_loadF rfl rfl rfl rfl (by first | exact op_c0 (by omega) | exact op_c1 (by omega) | exact op_c2 (by omega) | exact op_c3 (by omega) | exact op_c4 (by omega) | exact pair_c0 (by omega) | exact pair_c1 (by omega) | rfl) | exact v_load rfl rfl rfl rfl (by first | exact get_app rfl rfl | exact get_out (by assumption) | assumption | (simp [*]; done)) (by first | exact op_c0 (by omega) | exact op_c1 (by omega) | exact op_c2 (by omega) | exact op_c3 (by omega) | exact op_c4 (by omega) | exact pair_c0 (by omega) | exact pair_c1 (by omega) | rfl)) rfl ?_
              refine L_op (env' := uL24n264) rfl rfl (v_shl1 rfl rfl rfl (by first | assumption | omega | (simp [*]; done) | (simp at *; omega))) rfl ?_
              refine L_op (env' := uL24n264) rfl rfl (v_orW rfl rfl rfl) rfl ?_
              refine L_op (env' := uL24n264) rfl rfl (v_move (.inr rfl) rfl) rfl ?_
              refine L_nil ?_
              refine K_blk ?_
              refine K_seq ?_
              refine B_region ?_
              refine L_op (env' := uL24n264) rfl rfl (v_move (.inl rfl) rfl) rfl ?_
              refine L_op (env' := uL24n264) rfl rfl (v_addI rfl rfl rfl (by first | assumption | omega | (simp [*]; done) | (simp at *; omega))) rfl ?_
              refine L_op (env' := uL24n264) rfl rfl (v_move (.inr rfl) rfl) rfl ?_
              refine L_nil ?_
              have hpt : passW ((lkL J).take (j + 1)) (rndW (lkL J) (1#64 <<< a) q) = stepW (passW ((lkL J).take j) (rndW (lkL J) (1#64 <<< a) q)) ((lkL J).getD (j : Int).toNat (0, 0)) := passW_take (by omega)
              unfold stepW at hpt
              first
                | (rw [if_pos (sh1.1 (by assumption))] at hpt; rw [← hpt])
                | (rw [if_neg (fun e => absurd e (by rw [sh1n.1 (by assumption)]; decide))] at hpt; rw [← hpt])
              refine K_loop (true :: true :: true :: false :: true :: false :: true :: false :: false :: false :: false :: false :: true :: true :: true :: true :: true :: true :: true :: true :: true :: true :: true :: true :: true :: true :: true :: true :: true :: true :: true :: true :: true :: true :: true :: true :: true :: true :: true :: true :: true :: true :: true :: true :: true :: true :: true :: true :: true :: true :: true :: true :: true :: true :: true :: true :: true :: true :: true :: true :: true :: true :: true :: true :: true :: true :: true :: true :: true :: true :: true :: true :: true :: true :: true :: true :: true :: true :: true :: true :: true :: true :: true :: true :: true :: true :: true :: true :: true :: true :: true :: true :: true :: true :: true :: true :: true :: true :: true :: true :: true :: true :: true :: true :: true :: true :: true :: true :: true :: true :: true :: true :: true :: true :: true :: true :: true :: true :: true :: true :: true :: true :: true :: true :: true :: true :: true :: true :: true :: true :: true :: true :: true :: true :: true :: true :: true :: true :: true :: true :: true :: true :: true :: true :: true :: true :: true :: true :: true :: true :: true :: true :: true :: true :: true :: true :: true :: true :: true :: true :: true :: true :: true :: true :: true :: true :: true :: true :: true :: true :: true :: true :: true :: true :: true :: true :: true :: true :: true :: true :: true :: true :: true :: true :: true :: true :: true :: true :: true :: true :: true :: true :: true :: true :: true :: true :: true :: true :: true :: true :: true :: true :: true :: true :: true :: true :: true :: true :: true :: true :: true :: true :: true :: true :: true :: true :: true :: true :: true :: true :: true :: true :: true :: true :: true :: true :: true :: true :: true :: true :: true :: true :: true :: true :: true :: true :: true :: true :: true :: true :: true :: true :: true :: true :: true :: true :: true :: true :: true :: true :: true :: true :: true :: true :: true :: true :: true :: true :: true :: true :: true :: true :: true :: true :: []) (env' := uL24n264) rfl ⟨j + 1, ?_, rfl, ?_⟩
              · first | omega | (simp only []; omega)
              · exact ⟨by omega, rfl⟩
            · try simp only [decide_eq_true_eq, decide_eq_false_iff_not, Bool.not_eq_true', Bool.not_eq_false', bne_iff_ne, beq_iff_eq, Bool.and_eq_true, Bool.or_eq_true, Bool.not_eq_true, ge_iff_le, gt_iff_lt, Int.not_le, Int.not_lt, beq_eq_false_iff_ne, bne_eq_false_iff_eq, ne_eq, Decidable.not_not, wd_zero, wd_one, wd_inj] at hc23
              refine B_skip ?_
              refine K_blk ?_
              refine K_seq ?_
              refine B_region ?_
              refine L_op (env' := uL24n264) rfl rfl (v_move (.inl rfl) rfl) rfl ?_
              refine L_op (env' := uL24n264) rfl rfl (v_addI rfl rfl rfl (by first | assumption | omega | (simp [*]; done) | (simp at *; omega))) rfl ?_
              refine L_op (env' := uL24n264) rfl rfl (v_move (.inr rfl) rfl) rfl ?_
              refine L_nil ?_
              have hpt : passW ((lkL J).take (j + 1)) (rndW (lkL J) (1#64 <<< a) q) = stepW (passW ((lkL J).take j) (rndW (lkL J) (1#64 <<< a) q)) ((lkL J).getD (j : Int).toNat (0, 0)) := passW_take (by omega)
              unfold stepW at hpt
              first
                | (rw [if_pos (sh1.1 (by assumption))] at hpt; rw [← hpt])
                | (rw [if_neg (fun e => absurd e (by rw [sh1n.1 (by assumption)]; decide))] at hpt; rw [← hpt])
              refine K_loop (true :: true :: true :: false :: true :: false :: true :: false :: false :: false :: false :: false :: true :: true :: true :: true :: true :: true :: true :: true :: true :: true :: true :: true :: true :: true :: true :: true :: true :: true :: true :: true :: true :: true :: true :: true :: true :: true :: true :: true :: true :: true :: true :: true :: true :: true :: true :: true :: true :: true :: true :: true :: true :: true :: true :: true :: true :: true :: true :: true :: true :: true :: true :: true :: true :: true :: true :: true :: true :: true :: true :: true :: true :: true :: true :: true :: true :: true :: true :: true :: true :: true :: true :: true :: true :: true :: true :: true :: true :: true :: true :: true :: true :: true :: true :: true :: true :: true :: true :: true :: true :: true :: true :: true :: true :: true :: true :: true :: true :: true :: true :: true :: true :: true :: true :: true :: true :: true :: true :: true :: true :: true :: true :: true :: true :: true :: true :: true :: true :: true :: true :: true :: true :: true :: true :: true :: true :: true :: true :: true :: true :: true :: true :: true :: true :: true :: true :: true :: true :: true :: true :: true :: true :: true :: true :: true :: true :: true :: true :: true :: true :: true :: true :: true :: true :: true :: true :: true :: true :: true :: true :: true :: true :: true :: true :: true :: true :: true :: true :: true :: true :: true :: true :: true :: true :: true :: true :: true :: true :: true :: true :: true :: true :: true :: true :: true :: true :: true :: true :: true :: true :: true :: true :: true :: true :: true :: true :: true :: true :: true :: true :: true :: true :: true :: true :: true :: true :: true :: true :: true :: true :: true :: true :: true :: true :: true :: true :: true :: true :: true :: true :: true :: true :: true :: true :: true :: true :: true :: true :: true :: true :: true :: true :: true :: true :: true :: true :: true :: true :: true :: true :: true :: true :: true :: true :: true :: true :: true :: true :: true :: true :: true :: true :: true :: []) (env' := uL24n264) rfl ⟨j + 1, ?_, rfl, ?_⟩
              · first | omega | (simp only []; omega)
              · exact ⟨by omega, rfl⟩
          · try simp only [decide_eq_true_eq, decide_eq_false_iff_not, Bool.not_eq_true', Bool.not_eq_false', bne_iff_ne, beq_iff_eq, Bool.and_eq_true, Bool.or_eq_true, Bool.not_eq_true, ge_iff_le, gt_iff_lt, Int.not_le, Int.not_lt, beq_eq_false_iff_ne, bne_eq_false_iff_eq, ne_eq, Decidable.not_not, wd_zero, wd_one, wd_inj] at hc22
            refine B_exit ?_
            refine K_seqX ?_
            refine K_loopX ?_
            refine K_blkX ?_
            refine K_blk ?_
            refine K_seq ?_
            refine B_region ?_
            refine L_op (env' := uL24n264) rfl rfl (v_move (.inl rfl) rfl) rfl ?_
            refine L_op (env' := uL24n264) rfl rfl (v_addI rfl rfl rfl (by first | assumption | omega | (simp [*]; done) | (simp at *; omega))) rfl ?_
            refine L_op (env' := uL24n264) rfl rfl (v_move (.inr rfl) rfl) rfl ?_
            refine L_nil ?_
            have hE : passW ((lkL J).take j) (rndW (lkL J) (1#64 <<< a) q) = rndW (lkL J) (1#64 <<< a) (q + 1) := by rw [show j = (lkL J).length by omega, List.take_length]; rfl
            rw [hE]
            refine K_loop (true :: true :: true :: false :: true :: false :: true :: false :: false :: false :: false :: true :: true :: true :: true :: true :: true :: true :: true :: true :: true :: true :: true :: true :: true :: true :: true :: true :: true :: true :: true :: true :: true :: true :: true :: true :: true :: true :: true :: true :: true :: true :: true :: true :: true :: true :: true :: true :: true :: true :: true :: true :: true :: true :: true :: true :: true :: true :: true :: true :: true :: true :: true :: true :: true :: true :: true :: true :: true :: true :: true :: true :: true :: true :: true :: true :: true :: true :: true :: true :: true :: true :: true :: true :: true :: true :: true :: true :: true :: true :: true :: true :: true :: true :: true :: true :: true :: true :: true :: true :: true :: true :: true :: true :: true :: true :: true :: true :: true :: true :: true :: true :: true :: true :: true :: true :: true :: true :: true :: true :: true :: true :: true :: true :: true :: true :: true :: true :: true :: true :: true :: true :: true :: true :: true :: true :: true :: true :: true :: true :: true :: true :: true :: true :: true :: true :: true :: true :: true :: true :: true :: true :: true :: true :: true :: true :: true :: true :: true :: true :: true :: true :: true :: true :: true :: true :: true :: true :: true :: true :: true :: true :: true :: true :: true :: true :: true :: true :: true :: true :: true :: true :: true :: true :: true :: true :: true :: true :: true :: true :: true :: true :: true :: true :: true :: true :: true :: true :: true :: true :: true :: true :: true :: true :: true :: true :: true :: true :: true :: true :: true :: true :: true :: true :: true :: true :: true :: true :: true :: true :: true :: true :: true :: true :: true :: true :: true :: true :: true :: true :: true :: true :: true :: true :: true :: true :: true :: true :: true :: true :: true :: true :: true :: true :: true :: true :: true :: true :: true :: true :: true :: true :: true :: true :: true :: true :: true :: true :: true :: true :: true :: true :: true :: true :: []) (env' := uL24n264) rfl ⟨q + 1, ?_, rfl, ?_⟩
            · first | omega | (simp only []; omega)
            · exact ⟨by omega, rfl⟩
        · try simp only [decide_eq_true_eq, decide_eq_false_iff_not, Bool.not_eq_true', Bool.not_eq_false', bne_iff_ne, beq_iff_eq, Bool.and_eq_true, Bool.or_eq_true, Bool.not_eq_true, ge_iff_le, gt_iff_lt, Int.not_le, Int.not_lt, beq_eq_false_iff_ne, bne_eq_false_iff_eq, ne_eq, Decidable.not_not, wd_zero, wd_one, wd_inj] at hc21
          refine B_exit ?_
          refine K_seqX ?_
          refine K_loopX ?_
          refine K_blkX ?_
          refine K_seq ?_
          refine B_seq ?_
          refine B_seq ?_
          obtain rfl : q = 64 := by omega
          rw [hR.rnd (one_ne (show a < 64 by omega))]
          refine B_region ?_
          refine L_op (env' := uL24n264) rfl rfl (v_move (.inl rfl) rfl) rfl ?_
          refine L_op (env' := uL24n264) rfl rfl (v_move (.inl rfl) rfl) rfl ?_
          refine L_call rfl rfl rfl (by exact rkBelow_spec _ _ J (get_app rfl rfl) hR.len _) ?_
          rintro v _ ⟨hv, rfl⟩; obtain rfl : v = iW (spr J (1#64 <<< a)) := hv.trans (by rw [blw, if_pos (by omega)]; rfl)
          refine L_env (env' := uL24n264) rfl ?_
          refine L_op (env' := uL24n264) rfl rfl (v_move (.inl rfl) rfl) rfl ?_
          refine L_op (env' := uL24n264) rfl rfl (v_is false rfl (by simp)) rfl ?_
          refine L_op (env' := uL24n264) rfl rfl (v_move (.inl rfl) rfl) rfl ?_
          refine L_op (env' := uL24n264) rfl rfl (v_move (.inl rfl) rfl) rfl ?_
          refine L_op (env' := uL24n264) rfl rfl (v_move (.inl rfl) rfl) rfl ?_
          refine L_op (env' := uL24n264) rfl rfl (v_shl1 rfl rfl rfl (by first | assumption | omega | (simp [*]; done) | (simp at *; omega))) rfl ?_
          refine L_call rfl rfl rfl (by exact Spread_spec _ _ J (get_app rfl rfl) hR.len _) ?_
          rintro _ _ ⟨rfl, rfl⟩
          refine L_env (env' := uL24n264) rfl ?_
          refine L_op (env' := uL24n264) rfl rfl (v_move (.inl rfl) rfl) rfl ?_
          refine L_op (env' := uL24n264) rfl rfl (v_is false rfl (by simp)) rfl ?_
          refine L_op (env' := uL24n264) rfl rfl (v_pickF rfl rfl rfl) rfl ?_
          refine L_nil ?_
          refine K_seq ?_
          refine B_false rfl rfl ?_
          refine B_skip ?_
          refine K_seq ?_
          refine B_seq ?_
          refine B_seq ?_
          refine B_region ?_
          refine L_op (env' := uL24n264) rfl rfl (v_const (VVal.int .i64 0) (.inr rfl) rfl) rfl ?_
          refine L_nil ?_
          refine K_seq ?_
          refine B_block ?_
          refine B_clear (true :: true :: true :: false :: true :: false :: true :: false :: false :: false :: true :: true :: false :: true :: true :: true :: true :: true :: true :: true :: true :: true :: true :: true :: true :: true :: true :: true :: true :: true :: true :: true :: true :: true :: true :: true :: true :: true :: true :: true :: true :: true :: true :: true :: true :: true :: true :: true :: true :: true :: true :: true :: true :: true :: true :: true :: true :: true :: true :: true :: true :: true :: true :: true :: true :: true :: true :: true :: true :: true :: true :: true :: true :: true :: true :: true :: true :: true :: true :: true :: true :: true :: true :: true :: true :: true :: true :: true :: true :: true :: true :: true :: true :: true :: true :: true :: true :: true :: true :: true :: true :: true :: true :: true :: true :: true :: true :: true :: true :: true :: true :: true :: true :: true :: true :: true :: true :: true :: true :: true :: true :: true :: true :: true :: true :: true :: true :: true :: true :: true :: true :: true :: true :: true :: true :: true :: true :: true :: true :: true :: true :: true :: true :: true :: true :: true :: true :: true :: true :: true :: true :: true :: true :: true :: true :: true :: true :: true :: true :: true :: true :: true :: true :: true :: true :: true :: true :: true :: true :: true :: true :: true :: true :: true :: true :: true :: true :: true :: true :: true :: true :: true :: true :: true :: true :: true :: true :: true :: true :: true :: true :: true :: true :: true :: true :: true :: true :: true :: true :: true :: true :: true :: true :: true :: true :: true :: true :: true :: true :: true :: true :: true :: true :: true :: true :: true :: true :: true :: true :: true :: true :: true :: true :: true :: true :: true :: true :: true :: true :: true :: true :: true :: true :: true :: true :: true :: true :: true :: true :: true :: true :: true :: true :: true :: true :: true :: true :: true :: true :: true :: true :: true :: true :: true :: true :: true :: true :: true :: true :: true :: true :: true :: true :: true :: []) (env' := uL24n264) rfl ?_
          refine B_loopE (fun (b : Nat) => 64 - b) (fun (b : Nat) => [(12, iI (b : Nat))]) (fun (b : Nat) G => (b ≤ 64) ∧ G = H ++ [rkB J]) 0 rfl ?_ ?_
          · refine ⟨?_, rfl⟩
            exact Nat.zero_le _
          rintro b _ ⟨hb, rfl⟩
          refine B_env (env' := uL24n264) rfl ?_
          refine B_seq ?_
          refine B_seq ?_
          refine B_region ?_
          refine L_op (env' := uL24n264) rfl rfl (v_move (.inl rfl) rfl) rfl ?_
          refine L_op (env' := uL24n264) rfl rfl (rfl) rfl ?_
          refine L_nil ?_
          refine K_seq ?_
          refine B_cond _ rfl (fun hc24 => ?_) (fun hc24 => ?_)
          · try simp only [decide_eq_true_eq, decide_eq_false_iff_not, Bool.not_eq_true', Bool.not_eq_false', bne_iff_ne, beq_iff_eq, Bool.and_eq_true, Bool.or_eq_true, Bool.not_eq_true, ge_iff_le, gt_iff_lt, Int.not_le, Int.not_lt, beq_eq_false_iff_ne, bne_eq_false_iff_eq, ne_eq, Decidable.not_not, wd_zero, wd_one, wd_inj] at hc24
            refine B_skip ?_
            refine K_seq ?_
            refine B_seq ?_
            refine B_block ?_
            refine B_seq ?_
            refine B_draw [0, 1, 3, 6, 7, 8, 9, 2, 4, 5, 10, 11, 12, 13, 14, 15, 16, 17, 18, 19, 20, 21, 22, 23, 24, 26, 25, 27, 28, 29, 30, 31] #[0, 0, 3, 0, 15, 31, 0, 0, 192, 448, 1023, 2047, 4095, 4095, 16383, 32767, 65535, 65535, 262143, 524287, 1048575, 2097151, 4194303, 8388607, 8388607, 33554431, 8388607, 134217727, 268435455, 536870911, 1073741823, 2147483647] (by kernel_rfl) (by kernel_rfl) (by kernel_rfl) ?_
            refine O_op (env' := uL24n264) (c := .calm) rfl rfl rfl (v_move (.inl rfl) rfl) rfl rfl rfl ?_
            refine O_op (env' := uL24n264) (c := .calm) rfl rfl rfl (v_move (.inl rfl) rfl) rfl rfl rfl ?_
            refine O_op (env' := uL24n264) (c := .calm) rfl rfl rfl (v_move (.inl rfl) rfl) rfl rfl rfl ?_
            refine O_op (env' := uL24n264) (c := .calm) rfl rfl rfl (v_move (.inl rfl) rfl) rfl rfl rfl ?_
            refine O_op (env' := uL24n264) (c := .calm) rfl rfl rfl (v_move (.inl rfl) rfl) rfl rfl rfl ?_
            refine O_op (env' := uL24n264) (c := .calm) rfl rfl rfl (v_shrW rfl rfl rfl (by first | assumption | omega | (simp [*]; done) | (simp at *; omega))) rfl rfl rfl ?_
            refine O_op (env' := uL24n264) (c := .calm) rfl rfl rfl (v_andW (b := 1#64) rfl rfl rfl) rfl rfl rfl ?_
            refine O_call (env' := uL24n264) rfl rfl rfl rfl rfl (by exact Above_spec _ _ J (get_app rfl rfl) hR.len _) (by first | exact Nat.le_refl _ | simp) rfl rfl ?_
            refine O_op (env' := uL24n264) (c := .calm) rfl rfl rfl (v_shrW rfl rfl rfl (by first | assumption | omega | (simp [*]; done) | (simp at *; omega))) rfl rfl rfl ?_
            refine O_op (env' := uL24n264) (c := .calm) rfl rfl rfl (v_andW (b := 1#64) rfl rfl rfl) rfl rfl rfl ?_
            refine O_op (env' := uL24n264) (c := .calm) rfl rfl rfl (v_is false rfl (by rw [show abv J (b : Int) >>> (a : Int).toNat &&& 1#64 = spr J (1#64 <<< a) >>> (b : Int).toNat &&& 1#64 from sh_eq (abv_bit (by omega) (by omega))]; simp)) rfl rfl rfl ?_
            refine O_op (env' := uL24n264) (c := .calm) rfl rfl rfl (v_move (.inl rfl) rfl) rfl rfl rfl ?_
            refine O_op (env' := uL24n264) (c := .calm) rfl rfl rfl (v_move (.inl rfl) rfl) rfl rfl rfl ?_
            refine O_op (env' := uL24n264) (c := .calm) rfl rfl rfl (v_move (.inl rfl) rfl) rfl rfl rfl ?_
            refine O_op (env' := uL24n264) (c := .calm) rfl rfl rfl (rfl) rfl rfl rfl ?_
            refine O_op (env' := uL24n264) (c := .calm) rfl rfl rfl (v_move (.inl rfl) rfl) rfl rfl rfl ?_
            refine O_split 237 (env1 := uL24n264) (env2 := uL24n264) rfl rfl rfl (fun hg25 => ?_) (fun hg25 => ?_)
            · try simp only [decide_eq_true_eq, decide_eq_false_iff_not, Bool.not_eq_true', Bool.not_eq_false', bne_iff_ne, beq_iff_eq, Bool.and_eq_true, Bool.or_eq_true, Bool.not_eq_true, ge_iff_le, gt_iff_lt, Int.not_le, Int.not_lt, beq_eq_false_iff_ne, bne_eq_false_iff_eq, ne_eq, Decidable.not_not, wd_zero, wd_one, wd_inj] at hg25
              refine O_op (env' := uL24n264) (c := .calm) rfl rfl rfl (v_move (.inl rfl) rfl) rfl rfl rfl ?_
              refine O_op (env' := uL24n264) (c := .calm) rfl rfl rfl (v_move (.inl rfl) rfl) rfl rfl rfl ?_
              refine O_op (env' := uL24n264) (c := .calm) rfl rfl rfl (v_shrW rfl rfl rfl (by first | assumption | omega | (simp [*]; done) | (simp at *; omega))) rfl rfl rfl ?_
              refine O_op (env' := uL24n264) (c := .calm) rfl rfl rfl (v_andW (b := 1#64) rfl rfl rfl) rfl rfl rfl ?_
              refine O_op (env' := uL24n264) (c := .calm) rfl rfl rfl (rfl) rfl rfl rfl ?_
              refine O_op (env' := uL24n264) (c := .calm) rfl rfl rfl (v_pickT rfl rfl rfl) rfl rfl rfl ?_
              refine O_op (env' := uL24n264) (c := .calm) rfl rfl rfl (v_move (.inl rfl) rfl) rfl rfl rfl ?_
              refine O_split 244 (env1 := uL24n264) (env2 := uL24n264) rfl rfl rfl (fun hg26 => ?_) (fun hg26 => ?_)
              · try simp only [decide_eq_true_eq, decide_eq_false_iff_not, Bool.not_eq_true', Bool.not_eq_false', bne_iff_ne, beq_iff_eq, Bool.and_eq_true, Bool.or_eq_true, Bool.not_eq_true, ge_iff_le, gt_iff_lt, Int.not_le, Int.not_lt, beq_eq_false_iff_ne, bne_eq_false_iff_eq, ne_eq, Decidable.not_not, wd_zero, wd_one, wd_inj] at hg26
                refine O_op (env' := uL24n264) (c := .calm) rfl rfl rfl (v_move (.inl rfl) rfl) rfl rfl rfl ?_
                refine O_op (env' := uL24n264) (c := .calm) rfl rfl rfl (v_move (.inl rfl) rfl) rfl rfl rfl ?_
                refine O_op (env' := uL24n264) (c := .calm) rfl rfl rfl (v_move (.inl rfl) rfl) rfl rfl rfl ?_
                refine O_call (env' := uL24n264) rfl rfl rfl rfl rfl (by exact rkBelow_nat _ _ J (get_app rfl rfl) hR.len b (by omega)) (by first | exact Nat.le_refl _ | simp) rfl rfl ?_
                refine O_op (env' := uL24n264) (c := .calm) rfl rfl rfl (v_shrW rfl rfl rfl (by first | assumption | omega | (simp [*]; done) | (simp at *; omega))) rfl rfl rfl ?_
                refine O_op (env' := uL24n264) (c := .calm) rfl rfl rfl (v_andW (b := 1#64) rfl rfl rfl) rfl rfl rfl ?_
                refine O_op (env' := uL24n264) (c := .calm) rfl rfl rfl (v_is false rfl (by rw [show spr J (1#64 <<< b) >>> (a : Int).toNat &&& 1#64 = 0#64 from sh0.2 (bool_f fun e => hR.spr_2 (a := a) (b := b) (by omega) (by omega) (by omega) (sh1.1 (by assumption)) e)]; rfl)) rfl rfl rfl ?_
                refine O_op (env' := uL24n264) (c := .calm) rfl rfl rfl (v_pickT rfl rfl rfl) rfl rfl rfl ?_
                refine O_op (env' := uL24n264) (c := .calm) rfl rfl rfl (v_pickF rfl rfl rfl) rfl rfl rfl ?_
                refine O_nil [] (by kernel_rfl) (trivial) ?_
                refine K_seq ?_
                refine B_false rfl rfl ?_
                refine B_skip ?_
                refine K_blk ?_
                refine K_seq ?_
                refine B_region ?_
                refine L_op (env' := uL24n264) rfl rfl (v_move (.inl rfl) rfl) rfl ?_
                refine L_op (env' := uL24n264) rfl rfl (v_addI rfl rfl rfl (by first | assumption | omega | (simp [*]; done) | (simp at *; omega))) rfl ?_
                refine L_op (env' := uL24n264) rfl rfl (v_move (.inr rfl) rfl) rfl ?_
                refine L_nil ?_
                refine K_loop (true :: true :: true :: false :: true :: false :: true :: false :: false :: false :: true :: true :: false :: true :: true :: true :: true :: true :: true :: true :: true :: true :: true :: true :: true :: true :: true :: true :: true :: true :: true :: true :: true :: true :: true :: true :: true :: true :: true :: true :: true :: true :: true :: true :: true :: true :: true :: true :: true :: true :: true :: true :: true :: true :: true :: true :: true :: true :: true :: true :: true :: true :: true :: true :: true :: true :: true :: true :: true :: true :: true :: true :: true :: true :: true :: true :: true :: true :: true :: true :: true :: true :: true :: true :: true :: true :: true :: true :: true :: true :: true :: true :: true :: true :: true :: true :: true :: true :: true :: true :: true :: true :: true :: true :: true :: true :: true :: true :: true :: true :: true :: true :: true :: true :: true :: true :: true :: true :: true :: true :: true :: true :: true :: true :: true :: true :: true :: true :: true :: true :: true :: true :: true :: true :: true :: true :: true :: true :: true :: true :: true :: true :: true :: true :: true :: true :: true :: true :: true :: true :: true :: true :: true :: true :: true :: true :: true :: true :: true :: true :: true :: true :: true :: true :: true :: true :: true :: true :: true :: true :: true :: true :: true :: true :: true :: true :: true :: true :: true :: true :: true :: true :: true :: true :: true :: true :: true :: true :: true :: true :: true :: true :: true :: true :: true :: true :: true :: true :: true :: true :: true :: true :: true :: true :: true :: true :: true :: true :: true :: true :: true :: true :: true :: true :: true :: true :: true :: true :: true :: true :: true :: true :: true :: true :: true :: true :: true :: true :: true :: true :: true :: true :: true :: true :: true :: true :: true :: true :: true :: true :: true :: true :: true :: true :: true :: true :: true :: true :: true :: true :: true :: true :: true :: true :: true :: true :: true :: true :: true :: true :: true :: true :: true :: true :: []) (env' := uL24n264) rfl ⟨b + 1, ?_, rfl, ?_⟩
                · first | omega | (simp only []; omega)
                · exact ⟨by omega, rfl⟩
              · try simp only [decide_eq_true_eq, decide_eq_false_iff_not, Bool.not_eq_true', Bool.not_eq_false', bne_iff_ne, beq_iff_eq, Bool.and_eq_true, Bool.or_eq_true, Bool.not_eq_true, ge_iff_le, gt_iff_lt, Int.not_le, Int.not_lt, beq_eq_false_iff_ne, bne_eq_false_iff_eq, ne_eq, Decidable.not_not, wd_zero, wd_one, wd_inj] at hg26
                refine O_off (env' := uL24n264) rfl rfl rfl rfl ?_
                refine O_off (env' := uL24n264) rfl rfl rfl rfl ?_
                refine O_off (env' := uL24n264) rfl rfl rfl rfl ?_
                refine O_off (env' := uL24n264) rfl rfl rfl rfl ?_
                refine O_off (env' := uL24n264) rfl rfl rfl rfl ?_
                refine O_off (env' := uL24n264) rfl rfl rfl rfl ?_
                refine O_off (env' := uL24n264) rfl rfl rfl rfl ?_
                refine O_op (env' := uL24n264) (c := .calm) rfl rfl rfl (v_pickFC (VVal.bool false) rfl rfl rfl) rfl rfl rfl ?_
                refine O_op (env' := uL24n264) (c := .calm) rfl rfl rfl (v_pickF rfl rfl rfl) rfl rfl rfl ?_
                refine O_nil [] (by kernel_rfl) (trivial) ?_
                refine K_seq ?_
                refine B_false rfl rfl ?_
                refine B_skip ?_
                refine K_blk ?_
                refine K_seq ?_
                refine B_region ?_
                refine L_op (env' := uL24n264) rfl rfl (v_move (.inl rfl) rfl) rfl ?_
                refine L_op (env' := uL24n264) rfl rfl (v_addI rfl rfl rfl (by first | assumption | omega | (simp [*]; done) | (simp at *; omega))) rfl ?_
                refine L_op (env' := uL24n264) rfl rfl (v_move (.inr rfl) rfl) rfl ?_
                refine L_nil ?_
                refine K_loop (true :: true :: true :: false :: true :: false :: true :: false :: false :: false :: true :: true :: false :: true :: true :: true :: true :: true :: true :: true :: true :: true :: true :: true :: true :: true :: true :: true :: true :: true :: true :: true :: true :: true :: true :: true :: true :: true :: true :: true :: true :: true :: true :: true :: true :: true :: true :: true :: true :: true :: true :: true :: true :: true :: true :: true :: true :: true :: true :: true :: true :: true :: true :: true :: true :: true :: true :: true :: true :: true :: true :: true :: true :: true :: true :: true :: true :: true :: true :: true :: true :: true :: true :: true :: true :: true :: true :: true :: true :: true :: true :: true :: true :: true :: true :: true :: true :: true :: true :: true :: true :: true :: true :: true :: true :: true :: true :: true :: true :: true :: true :: true :: true :: true :: true :: true :: true :: true :: true :: true :: true :: true :: true :: true :: true :: true :: true :: true :: true :: true :: true :: true :: true :: true :: true :: true :: true :: true :: true :: true :: true :: true :: true :: true :: true :: true :: true :: true :: true :: true :: true :: true :: true :: true :: true :: true :: true :: true :: true :: true :: true :: true :: true :: true :: true :: true :: true :: true :: true :: true :: true :: true :: true :: true :: true :: true :: true :: true :: true :: true :: true :: true :: true :: true :: true :: true :: true :: true :: true :: true :: true :: true :: true :: true :: true :: true :: true :: true :: true :: true :: true :: true :: true :: true :: true :: true :: true :: true :: true :: true :: true :: true :: true :: true :: true :: true :: true :: true :: true :: true :: true :: true :: true :: true :: true :: true :: true :: true :: true :: true :: true :: true :: true :: true :: true :: true :: true :: true :: true :: true :: true :: true :: true :: true :: true :: true :: true :: true :: true :: true :: true :: true :: true :: true :: true :: true :: true :: true :: true :: true :: true :: true :: true :: true :: []) (env' := uL24n264) rfl ⟨b + 1, ?_, rfl, ?_⟩
                · first | omega | (simp only []; omega)
                · exact ⟨by omega, rfl⟩
            · try simp only [decide_eq_true_eq, decide_eq_false_iff_not, Bool.not_eq_true', Bool.not_eq_false', bne_iff_ne, beq_iff_eq, Bool.and_eq_true, Bool.or_eq_true, Bool.not_eq_true, ge_iff_le, gt_iff_lt, Int.not_le, Int.not_lt, beq_eq_false_iff_ne, bne_eq_false_iff_eq, ne_eq, Decidable.not_not, wd_zero, wd_one, wd_inj] at hg25
              refine O_off (env' := uL24n264) rfl rfl rfl rfl ?_
              refine O_off (env' := uL24n264) rfl rfl rfl rfl ?_
              refine O_off (env' := uL24n264) rfl rfl rfl rfl ?_
              refine O_off (env' := uL24n264) rfl rfl rfl rfl ?_
              refine O_off (env' := uL24n264) rfl rfl rfl rfl ?_
              refine O_op (env' := uL24n264) (c := .calm) rfl rfl rfl (v_pickFC (VVal.bool false) rfl rfl rfl) rfl rfl rfl ?_
              refine O_op (env' := uL24n264) (c := .calm) rfl rfl rfl (v_move (.inl rfl) rfl) rfl rfl rfl ?_
              refine O_off (env' := uL24n264) rfl rfl rfl rfl ?_
              refine O_off (env' := uL24n264) rfl rfl rfl rfl ?_
              refine O_off (env' := uL24n264) rfl rfl rfl rfl ?_
              refine O_off (env' := uL24n264) rfl rfl rfl rfl ?_
              refine O_off (env' := uL24n264) rfl rfl rfl rfl ?_
              refine O_off (env' := uL24n264) rfl rfl rfl rfl ?_
              refine O_off (env' := uL24n264) rfl rfl rfl rfl ?_
              refine O_op (env' := uL24n264) (c := .calm) rfl rfl rfl (v_pickFC (VVal.bool false) rfl rfl rfl) rfl rfl rfl ?_
              refine O_op (env' := uL24n264) (c := .calm) rfl rfl rfl (v_pickF rfl rfl rfl) rfl rfl rfl ?_
              refine O_nil [] (by kernel_rfl) (trivial) ?_
              refine K_seq ?_
              refine B_false rfl rfl ?_
              refine B_skip ?_
              refine K_blk ?_
              refine K_seq ?_
              refine B_region ?_
              refine L_op (env' := uL24n264) rfl rfl (v_move (.inl rfl) rfl) rfl ?_
              refine L_op (env' := uL24n264) rfl rfl (v_addI rfl rfl rfl (by first | assumption | omega | (simp [*]; done) | (simp at *; omega))) rfl ?_
              refine L_op (env' := uL24n264) rfl rfl (v_move (.inr rfl) rfl) rfl ?_
              refine L_nil ?_
              refine K_loop (true :: true :: true :: false :: true :: false :: true :: false :: false :: false :: true :: true :: false :: true :: true :: true :: true :: true :: true :: true :: true :: true :: true :: true :: true :: true :: true :: true :: true :: true :: true :: true :: true :: true :: true :: true :: true :: true :: true :: true :: true :: true :: true :: true :: true :: true :: true :: true :: true :: true :: true :: true :: true :: true :: true :: true :: true :: true :: true :: true :: true :: true :: true :: true :: true :: true :: true :: true :: true :: true :: true :: true :: true :: true :: true :: true :: true :: true :: true :: true :: true :: true :: true :: true :: true :: true :: true :: true :: true :: true :: true :: true :: true :: true :: true :: true :: true :: true :: true :: true :: true :: true :: true :: true :: true :: true :: true :: true :: true :: true :: true :: true :: true :: true :: true :: true :: true :: true :: true :: true :: true :: true :: true :: true :: true :: true :: true :: true :: true :: true :: true :: true :: true :: true :: true :: true :: true :: true :: true :: true :: true :: true :: true :: true :: true :: true :: true :: true :: true :: true :: true :: true :: true :: true :: true :: true :: true :: true :: true :: true :: true :: true :: true :: true :: true :: true :: true :: true :: true :: true :: true :: true :: true :: true :: true :: true :: true :: true :: true :: true :: true :: true :: true :: true :: true :: true :: true :: true :: true :: true :: true :: true :: true :: true :: true :: true :: true :: true :: true :: true :: true :: true :: true :: true :: true :: true :: true :: true :: true :: true :: true :: true :: true :: true :: true :: true :: true :: true :: true :: true :: true :: true :: true :: true :: true :: true :: true :: true :: true :: true :: true :: true :: true :: true :: true :: true :: true :: true :: true :: true :: true :: true :: true :: true :: true :: true :: true :: true :: true :: true :: true :: true :: true :: true :: true :: true :: true :: true :: true :: true :: true :: true :: true :: true :: []) (env' := uL24n264) rfl ⟨b + 1, ?_, rfl, ?_⟩
              · first | omega | (simp only []; omega)
              · exact ⟨by omega, rfl⟩
          · try simp only [decide_eq_true_eq, decide_eq_false_iff_not, Bool.not_eq_true', Bool.not_eq_false', bne_iff_ne, beq_iff_eq, Bool.and_eq_true, Bool.or_eq_true, Bool.not_eq_true, ge_iff_le, gt_iff_lt, Int.not_le, Int.not_lt, beq_eq_false_iff_ne, bne_eq_false_iff_eq, ne_eq, Decidable.not_not, wd_zero, wd_one, wd_inj] at hc24
            refine B_exit ?_
            refine K_seqX ?_
            refine K_loopX ?_
            refine K_blkX ?_
            refine K_seq ?_
            refine B_seq ?_
            refine B_region ?_
            refine L_op (env' := uL24n264) rfl rfl (v_move (.inl rfl) rfl) rfl ?_
            refine L_op (env' := uL24n264) rfl rfl (rfl) rfl ?_
            refine L_op (env' := uL24n264) rfl rfl (rfl) rfl ?_
            refine L_nil ?_
            refine K_seq ?_
            refine B_cond _ rfl (fun hc27 => ?_) (fun hc27 => ?_)
            · try simp only [decide_eq_true_eq, decide_eq_false_iff_not, Bool.not_eq_true', Bool.not_eq_false', bne_iff_ne, beq_iff_eq, Bool.and_eq_true, Bool.or_eq_true, Bool.not_eq_true, ge_iff_le, gt_iff_lt, Int.not_le, Int.not_lt, beq_eq_false_iff_ne, bne_eq_false_iff_eq, ne_eq, Decidable.not_not, wd_zero, wd_one, wd_inj] at hc27
              refine B_region ?_
              refine L_op (env' := uL24n264) rfl rfl (v_move (.inl rfl) rfl) rfl ?_
              refine L_op (env' := uL24n264) rfl rfl (v_move (.inl rfl) rfl) rfl ?_
              refine L_op (env' := uL24n264) rfl rfl (v_orW rfl rfl rfl) rfl ?_
              refine L_op (env' := uL24n264) rfl rfl (v_move (.inr rfl) rfl) rfl ?_
              refine L_nil ?_
              refine K_blk ?_
              refine K_seq ?_
              refine B_region ?_
              refine L_op (env' := uL24n264) rfl rfl (v_move (.inl rfl) rfl) rfl ?_
              refine L_op (env' := uL24n264) rfl rfl (v_addI rfl rfl rfl (by first | assumption | omega | (simp [*]; done) | (simp at *; omega))) rfl ?_
              refine L_op (env' := uL24n264) rfl rfl (v_move (.inr rfl) rfl) rfl ?_
              refine L_nil ?_
              first
                | (have hE : spr J (th3 a) ||| spr J (1#64 <<< a) = spr J (th3 (a + 1)) := by rw [th3, if_pos (tmod3.1 (by assumption)), spr_or]); rw [hE]
                | (have hE : spr J (th3 a) = spr J (th3 (a + 1)) := by rw [th3, if_neg (mt tmod3.2 (by assumption))]); rw [hE]
              refine K_loop (true :: true :: true :: false :: true :: false :: true :: false :: false :: true :: true :: true :: true :: true :: true :: true :: true :: true :: true :: true :: true :: true :: true :: true :: true :: true :: true :: true :: true :: true :: true :: true :: true :: true :: true :: true :: true :: true :: true :: true :: true :: true :: true :: true :: true :: true :: true :: true :: true :: true :: true :: true :: true :: true :: true :: true :: true :: true :: true :: true :: true :: true :: true :: true :: true :: true :: true :: true :: true :: true :: true :: true :: true :: true :: true :: true :: true :: true :: true :: true :: true :: true :: true :: true :: true :: true :: true :: true :: true :: true :: true :: true :: true :: true :: true :: true :: true :: true :: true :: true :: true :: true :: true :: true :: true :: true :: true :: true :: true :: true :: true :: true :: true :: true :: true :: true :: true :: true :: true :: true :: true :: true :: true :: true :: true :: true :: true :: true :: true :: true :: true :: true :: true :: true :: true :: true :: true :: true :: true :: true :: true :: true :: true :: true :: true :: true :: true :: true :: true :: true :: true :: true :: true :: true :: true :: true :: true :: true :: true :: true :: true :: true :: true :: true :: true :: true :: true :: true :: true :: true :: true :: true :: true :: true :: true :: true :: true :: true :: true :: true :: true :: true :: true :: true :: true :: true :: true :: true :: true :: true :: true :: true :: true :: true :: true :: true :: true :: true :: true :: true :: true :: true :: true :: true :: true :: true :: true :: true :: true :: true :: true :: true :: true :: true :: true :: true :: true :: true :: true :: true :: true :: true :: true :: true :: true :: true :: true :: true :: true :: true :: true :: true :: true :: true :: true :: true :: true :: true :: true :: true :: true :: true :: true :: true :: true :: true :: true :: true :: true :: true :: true :: true :: true :: true :: true :: true :: true :: true :: true :: true :: true :: true :: true :: true :: []) (env' := uL24n264) rfl ⟨a + 1, ?_, rfl, ?_⟩
              · first | omega | (simp only []; omega)
              · exact ⟨by omega, rfl⟩
            · try simp only [decide_eq_true_eq, decide_eq_false_iff_not, Bool.not_eq_true', Bool.not_eq_false', bne_iff_ne, beq_iff_eq, Bool.and_eq_true, Bool.or_eq_true, Bool.not_eq_true, ge_iff_le, gt_iff_lt, Int.not_le, Int.not_lt, beq_eq_false_iff_ne, bne_eq_false_iff_eq, ne_eq, Decidable.not_not, wd_zero, wd_one, wd_inj] at hc27
              refine B_skip ?_
              refine K_blk ?_
              refine K_seq ?_
              refine B_region ?_
              refine L_op (env' := uL24n264) rfl rfl (v_move (.inl rfl) rfl) rfl ?_
              refine L_op (env' := uL24n264) rfl rfl (v_addI rfl rfl rfl (by first | assumption | omega | (simp [*]; done) | (simp at *; omega))) rfl ?_
              refine L_op (env' := uL24n264) rfl rfl (v_move (.inr rfl) rfl) rfl ?_
              refine L_nil ?_
              first
                | (have hE : spr J (th3 a) ||| spr J (1#64 <<< a) = spr J (th3 (a + 1)) := by rw [th3, if_pos (tmod3.1 (by assumption)), spr_or]); rw [hE]
                | (have hE : spr J (th3 a) = spr J (th3 (a + 1)) := by rw [th3, if_neg (mt tmod3.2 (by assumption))]); rw [hE]
              refine K_loop (true :: true :: true :: false :: true :: false :: true :: false :: false :: true :: true :: true :: true :: true :: true :: true :: true :: true :: true :: true :: true :: true :: true :: true :: true :: true :: true :: true :: true :: true :: true :: true :: true :: true :: true :: true :: true :: true :: true :: true :: true :: true :: true :: true :: true :: true :: true :: true :: true :: true :: true :: true :: true :: true :: true :: true :: true :: true :: true :: true :: true :: true :: true :: true :: true :: true :: true :: true :: true :: true :: true :: true :: true :: true :: true :: true :: true :: true :: true :: true :: true :: true :: true :: true :: true :: true :: true :: true :: true :: true :: true :: true :: true :: true :: true :: true :: true :: true :: true :: true :: true :: true :: true :: true :: true :: true :: true :: true :: true :: true :: true :: true :: true :: true :: true :: true :: true :: true :: true :: true :: true :: true :: true :: true :: true :: true :: true :: true :: true :: true :: true :: true :: true :: true :: true :: true :: true :: true :: true :: true :: true :: true :: true :: true :: true :: true :: true :: true :: true :: true :: true :: true :: true :: true :: true :: true :: true :: true :: true :: true :: true :: true :: true :: true :: true :: true :: true :: true :: true :: true :: true :: true :: true :: true :: true :: true :: true :: true :: true :: true :: true :: true :: true :: true :: true :: true :: true :: true :: true :: true :: true :: true :: true :: true :: true :: true :: true :: true :: true :: true :: true :: true :: true :: true :: true :: true :: true :: true :: true :: true :: true :: true :: true :: true :: true :: true :: true :: true :: true :: true :: true :: true :: true :: true :: true :: true :: true :: true :: true :: true :: true :: true :: true :: true :: true :: true :: true :: true :: true :: true :: true :: true :: true :: true :: true :: true :: true :: true :: true :: true :: true :: true :: true :: true :: true :: true :: true :: true :: true :: true :: true :: true :: true :: true :: []) (env' := uL24n264) rfl ⟨a + 1, ?_, rfl, ?_⟩
              · first | omega | (simp only []; omega)
              · exact ⟨by omega, rfl⟩
      · try simp only [decide_eq_true_eq, decide_eq_false_iff_not, Bool.not_eq_true', Bool.not_eq_false', bne_iff_ne, beq_iff_eq, Bool.and_eq_true, Bool.or_eq_true, Bool.not_eq_true, ge_iff_le, gt_iff_lt, Int.not_le, Int.not_lt, beq_eq_false_iff_ne, bne_eq_false_iff_eq, ne_eq, Decidable.not_not, wd_zero, wd_one, wd_inj] at hc20
        refine B_exit ?_
        refine K_seqX ?_
        refine K_loopX ?_
        refine K_blkX ?_
        refine K_seq ?_
        refine B_seq ?_
        obtain rfl : a = 64 := by omega
        rw [th3_all]
        refine B_region ?_
        refine L_op (env' := uL24n264) rfl rfl (v_move (.inl rfl) rfl) rfl ?_
        refine L_call rfl rfl rfl (by exact Spread_spec _ _ J (get_app rfl rfl) hR.len 10540996613548315209#64) ?_
        rintro _ _ ⟨rfl, rfl⟩
        refine L_env (env' := uL24n264) rfl ?_
        refine L_op (env' := uL24n264) rfl rfl (v_move (.inl rfl) rfl) rfl ?_
        refine L_op (env' := uL24n264) rfl rfl (rfl) rfl ?_
        refine L_op (env' := uL24n264) rfl rfl (v_move (.inr rfl) rfl) rfl ?_
        refine L_nil ?_
        refine K_seq ?_
        refine B_ret ?_
        refine E_app (.inr rfl) (vres_tmp rfl rfl) (by first | exact BaseOk.refl _ | exact BaseOk.set (BaseOk.refl _) _ rfl) (by first | rfl | simp [VVal.under, VVal.underL, *]) ?_
        exact ⟨by simp, rfl⟩

theorem RankReach_law {x : SW} (ops : List OpT) (hl : ops.length * 40 ≤ 140737488351232) : F (psys x) 10 [fzO ops] [] fun v G => v = .bool true := by
  have hl : ops.length * 40 ≤ 140737488355328 := by omega
  exact (RankReach_walk [] ops hl).mono fun v G h => h.1
end Go.Proofs.YteocbhgdmpdklaaDoor.VT
