/- orders made: walks -/
import Derived.Test.YteocbhgdmpdklaaDoorS2
import Derived.Test.YteocbhgdmpdklaaDoorS30
set_option autoImplicit false
set_option linter.unusedVariables false
set_option linter.unusedSimpArgs false
set_option maxHeartbeats 4000000
set_option maxRecDepth 100000
namespace Go.Proofs.YteocbhgdmpdklaaDoor.VT
open Go Go.V

abbrev uS3n16 {a0 a1 a2 a3 a4 a5 a6 a7 a8 a9 a10 a11 a12 a13 a14 a15 : VVal} : VEnv := a0 :: a1 :: a2 :: a3 :: a4 :: a5 :: a6 :: a7 :: a8 :: a9 :: a10 :: a11 :: a12 :: a13 :: a14 :: a15 :: []
abbrev uS3n123 {a0 a1 a2 a3 a4 a5 a6 a7 a8 a9 a10 a11 a12 a13 a14 a15 a16 a17 a18 a19 a20 a21 a22 a23 a24 a25 a26 a27 a28 a29 a30 a31 a32 a33 a34 a35 a36 a37 a38 a39 a40 a41 a42 a43 a44 a45 a46 a47 a48 a49 a50 a51 a52 a53 a54 a55 a56 a57 a58 a59 a60 a61 a62 a63 a64 a65 a66 a67 a68 a69 a70 a71 a72 a73 a74 a75 a76 a77 a78 a79 a80 a81 a82 a83 a84 a85 a86 a87 a88 a89 a90 a91 a92 a93 a94 a95 a96 a97 a98 a99 a100 a101 a102 a103 a104 a105 a106 a107 a108 a109 a110 a111 a112 a113 a114 a115 a116 a117 a118 a119 a120 a121 a122 : VVal} : VEnv := a0 :: a1 :: a2 :: a3 :: a4 :: a5 :: a6 :: a7 :: a8 :: a9 :: a10 :: a11 :: a12 :: a13 :: a14 :: a15 :: a16 :: a17 :: a18 :: a19 :: a20 :: a21 :: a22 :: a23 :: a24 :: a25 :: a26 :: a27 :: a28 :: a29 :: a30 :: a31 :: a32 :: a33 :: a34 :: a35 :: a36 :: a37 :: a38 :: a39 :: a40 :: a41 :: a42 :: a43 :: a44 :: a45 :: a46 :: a47 :: a48 :: a49 :: a50 :: a51 :: a52 :: a53 :: a54 :: a55 :: a56 :: a57 :: a58 :: a59 :: a60 :: a61 :: a62 :: a63 :: a64 :: a65 :: a66 :: a67 :: a68 :: a69 :: a70 :: a71 :: a72 :: a73 :: a74 :: a75 :: a76 :: a77 :: a78 :: a79 :: a80 :: a81 :: a82 :: a83 :: a84 :: a85 :: a86 :: a87 :: a88 :: a89 :: a90 :: a91 :: a92 :: a93 :: a94 :: a95 :: a96 :: a97 :: a98 :: a99 :: a100 :: a101 :: a102 :: a103 :: a104 :: a105 :: a106 :: a107 :: a108 :: a109 :: a110 :: a111 :: a112 :: a113 :: a114 :: a115 :: a116 :: a117 :: a118 :: a119 :: a120 :: a121 :: a122 :: []

theorem all_at2 {α : Type} (f : α → VVal) (l : List α) {m : Nat} (h : l.length = m) : cellsAt (l.map f) 0 (m * 1) = some (l.map f) := by subst h; exact all_at f l
/-- what New has laid -/
abbrev newL (H : VHeap) (m : Nat) (e : Int) (ps ss : List (BitVec 64)) : VHeap := [.cells [.ptr none] true, .cells [iI e] true, .cells (ps.map iW) true, .cells (ss.map iW) true, .cells [.slice (some (H.length + 2, 0)) m m true 1, .slice (some (H.length + 3, 0)) m m true 1] true, .cells [.ptr (some (H.length + 4, 0))] true]

/-- what New answers -/
def newV (n : Int) (l : List (Int × Int)) : VVal :=
  if n < 0 ∨ 64 < n ∨ l.all (inR n) = false then .tuple [.ptr none, iI 1]
  else if (List.range n.toNat).any (fun a => rch l n.toNat a a) = true then .tuple [.ptr none, iI 6]
  else .tuple [ordV (preL l n.toNat) (sucL l n.toNat), iI 0]

theorem take_all {l : List (Int × Int)} {n : Int} {k : Nat} (h : ∀ p, p ∈ l.take k → inR n p = true) (hk : k < l.length) (hp : inR n (l.getD k (0, 0)) = true) : ∀ p, p ∈ l.take (k + 1) → inR n p = true := by
  intro p hp2
  rw [List.take_succ_eq_append_getElem hk] at hp2
  rcases List.mem_append.1 hp2 with h1 | h1
  · exact h p h1
  · simp at h1; subst h1; simpa [List.getD_eq_getElem?_getD, hk] using hp
theorem take_step {l : List (Int × Int)} {k : Nat} (hk : k < l.length) : l.take (k + 1) = l.take k ++ [l.getD k (0, 0)] := by
  rw [List.take_succ_eq_append_getElem hk]; simp [List.getD_eq_getElem?_getD, hk]
theorem all_false {l : List (Int × Int)} {n : Int} {k : Nat} (hk : k < l.length) (hp : inR n (l.getD k (0, 0)) = false) : l.all (inR n) = false := by
  rw [List.all_eq_false]
  exact ⟨l.getD k (0, 0), by simp [List.getD_eq_getElem?_getD, hk], by rw [hp]; simp⟩


theorem isM_spec {x : SW} (H : VHeap) (o p s k : Nat) (h1 : H[o]? = some (.cells [.slice (some (p, 0)) k k true 1, .slice (some (s, 0)) k k true 1] true)) (a : Int) : F (psys x) 61 [.ptr (some (o, 0)), iI a] H fun v G => v = .bool (decide (0 ≤ a ∧ a < k)) ∧ G = H := by
  refine F_body Tryd.func61 rfl uS3n16 rfl ?_
  refine B_seq ?_
  refine B_region ?_
  refine L_op (env' := uS3n16) rfl rfl (v_const (VVal.bool false) (.inr rfl) rfl) rfl ?_
  refine L_nil ?_
  refine K_seq ?_
  refine B_seq ?_
  refine B_region ?_
  refine L_op (env' := uS3n16) rfl rfl (v_move (.inl rfl) rfl) rfl ?_
  refine L_op (env' := uS3n16) rfl rfl (rfl) rfl ?_
  refine L_op (env' := uS3n16) rfl rfl (v_move (.inl rfl) rfl) rfl ?_
  refine L_split 7 (env1 := uS3n16) (env2 := uS3n16) rfl rfl rfl (fun hg1 => ?_) (fun hg1 => ?_)
  · try simp only [decide_eq_true_eq, decide_eq_false_iff_not, Bool.not_eq_true', Bool.not_eq_false', bne_iff_ne, beq_iff_eq, Bool.and_eq_true, Bool.or_eq_true, Bool.not_eq_true, ge_iff_le, gt_iff_lt, Int.not_le, Int.not_lt, beq_eq_false_iff_ne, bne_eq_false_iff_eq, ne_eq, Decidable.not_not, wd_zero, wd_one, wd_inj] at hg1
    refine L_op (env' := uS3n16) rfl rfl (v_move (.inl rfl) rfl) rfl ?_
    refine L_op (env' := uS3n16) rfl rfl (v_move (.inl rfl) rfl) rfl ?_
    refine L_op (env' := uS3n16) rfl rfl (rfl) rfl ?_
    refine L_op (env' := uS3n16) rfl rfl (rfl) rfl ?_
    refine L_op (env' := uS3n16) rfl rfl (by first | exact v_loadF rfl rfl rfl rfl (by first | rfl | assumption | exact fget (α := BitVec 64) 0 (by omega) | exact fget (α := Int) 0 (by omega) | exact fget0 (α := BitVec 64) 0 (by omega) | exact fget0 (α := Int) 0 (by omega) | exact fget (α := Bool) false (by omega) | exact fget0 (α := Bool) false (by omega) | (simp [*]; done)) | exact v_load rfl rfl rfl rfl (by first | exact get_app rfl rfl | exact get_out (by assumption) | assumption | (simp [*]; done)) (by first | rfl | assumption | exact fget (α := BitVec 64) 0 (by omega) | exact fget (α := Int) 0 (by omega) | exact fget0 (α := BitVec 64) 0 (by omega) | exact fget0 (α := Int) 0 (by omega) | exact fget (α := Bool) false (by omega) | exact fget0 (α := Bool) false (by omega) | (simp [*]; done))) rfl ?_
    refine L_op (env' := uS3n16) rfl rfl (rfl) rfl ?_
    refine L_op (env' := uS3n16) rfl rfl (rfl) rfl ?_
    refine L_op (env' := uS3n16) rfl rfl (v_pickT rfl rfl rfl) rfl ?_
    refine L_op (env' := uS3n16) rfl rfl (v_move (.inr rfl) rfl) rfl ?_
    refine L_nil ?_
    refine K_seq ?_
    refine B_ret ?_
    refine E_app (.inr rfl) (vres_tmp rfl rfl) (by first | exact BaseOk.refl _ | exact BaseOk.set (BaseOk.refl _) _ rfl) (by first | rfl | simp [VVal.under, VVal.underL, *]) ?_
    exact ⟨by simp [*]; try omega, rfl⟩
  · try simp only [decide_eq_true_eq, decide_eq_false_iff_not, Bool.not_eq_true', Bool.not_eq_false', bne_iff_ne, beq_iff_eq, Bool.and_eq_true, Bool.or_eq_true, Bool.not_eq_true, ge_iff_le, gt_iff_lt, Int.not_le, Int.not_lt, beq_eq_false_iff_ne, bne_eq_false_iff_eq, ne_eq, Decidable.not_not, wd_zero, wd_one, wd_inj] at hg1
    refine L_off (env' := uS3n16) rfl rfl ?_
    refine L_off (env' := uS3n16) rfl rfl ?_
    refine L_off (env' := uS3n16) rfl rfl ?_
    refine L_off (env' := uS3n16) rfl rfl ?_
    refine L_off (env' := uS3n16) rfl rfl ?_
    refine L_off (env' := uS3n16) rfl rfl ?_
    refine L_off (env' := uS3n16) rfl rfl ?_
    refine L_op (env' := uS3n16) rfl rfl (v_pickFC (VVal.bool false) rfl rfl rfl) rfl ?_
    refine L_op (env' := uS3n16) rfl rfl (v_move (.inr rfl) rfl) rfl ?_
    refine L_nil ?_
    refine K_seq ?_
    refine B_ret ?_
    refine E_app (.inr rfl) (vres_tmp rfl rfl) (by first | exact BaseOk.refl _ | exact BaseOk.set (BaseOk.refl _) _ rfl) (by first | rfl | simp [VVal.under, VVal.underL, *]) ?_
    exact ⟨by simp [*]; try omega, rfl⟩

theorem New_spec {x : SW} (H : VHeap) (n : Int) (pairs : List (Int × Int)) (hp : pairs.length < 9223372036854775807) : F (psys x) 16 [iI n, fzP pairs] H fun v G => v = newV n pairs ∧ G = H := by
  have hp2 : pairs.length ≤ 9223372036854775807 := Nat.le_of_lt hp
  refine F_body Tryd.func16 rfl uS3n123 rfl ?_
  refine B_seq ?_
  refine B_region ?_
  refine L_op (env' := uS3n123) rfl rfl (v_alloc rfl rfl) rfl ?_
  refine L_op (env' := uS3n123) rfl rfl (v_alloc rfl rfl) rfl ?_
  refine L_nil ?_
  refine K_seq ?_
  refine B_seq ?_
  refine B_seq ?_
  refine B_region ?_
  refine L_op (env' := uS3n123) rfl rfl (v_move (.inl rfl) rfl) rfl ?_
  refine L_op (env' := uS3n123) rfl rfl (rfl) rfl ?_
  refine L_op (env' := uS3n123) rfl rfl (v_move (.inl rfl) rfl) rfl ?_
  refine L_split 15 (env1 := uS3n123) (env2 := uS3n123) rfl rfl rfl (fun hg1 => ?_) (fun hg1 => ?_)
  · try simp only [decide_eq_true_eq, decide_eq_false_iff_not, Bool.not_eq_true', Bool.not_eq_false', bne_iff_ne, beq_iff_eq, Bool.and_eq_true, Bool.or_eq_true, Bool.not_eq_true, ge_iff_le, gt_iff_lt, Int.not_le, Int.not_lt, beq_eq_false_iff_ne, bne_eq_false_iff_eq, ne_eq, Decidable.not_not, wd_zero, wd_one, wd_inj] at hg1
    refine L_off (env' := uS3n123) rfl rfl ?_
    refine L_off (env' := uS3n123) rfl rfl ?_
    refine L_op (env' := uS3n123) rfl rfl (v_pickTC (VVal.bool true) rfl rfl rfl) rfl ?_
    refine L_nil ?_
    refine K_seq ?_
    refine B_true rfl rfl ?_
    refine B_seq ?_
    refine B_region ?_
    refine L_op (env' := uS3n123) rfl rfl (v_storeC (VVal.ptr none) rfl rfl rfl rfl rfl rfl rfl (by first | exact get_app rfl rfl | exact get_out (by assumption) | assumption | (simp [*]; done)) (by first | exact Nat.le_of_ble_eq_true rfl | (simp only [List.length_map, List.length_cons, List.length_nil]; omega) | omega | (simp; done) | (simp; omega)) (by first | exact set_app rfl | exact set_out (lt_of_get (by assumption)) | rfl)) rfl ?_
    refine L_op (env' := uS3n123) rfl rfl (v_storeC (VVal.int .i64 1) rfl rfl rfl rfl rfl rfl rfl (by first | exact get_app rfl rfl | exact get_out (by assumption) | assumption | (simp [*]; done)) (by first | exact Nat.le_of_ble_eq_true rfl | (simp only [List.length_map, List.length_cons, List.length_nil]; omega) | omega | (simp; done) | (simp; omega)) (by first | exact set_app rfl | exact set_out (lt_of_get (by assumption)) | rfl)) rfl ?_
    refine L_nil ?_
    refine K_seq ?_
    refine B_ret ?_
    refine K_seqR ?_
    refine E_app (.inr rfl) (vres_cells2 rfl rfl rfl rfl rfl rfl rfl (by first | exact get_app rfl rfl | exact get_out (by assumption) | assumption | (simp [*]; done)) (by first | rfl | assumption | exact fget (α := BitVec 64) 0 (by omega) | exact fget (α := Int) 0 (by omega) | exact fget0 (α := BitVec 64) 0 (by omega) | exact fget0 (α := Int) 0 (by omega) | exact fget (α := Bool) false (by omega) | exact fget0 (α := Bool) false (by omega) | (simp [*]; done)) (by first | exact get_app rfl rfl | exact get_out (by assumption) | assumption | (simp [*]; done)) (by first | rfl | assumption | exact fget (α := BitVec 64) 0 (by omega) | exact fget (α := Int) 0 (by omega) | exact fget0 (α := BitVec 64) 0 (by omega) | exact fget0 (α := Int) 0 (by omega) | exact fget (α := Bool) false (by omega) | exact fget0 (α := Bool) false (by omega) | (simp [*]; done))) (by first | exact BaseOk.refl _ | exact BaseOk.set (BaseOk.refl _) _ rfl) (by simp [VVal.underL, VVal.under, VBlk.under, fz_under, fz_underI, fzP_under, under_mapW, under_mapI, under_flatP, under_repW]) ?_
    exact ⟨by rw [newV, if_pos (.inl hg1)], rfl⟩
  · try simp only [decide_eq_true_eq, decide_eq_false_iff_not, Bool.not_eq_true', Bool.not_eq_false', bne_iff_ne, beq_iff_eq, Bool.and_eq_true, Bool.or_eq_true, Bool.not_eq_true, ge_iff_le, gt_iff_lt, Int.not_le, Int.not_lt, beq_eq_false_iff_ne, bne_eq_false_iff_eq, ne_eq, Decidable.not_not, wd_zero, wd_one, wd_inj] at hg1
    refine L_op (env' := uS3n123) rfl rfl (v_move (.inl rfl) rfl) rfl ?_
    refine L_op (env' := uS3n123) rfl rfl (rfl) rfl ?_
    refine L_op (env' := uS3n123) rfl rfl (v_pickF rfl rfl rfl) rfl ?_
    refine L_nil ?_
    refine K_seq ?_
    refine B_cond _ rfl (fun hc2 => ?_) (fun hc2 => ?_)
    · try simp only [decide_eq_true_eq, decide_eq_false_iff_not, Bool.not_eq_true', Bool.not_eq_false', bne_iff_ne, beq_iff_eq, Bool.and_eq_true, Bool.or_eq_true, Bool.not_eq_true, ge_iff_le, gt_iff_lt, Int.not_le, Int.not_lt, beq_eq_false_iff_ne, bne_eq_false_iff_eq, ne_eq, Decidable.not_not, wd_zero, wd_one, wd_inj] at hc2
      refine B_seq ?_
      refine B_region ?_
      refine L_op (env' := uS3n123) rfl rfl (v_storeC (VVal.ptr none) rfl rfl rfl rfl rfl rfl rfl (by first | exact get_app rfl rfl | exact get_out (by assumption) | assumption | (simp [*]; done)) (by first | exact Nat.le_of_ble_eq_true rfl | (simp only [List.length_map, List.length_cons, List.length_nil]; omega) | omega | (simp; done) | (simp; omega)) (by first | exact set_app rfl | exact set_out (lt_of_get (by assumption)) | rfl)) rfl ?_
      refine L_op (env' := uS3n123) rfl rfl (v_storeC (VVal.int .i64 1) rfl rfl rfl rfl rfl rfl rfl (by first | exact get_app rfl rfl | exact get_out (by assumption) | assumption | (simp [*]; done)) (by first | exact Nat.le_of_ble_eq_true rfl | (simp only [List.length_map, List.length_cons, List.length_nil]; omega) | omega | (simp; done) | (simp; omega)) (by first | exact set_app rfl | exact set_out (lt_of_get (by assumption)) | rfl)) rfl ?_
      refine L_nil ?_
      refine K_seq ?_
      refine B_ret ?_
      refine K_seqR ?_
      refine E_app (.inr rfl) (vres_cells2 rfl rfl rfl rfl rfl rfl rfl (by first | exact get_app rfl rfl | exact get_out (by assumption) | assumption | (simp [*]; done)) (by first | rfl | assumption | exact fget (α := BitVec 64) 0 (by omega) | exact fget (α := Int) 0 (by omega) | exact fget0 (α := BitVec 64) 0 (by omega) | exact fget0 (α := Int) 0 (by omega) | exact fget (α := Bool) false (by omega) | exact fget0 (α := Bool) false (by omega) | (simp [*]; done)) (by first | exact get_app rfl rfl | exact get_out (by assumption) | assumption | (simp [*]; done)) (by first | rfl | assumption | exact fget (α := BitVec 64) 0 (by omega) | exact fget (α := Int) 0 (by omega) | exact fget0 (α := BitVec 64) 0 (by omega) | exact fget0 (α := Int) 0 (by omega) | exact fget (α := Bool) false (by omega) | exact fget0 (α := Bool) false (by omega) | (simp [*]; done))) (by first | exact BaseOk.refl _ | exact BaseOk.set (BaseOk.refl _) _ rfl) (by simp [VVal.underL, VVal.under, VBlk.under, fz_under, fz_underI, fzP_under, under_mapW, under_mapI, under_flatP, under_repW]) ?_
      exact ⟨by rw [newV, if_pos (.inr (.inl hc2))], rfl⟩
    · try simp only [decide_eq_true_eq, decide_eq_false_iff_not, Bool.not_eq_true', Bool.not_eq_false', bne_iff_ne, beq_iff_eq, Bool.and_eq_true, Bool.or_eq_true, Bool.not_eq_true, ge_iff_le, gt_iff_lt, Int.not_le, Int.not_lt, beq_eq_false_iff_ne, bne_eq_false_iff_eq, ne_eq, Decidable.not_not, wd_zero, wd_one, wd_inj] at hc2
      obtain ⟨m, rfl⟩ : ∃ m : Nat, n = m := ⟨n.toNat, by omega⟩
      refine B_skip ?_
      refine K_seq ?_
      refine B_seq ?_
      refine B_draw [0, 1, 2, 3, 4, 5, 6, 7] #[0, 1, 0, 4, 15, 31, 0, 127] (by kernel_rfl) (by kernel_rfl) (by kernel_rfl) ?_
      refine O_op (env' := uS3n123) (c := .calm) rfl rfl rfl (v_move (.inl rfl) rfl) rfl rfl rfl ?_
      refine O_op (env' := uS3n123) (c := .grow) rfl rfl rfl (v_makeSlice rfl rfl rfl rfl rfl (by decide) (by exact ⟨by omega, by omega, by show (m : Int) * ((8 : Nat) : Int) ≤ _; omega, by omega⟩)) rfl rfl rfl ?_
      refine O_op (env' := uS3n123) (c := .calm) rfl rfl rfl (v_move (.inl rfl) rfl) rfl rfl rfl ?_
      refine O_op (env' := uS3n123) (c := .grow) rfl rfl rfl (v_makeSlice rfl rfl rfl rfl rfl (by decide) (by exact ⟨by omega, by omega, by show (m : Int) * ((8 : Nat) : Int) ≤ _; omega, by omega⟩)) rfl rfl rfl ?_
      refine O_op (env' := uS3n123) (c := .calm) rfl rfl rfl (rfl) rfl rfl rfl ?_
      refine O_op (env' := uS3n123) (c := .grow) rfl rfl rfl (v_boxT rfl rfl rfl) rfl rfl rfl ?_
      refine O_op (env' := uS3n123) (c := .grow) rfl rfl rfl (v_alloc rfl rfl) rfl rfl rfl ?_
      refine O_op (env' := uS3n123) (c := .turn) rfl rfl rfl (v_storeT rfl rfl rfl rfl rfl rfl rfl (by first | exact get_app rfl rfl | exact get_out (by assumption) | assumption | (simp [*]; done)) (by first | exact Nat.le_of_ble_eq_true rfl | (simp only [List.length_map, List.length_cons, List.length_nil]; omega) | omega | (simp; done) | (simp; omega)) (by first | exact set_app rfl | exact set_out (lt_of_get (by assumption)) | rfl)) rfl rfl rfl ?_
      refine O_nil [] (by kernel_rfl) (trivial) ?_
      refine K_seq ?_
      refine B_seq ?_
      refine B_seq ?_
      refine B_region ?_
      refine L_op (env' := uS3n123) rfl rfl (v_move (.inl rfl) rfl) rfl ?_
      refine L_op (env' := uS3n123) rfl rfl (rfl) rfl ?_
      refine L_op (env' := uS3n123) rfl rfl (v_const (VVal.int .i64 0) (.inl rfl) rfl) rfl ?_
      refine L_nil ?_
      refine K_seq ?_
      refine B_block ?_
      refine B_clear (false :: true :: true :: true :: false :: false :: false :: true :: true :: true :: true :: true :: true :: true :: true :: true :: true :: true :: true :: true :: true :: true :: true :: true :: true :: false :: false :: false :: true :: true :: true :: true :: true :: true :: true :: true :: true :: true :: true :: true :: true :: true :: true :: true :: true :: true :: true :: true :: true :: true :: true :: true :: true :: true :: true :: true :: true :: true :: true :: true :: true :: true :: true :: true :: true :: true :: true :: true :: true :: true :: true :: true :: true :: true :: true :: true :: true :: true :: true :: true :: true :: true :: true :: true :: true :: true :: true :: true :: true :: true :: true :: true :: true :: true :: true :: true :: true :: true :: true :: true :: true :: true :: true :: true :: true :: true :: true :: true :: true :: true :: true :: true :: true :: true :: true :: true :: true :: true :: true :: true :: true :: true :: true :: []) (env' := uS3n123) rfl ?_
      refine B_loopE (fun (k : Nat) => pairs.length - k) (fun (k : Nat) => [(27, iI (k : Nat))]) (fun (k : Nat) G => (k ≤ pairs.length ∧ ∀ p, p ∈ pairs.take k → inR m p = true) ∧ G = H ++ newL H m 0 (List.replicate m 0#64) (iniR (pairs.take k) m)) 0 rfl ?_ ?_
      · refine ⟨?_, (by rw [List.take_zero, ini_nil]; unfold newL; rw [← rep_w]; rfl)⟩
        exact ⟨Nat.zero_le _, fun p h => by simp at h⟩
      rintro k _ ⟨⟨hk, hin⟩, rfl⟩
      refine B_env (env' := uS3n123) rfl ?_
      have hl0 := @ini_len (pairs.take k) m
      refine B_seq ?_
      refine B_region ?_
      refine L_op (env' := uS3n123) rfl rfl (rfl) rfl ?_
      refine L_nil ?_
      refine K_seq ?_
      refine B_seq ?_
      refine B_cond _ rfl (fun hc3 => ?_) (fun hc3 => ?_)
      · try simp only [decide_eq_true_eq, decide_eq_false_iff_not, Bool.not_eq_true', Bool.not_eq_false', bne_iff_ne, beq_iff_eq, Bool.and_eq_true, Bool.or_eq_true, Bool.not_eq_true, ge_iff_le, gt_iff_lt, Int.not_le, Int.not_lt, beq_eq_false_iff_ne, bne_eq_false_iff_eq, ne_eq, Decidable.not_not, wd_zero, wd_one, wd_inj] at hc3
        refine B_skip ?_
        refine K_seq ?_
        refine B_seq ?_
        refine B_block ?_
        refine B_seq ?_
        refine B_region ?_
        refine L_op (env' := uS3n123) rfl rfl (by first | exact v_idxF rfl rfl rfl rfl rfl rfl rfl (by first | assumption | omega | (simp [*]; done) | (simp at *; omega)) | exact v_idx rfl rfl rfl rfl rfl rfl rfl (by first | assumption | omega | (simp [*]; done) | (simp at *; omega))) rfl ?_
        refine L_op (env' := uS3n123) rfl rfl (by first | exact v_loadFA rfl rfl rfl rfl (by exact pair_at (by omega)) | exact v_loadA rfl rfl rfl rfl (by first | exact get_app rfl rfl | exact get_out (by assumption) | assumption | (simp [*]; done)) (by exact pair_at (by omega))) rfl ?_
        refine L_op (env' := uS3n123) rfl rfl (v_alloc rfl rfl) rfl ?_
        refine L_op (env' := uS3n123) rfl rfl (v_storeT rfl rfl rfl rfl rfl rfl rfl (by first | exact get_app rfl rfl | exact get_out (by assumption) | assumption | (simp [*]; done)) (by first | exact Nat.le_of_ble_eq_true rfl | (simp only [List.length_map, List.length_cons, List.length_nil]; omega) | omega | (simp; done) | (simp; omega)) (by first | exact set_app rfl | exact set_out (lt_of_get (by assumption)) | rfl)) rfl ?_
        refine L_nil ?_
        refine K_seq ?_
        refine B_seq ?_
        refine B_seq ?_
        refine B_region ?_
        refine L_op (env' := uS3n123) rfl rfl (by first | exact v_loadF rfl rfl rfl rfl (by first | rfl | assumption | exact fget (α := BitVec 64) 0 (by omega) | exact fget (α := Int) 0 (by omega) | exact fget0 (α := BitVec 64) 0 (by omega) | exact fget0 (α := Int) 0 (by omega) | exact fget (α := Bool) false (by omega) | exact fget0 (α := Bool) false (by omega) | (simp [*]; done)) | exact v_load rfl rfl rfl rfl (by first | exact get_app rfl rfl | exact get_out (by assumption) | assumption | (simp [*]; done)) (by first | rfl | assumption | exact fget (α := BitVec 64) 0 (by omega) | exact fget (α := Int) 0 (by omega) | exact fget0 (α := BitVec 64) 0 (by omega) | exact fget0 (α := Int) 0 (by omega) | exact fget (α := Bool) false (by omega) | exact fget0 (α := Bool) false (by omega) | (simp [*]; done))) rfl ?_
        refine L_op (env' := uS3n123) rfl rfl (by first | exact v_idxFA rfl rfl rfl rfl rfl rfl (by first | assumption | omega | (simp [*]; done) | (simp at *; omega)) | exact v_idxA rfl rfl rfl rfl rfl rfl (by first | assumption | omega | (simp [*]; done) | (simp at *; omega))) rfl ?_
        refine L_op (env' := uS3n123) rfl rfl (by first | exact v_loadF rfl rfl rfl rfl (by first | rfl | assumption | exact fget (α := BitVec 64) 0 (by omega) | exact fget (α := Int) 0 (by omega) | exact fget0 (α := BitVec 64) 0 (by omega) | exact fget0 (α := Int) 0 (by omega) | exact fget (α := Bool) false (by omega) | exact fget0 (α := Bool) false (by omega) | (simp [*]; done)) | exact v_load rfl rfl rfl rfl (by first | exact get_app rfl rfl | exact get_out (by assumption) | assumption | (simp [*]; done)) (by first | rfl | assumption | exact fget (α := BitVec 64) 0 (by omega) | exact fget (α := Int) 0 (by omega) | exact fget0 (α := BitVec 64) 0 (by omega) | exact fget0 (α := Int) 0 (by omega) | exact fget (α := Bool) false (by omega) | exact fget0 (α := Bool) false (by omega) | (simp [*]; done))) rfl ?_
        refine L_call rfl rfl rfl (by exact isM_spec _ _ _ _ _ (get_app rfl rfl) _) ?_
        rintro _ _ ⟨rfl, rfl⟩
        refine L_env (env' := uS3n123) rfl ?_
        refine L_op (env' := uS3n123) rfl rfl (rfl) rfl ?_
        refine L_op (env' := uS3n123) rfl rfl (v_move (.inl rfl) rfl) rfl ?_
        refine L_split 36 (env1 := uS3n123) (env2 := uS3n123) rfl rfl rfl (fun hg4 => ?_) (fun hg4 => ?_)
        · try simp only [decide_eq_true_eq, decide_eq_false_iff_not, Bool.not_eq_true', Bool.not_eq_false', bne_iff_ne, beq_iff_eq, Bool.and_eq_true, Bool.or_eq_true, Bool.not_eq_true, ge_iff_le, gt_iff_lt, Int.not_le, Int.not_lt, beq_eq_false_iff_ne, bne_eq_false_iff_eq, ne_eq, Decidable.not_not, wd_zero, wd_one, wd_inj] at hg4
          refine L_off (env' := uS3n123) rfl rfl ?_
          refine L_off (env' := uS3n123) rfl rfl ?_
          refine L_off (env' := uS3n123) rfl rfl ?_
          refine L_off (env' := uS3n123) rfl rfl ?_
          refine L_off (env' := uS3n123) rfl rfl ?_
          refine L_op (env' := uS3n123) rfl rfl (v_pickTC (VVal.bool true) rfl rfl rfl) rfl ?_
          refine L_nil ?_
          refine K_seq ?_
          refine B_true rfl rfl ?_
          refine B_seq ?_
          refine B_region ?_
          refine L_op (env' := uS3n123) rfl rfl (v_storeC (VVal.ptr none) rfl rfl rfl rfl rfl rfl rfl (by first | exact get_app rfl rfl | exact get_out (by assumption) | assumption | (simp [*]; done)) (by first | exact Nat.le_of_ble_eq_true rfl | (simp only [List.length_map, List.length_cons, List.length_nil]; omega) | omega | (simp; done) | (simp; omega)) (by first | exact set_app rfl | exact set_out (lt_of_get (by assumption)) | rfl)) rfl ?_
          refine L_op (env' := uS3n123) rfl rfl (v_storeC (VVal.int .i64 1) rfl rfl rfl rfl rfl rfl rfl (by first | exact get_app rfl rfl | exact get_out (by assumption) | assumption | (simp [*]; done)) (by first | exact Nat.le_of_ble_eq_true rfl | (simp only [List.length_map, List.length_cons, List.length_nil]; omega) | omega | (simp; done) | (simp; omega)) (by first | exact set_app rfl | exact set_out (lt_of_get (by assumption)) | rfl)) rfl ?_
          refine L_nil ?_
          refine K_seq ?_
          refine B_ret ?_
          refine K_seqR ?_
          refine K_blkR ?_
          refine K_seqR ?_
          refine K_loopR ?_
          refine K_blkR ?_
          refine K_seqR ?_
          refine E_app (.inr rfl) (vres_cells2 rfl rfl rfl rfl rfl rfl rfl (by first | exact get_app rfl rfl | exact get_out (by assumption) | assumption | (simp [*]; done)) (by first | rfl | assumption | exact fget (α := BitVec 64) 0 (by omega) | exact fget (α := Int) 0 (by omega) | exact fget0 (α := BitVec 64) 0 (by omega) | exact fget0 (α := Int) 0 (by omega) | exact fget (α := Bool) false (by omega) | exact fget0 (α := Bool) false (by omega) | (simp [*]; done)) (by first | exact get_app rfl rfl | exact get_out (by assumption) | assumption | (simp [*]; done)) (by first | rfl | assumption | exact fget (α := BitVec 64) 0 (by omega) | exact fget (α := Int) 0 (by omega) | exact fget0 (α := BitVec 64) 0 (by omega) | exact fget0 (α := Int) 0 (by omega) | exact fget (α := Bool) false (by omega) | exact fget0 (α := Bool) false (by omega) | (simp [*]; done))) (by first | exact BaseOk.refl _ | exact BaseOk.set (BaseOk.refl _) _ rfl) (by simp [VVal.underL, VVal.under, VBlk.under, fz_under, fz_underI, fzP_under, under_mapW, under_mapI, under_flatP, under_repW]) ?_
          exact ⟨by rw [newV, if_pos (.inr (.inr (all_false (k := k) (by omega) (by simp only [inR, Bool.and_eq_false_iff, decide_eq_false_iff_not]; exact .inl (by simpa using hg4)))))], rfl⟩
        · try simp only [decide_eq_true_eq, decide_eq_false_iff_not, Bool.not_eq_true', Bool.not_eq_false', bne_iff_ne, beq_iff_eq, Bool.and_eq_true, Bool.or_eq_true, Bool.not_eq_true, ge_iff_le, gt_iff_lt, Int.not_le, Int.not_lt, beq_eq_false_iff_ne, bne_eq_false_iff_eq, ne_eq, Decidable.not_not, wd_zero, wd_one, wd_inj] at hg4
          refine L_op (env' := uS3n123) rfl rfl (by first | exact v_loadF rfl rfl rfl rfl (by first | rfl | assumption | exact fget (α := BitVec 64) 0 (by omega) | exact fget (α := Int) 0 (by omega) | exact fget0 (α := BitVec 64) 0 (by omega) | exact fget0 (α := Int) 0 (by omega) | exact fget (α := Bool) false (by omega) | exact fget0 (α := Bool) false (by omega) | (simp [*]; done)) | exact v_load rfl rfl rfl rfl (by first | exact get_app rfl rfl | exact get_out (by assumption) | assumption | (simp [*]; done)) (by first | rfl | assumption | exact fget (α := BitVec 64) 0 (by omega) | exact fget (α := Int) 0 (by omega) | exact fget0 (α := BitVec 64) 0 (by omega) | exact fget0 (α := Int) 0 (by omega) | exact fget (α := Bool) false (by omega) | exact fget0 (α := Bool) false (by omega) | (simp [*]; done))) rfl ?_
          refine L_op (env' := uS3n123) rfl rfl (by first | exact v_idxFA rfl rfl rfl rfl rfl rfl (by first | assumption | omega | (simp [*]; done) | (simp at *; omega)) | exact v_idxA rfl rfl rfl rfl rfl rfl (by first | assumption | omega | (simp [*]; done) | (simp at *; omega))) rfl ?_
          refine L_op (env' := uS3n123) rfl rfl (by first | exact v_loadF rfl rfl rfl rfl (by first | rfl | assumption | exact fget (α := BitVec 64) 0 (by omega) | exact fget (α := Int) 0 (by omega) | exact fget0 (α := BitVec 64) 0 (by omega) | exact fget0 (α := Int) 0 (by omega) | exact fget (α := Bool) false (by omega) | exact fget0 (α := Bool) false (by omega) | (simp [*]; done)) | exact v_load rfl rfl rfl rfl (by first | exact get_app rfl rfl | exact get_out (by assumption) | assumption | (simp [*]; done)) (by first | rfl | assumption | exact fget (α := BitVec 64) 0 (by omega) | exact fget (α := Int) 0 (by omega) | exact fget0 (α := BitVec 64) 0 (by omega) | exact fget0 (α := Int) 0 (by omega) | exact fget (α := Bool) false (by omega) | exact fget0 (α := Bool) false (by omega) | (simp [*]; done))) rfl ?_
          refine L_call rfl rfl rfl (by exact isM_spec _ _ _ _ _ (get_app rfl rfl) _) ?_
          rintro _ _ ⟨rfl, rfl⟩
          refine L_env (env' := uS3n123) rfl ?_
          refine L_op (env' := uS3n123) rfl rfl (rfl) rfl ?_
          refine L_op (env' := uS3n123) rfl rfl (v_pickF rfl rfl rfl) rfl ?_
          refine L_nil ?_
          refine K_seq ?_
          refine B_cond _ rfl (fun hc5 => ?_) (fun hc5 => ?_)
          · try simp only [decide_eq_true_eq, decide_eq_false_iff_not, Bool.not_eq_true', Bool.not_eq_false', bne_iff_ne, beq_iff_eq, Bool.and_eq_true, Bool.or_eq_true, Bool.not_eq_true, ge_iff_le, gt_iff_lt, Int.not_le, Int.not_lt, beq_eq_false_iff_ne, bne_eq_false_iff_eq, ne_eq, Decidable.not_not, wd_zero, wd_one, wd_inj] at hc5
            refine B_seq ?_
            refine B_region ?_
            refine L_op (env' := uS3n123) rfl rfl (v_storeC (VVal.ptr none) rfl rfl rfl rfl rfl rfl rfl (by first | exact get_app rfl rfl | exact get_out (by assumption) | assumption | (simp [*]; done)) (by first | exact Nat.le_of_ble_eq_true rfl | (simp only [List.length_map, List.length_cons, List.length_nil]; omega) | omega | (simp; done) | (simp; omega)) (by first | exact set_app rfl | exact set_out (lt_of_get (by assumption)) | rfl)) rfl ?_
            refine L_op (env' := uS3n123) rfl rfl (v_storeC (VVal.int .i64 1) rfl rfl rfl rfl rfl rfl rfl (by first | exact get_app rfl rfl | exact get_out (by assumption) | assumption | (simp [*]; done)) (by first | exact Nat.le_of_ble_eq_true rfl | (simp only [List.length_map, List.length_cons, List.length_nil]; omega) | omega | (simp; done) | (simp; omega)) (by first | exact set_app rfl | exact set_out (lt_of_get (by assumption)) | rfl)) rfl ?_
            refine L_nil ?_
            refine K_seq ?_
            refine B_ret ?_
            refine K_seqR ?_
            refine K_blkR ?_
            refine K_seqR ?_
            refine K_loopR ?_
            refine K_blkR ?_
            refine K_seqR ?_
            refine E_app (.inr rfl) (vres_cells2 rfl rfl rfl rfl rfl rfl rfl (by first | exact get_app rfl rfl | exact get_out (by assumption) | assumption | (simp [*]; done)) (by first | rfl | assumption | exact fget (α := BitVec 64) 0 (by omega) | exact fget (α := Int) 0 (by omega) | exact fget0 (α := BitVec 64) 0 (by omega) | exact fget0 (α := Int) 0 (by omega) | exact fget (α := Bool) false (by omega) | exact fget0 (α := Bool) false (by omega) | (simp [*]; done)) (by first | exact get_app rfl rfl | exact get_out (by assumption) | assumption | (simp [*]; done)) (by first | rfl | assumption | exact fget (α := BitVec 64) 0 (by omega) | exact fget (α := Int) 0 (by omega) | exact fget0 (α := BitVec 64) 0 (by omega) | exact fget0 (α := Int) 0 (by omega) | exact fget (α := Bool) false (by omega) | exact fget0 (α := Bool) false (by omega) | (simp [*]; done))) (by first | exact BaseOk.refl _ | exact BaseOk.set (BaseOk.refl _) _ rfl) (by simp [VVal.underL, VVal.under, VBlk.under, fz_under, fz_underI, fzP_under, under_mapW, under_mapI, under_flatP, under_repW]) ?_
            exact ⟨by rw [newV, if_pos (.inr (.inr (all_false (k := k) (by omega) (by simp only [inR, Bool.and_eq_false_iff, decide_eq_false_iff_not]; exact .inr (by simpa using hc5)))))], rfl⟩
          · try simp only [decide_eq_true_eq, decide_eq_false_iff_not, Bool.not_eq_true', Bool.not_eq_false', bne_iff_ne, beq_iff_eq, Bool.and_eq_true, Bool.or_eq_true, Bool.not_eq_true, ge_iff_le, gt_iff_lt, Int.not_le, Int.not_lt, beq_eq_false_iff_ne, bne_eq_false_iff_eq, ne_eq, Decidable.not_not, wd_zero, wd_one, wd_inj] at hc5
            refine B_skip ?_
            refine K_seq ?_
            refine B_draw [0, 1, 2, 3, 4, 5, 6, 7, 8, 9, 10, 11, 12, 13] #[0, 1, 3, 7, 0, 16, 63, 127, 0, 256, 768, 2047, 4095, 8191] (by kernel_rfl) (by kernel_rfl) (by kernel_rfl) ?_
            refine O_opI (env' := uS3n123) (x := .look _ _) rfl rfl rfl (by first | exact v_loadF rfl rfl rfl rfl (by first | rfl | assumption | exact fget (α := BitVec 64) 0 (by omega) | exact fget (α := Int) 0 (by omega) | exact fget0 (α := BitVec 64) 0 (by omega) | exact fget0 (α := Int) 0 (by omega) | exact fget (α := Bool) false (by omega) | exact fget0 (α := Bool) false (by omega) | (simp [*]; done)) | exact v_load rfl rfl rfl rfl (by first | exact get_app rfl rfl | exact get_out (by assumption) | assumption | (simp [*]; done)) (by first | rfl | assumption | exact fget (α := BitVec 64) 0 (by omega) | exact fget (α := Int) 0 (by omega) | exact fget0 (α := BitVec 64) 0 (by omega) | exact fget0 (α := Int) 0 (by omega) | exact fget (α := Bool) false (by omega) | exact fget0 (α := Bool) false (by omega) | (simp [*]; done))) rfl rfl rfl ?_
            refine O_op (env' := uS3n123) (c := .calm) rfl rfl rfl (rfl) rfl rfl rfl ?_
            refine O_op (env' := uS3n123) (c := .calm) rfl rfl rfl (rfl) rfl rfl rfl ?_
            refine O_opI (env' := uS3n123) (x := .look _ _) rfl rfl rfl (by first | exact v_loadF rfl rfl rfl rfl (by first | rfl | assumption | exact fget (α := BitVec 64) 0 (by omega) | exact fget (α := Int) 0 (by omega) | exact fget0 (α := BitVec 64) 0 (by omega) | exact fget0 (α := Int) 0 (by omega) | exact fget (α := Bool) false (by omega) | exact fget0 (α := Bool) false (by omega) | (simp [*]; done)) | exact v_load rfl rfl rfl rfl (by first | exact get_app rfl rfl | exact get_out (by assumption) | assumption | (simp [*]; done)) (by first | rfl | assumption | exact fget (α := BitVec 64) 0 (by omega) | exact fget (α := Int) 0 (by omega) | exact fget0 (α := BitVec 64) 0 (by omega) | exact fget0 (α := Int) 0 (by omega) | exact fget (α := Bool) false (by omega) | exact fget0 (α := Bool) false (by omega) | (simp [*]; done))) rfl rfl rfl ?_
            refine O_op (env' := uS3n123) (c := .calm) rfl rfl rfl (by first | exact v_idxFA rfl rfl rfl rfl rfl rfl (by first | assumption | omega | (simp [*]; done) | (simp at *; omega)) | exact v_idxA rfl rfl rfl rfl rfl rfl (by first | assumption | omega | (simp [*]; done) | (simp at *; omega))) rfl rfl rfl ?_
            refine O_opI (env' := uS3n123) (x := .look _ _) rfl rfl rfl (by first | exact v_loadF rfl rfl rfl rfl (by first | rfl | assumption | exact fget (α := BitVec 64) 0 (by omega) | exact fget (α := Int) 0 (by omega) | exact fget0 (α := BitVec 64) 0 (by omega) | exact fget0 (α := Int) 0 (by omega) | exact fget (α := Bool) false (by omega) | exact fget0 (α := Bool) false (by omega) | (simp [*]; done)) | exact v_load rfl rfl rfl rfl (by first | exact get_app rfl rfl | exact get_out (by assumption) | assumption | (simp [*]; done)) (by first | rfl | assumption | exact fget (α := BitVec 64) 0 (by omega) | exact fget (α := Int) 0 (by omega) | exact fget0 (α := BitVec 64) 0 (by omega) | exact fget0 (α := Int) 0 (by omega) | exact fget (α := Bool) false (by omega) | exact fget0 (α := Bool) false (by omega) | (simp [*]; done))) rfl rfl rfl ?_
            refine O_op (env' := uS3n123) (c := .calm) rfl rfl rfl (by first | exact v_idxF rfl rfl rfl rfl rfl rfl rfl (by first | assumption | omega | (simp [*]; done) | (simp at *; omega)) | exact v_idx rfl rfl rfl rfl rfl rfl rfl (by first | assumption | omega | (simp [*]; done) | (simp at *; omega))) rfl rfl rfl ?_
            refine O_opI (env' := uS3n123) (x := .look _ _) rfl rfl rfl (by first | exact v_loadF rfl rfl rfl rfl (by first | rfl | assumption | exact fget (α := BitVec 64) 0 (by omega) | exact fget (α := Int) 0 (by omega) | exact fget0 (α := BitVec 64) 0 (by omega) | exact fget0 (α := Int) 0 (by omega) | exact fget (α := Bool) false (by omega) | exact fget0 (α := Bool) false (by omega) | (simp [*]; done)) | exact v_load rfl rfl rfl rfl (by first | exact get_app rfl rfl | exact get_out (by assumption) | assumption | (simp [*]; done)) (by first | rfl | assumption | exact fget (α := BitVec 64) 0 (by omega) | exact fget (α := Int) 0 (by omega) | exact fget0 (α := BitVec 64) 0 (by omega) | exact fget0 (α := Int) 0 (by omega) | exact fget (α := Bool) false (by omega) | exact fget0 (α := Bool) false (by omega) | (simp [*]; done))) rfl rfl rfl ?_
            refine O_op (env' := uS3n123) (c := .calm) rfl rfl rfl (by first | exact v_idxFA rfl rfl rfl rfl rfl rfl (by first | assumption | omega | (simp [*]; done) | (simp at *; omega)) | exact v_idxA rfl rfl rfl rfl rfl rfl (by first | assumption | omega | (simp [*]; done) | (simp at *; omega))) rfl rfl rfl ?_
            refine O_op (env' := uS3n123) (c := .look) rfl rfl rfl (by first | exact v_loadF rfl rfl rfl rfl (by first | rfl | assumption | exact fget (α := BitVec 64) 0 (by omega) | exact fget (α := Int) 0 (by omega) | exact fget0 (α := BitVec 64) 0 (by omega) | exact fget0 (α := Int) 0 (by omega) | exact fget (α := Bool) false (by omega) | exact fget0 (α := Bool) false (by omega) | (simp [*]; done)) | exact v_load rfl rfl rfl rfl (by first | exact get_app rfl rfl | exact get_out (by assumption) | assumption | (simp [*]; done)) (by first | rfl | assumption | exact fget (α := BitVec 64) 0 (by omega) | exact fget (α := Int) 0 (by omega) | exact fget0 (α := BitVec 64) 0 (by omega) | exact fget0 (α := Int) 0 (by omega) | exact fget (α := Bool) false (by omega) | exact fget0 (α := Bool) false (by omega) | (simp [*]; done))) rfl rfl rfl ?_
            refine O_call (env' := uS3n123) rfl rfl rfl rfl rfl (by exact one_spec _ _ (by omega)) (by first | exact Nat.le_refl _ | simp) rfl rfl ?_
            refine O_op (env' := uS3n123) (c := .calm) rfl rfl rfl (v_orW rfl rfl rfl) rfl rfl rfl ?_
            refine O_op (env' := uS3n123) (c := .calm) rfl rfl rfl (by first | exact v_idxF rfl rfl rfl rfl rfl rfl rfl (by first | assumption | omega | (simp [*]; done) | (simp at *; omega)) | exact v_idx rfl rfl rfl rfl rfl rfl rfl (by first | assumption | omega | (simp [*]; done) | (simp at *; omega))) rfl rfl rfl ?_
            refine O_op (env' := uS3n123) (c := .turn) rfl rfl rfl (v_storeT rfl rfl rfl rfl rfl rfl rfl (by first | exact get_app rfl rfl | exact get_out (by assumption) | assumption | (simp [*]; done)) (by first | exact Nat.le_of_ble_eq_true rfl | (simp only [List.length_map, List.length_cons, List.length_nil]; omega) | omega | (simp; done) | (simp; omega)) (by first | exact set_app rfl | exact set_out (lt_of_get (by assumption)) | rfl)) rfl rfl rfl ?_
            refine O_nil [_, _, _, _] (by rfl) (And.intro (And.intro (by first | exact v_loadF rfl rfl rfl rfl (by first | rfl | assumption | exact fget (α := BitVec 64) 0 (by omega) | exact fget (α := Int) 0 (by omega) | exact fget0 (α := BitVec 64) 0 (by omega) | exact fget0 (α := Int) 0 (by omega) | exact fget (α := Bool) false (by omega) | exact fget0 (α := Bool) false (by omega) | (simp [*]; done)) | exact v_load rfl rfl rfl rfl (by first | exact get_app rfl rfl | exact get_out (by assumption) | assumption | (simp [*]; done)) (by first | rfl | assumption | exact fget (α := BitVec 64) 0 (by omega) | exact fget (α := Int) 0 (by omega) | exact fget0 (α := BitVec 64) 0 (by omega) | exact fget0 (α := Int) 0 (by omega) | exact fget (α := Bool) false (by omega) | exact fget0 (α := Bool) false (by omega) | (simp [*]; done))) (by first | exact v_loadF rfl rfl rfl rfl (by first | rfl | assumption | exact fget (α := BitVec 64) 0 (by omega) | exact fget (α := Int) 0 (by omega) | exact fget0 (α := BitVec 64) 0 (by omega) | exact fget0 (α := Int) 0 (by omega) | exact fget (α := Bool) false (by omega) | exact fget0 (α := Bool) false (by omega) | (simp [*]; done)) | exact v_load rfl rfl rfl rfl (by first | exact get_app rfl rfl | exact get_out (by assumption) | assumption | (simp [*]; done)) (by first | rfl | assumption | exact fget (α := BitVec 64) 0 (by omega) | exact fget (α := Int) 0 (by omega) | exact fget0 (α := BitVec 64) 0 (by omega) | exact fget0 (α := Int) 0 (by omega) | exact fget (α := Bool) false (by omega) | exact fget0 (α := Bool) false (by omega) | (simp [*]; done)))) (And.intro (And.intro (by first | exact v_loadF rfl rfl rfl rfl (by first | rfl | assumption | exact fget (α := BitVec 64) 0 (by omega) | exact fget (α := Int) 0 (by omega) | exact fget0 (α := BitVec 64) 0 (by omega) | exact fget0 (α := Int) 0 (by omega) | exact fget (α := Bool) false (by omega) | exact fget0 (α := Bool) false (by omega) | (simp [*]; done)) | exact v_load rfl rfl rfl rfl (by first | exact get_app rfl rfl | exact get_out (by assumption) | assumption | (simp [*]; done)) (by first | rfl | assumption | exact fget (α := BitVec 64) 0 (by omega) | exact fget (α := Int) 0 (by omega) | exact fget0 (α := BitVec 64) 0 (by omega) | exact fget0 (α := Int) 0 (by omega) | exact fget (α := Bool) false (by omega) | exact fget0 (α := Bool) false (by omega) | (simp [*]; done))) (by first | exact v_loadF rfl rfl rfl rfl (by first | rfl | assumption | exact fget (α := BitVec 64) 0 (by omega) | exact fget (α := Int) 0 (by omega) | exact fget0 (α := BitVec 64) 0 (by omega) | exact fget0 (α := Int) 0 (by omega) | exact fget (α := Bool) false (by omega) | exact fget0 (α := Bool) false (by omega) | (simp [*]; done)) | exact v_load rfl rfl rfl rfl (by first | exact get_app rfl rfl | exact get_out (by assumption) | assumption | (simp [*]; done)) (by first | rfl | assumption | exact fget (α := BitVec 64) 0 (by omega) | exact fget (α := Int) 0 (by omega) | exact fget0 (α := BitVec 64) 0 (by omega) | exact fget0 (α := Int) 0 (by omega) | exact fget (α := Bool) false (by omega) | exact fget0 (α := Bool) false (by omega) | (simp [*]; done)))) (And.intro (And.intro (by first | exact v_loadF rfl rfl rfl rfl (by first | rfl | assumption | exact fget (α := BitVec 64) 0 (by omega) | exact fget (α := Int) 0 (by omega) | exact fget0 (α := BitVec 64) 0 (by omega) | exact fget0 (α := Int) 0 (by omega) | exact fget (α := Bool) false (by omega) | exact fget0 (α := Bool) false (by omega) | (simp [*]; done)) | exact v_load rfl rfl rfl rfl (by first | exact get_app rfl rfl | exact get_out (by assumption) | assumption | (simp [*]; done)) (by first | rfl | assumption | exact fget (α := BitVec 64) 0 (by omega) | exact fget (α := Int) 0 (by omega) | exact fget0 (α := BitVec 64) 0 (by omega) | exact fget0 (α := Int) 0 (by omega) | exact fget (α := Bool) false (by omega) | exact fget0 (α := Bool) false (by omega) | (simp [*]; done))) (by first | exact v_loadF rfl rfl rfl rfl (by first | rfl | assumption | exact fget (α := BitVec 64) 0 (by omega) | exact fget (α := Int) 0 (by omega) | exact fget0 (α := BitVec 64) 0 (by omega) | exact fget0 (α := Int) 0 (by omega) | exact fget (α := Bool) false (by omega) | exact fget0 (α := Bool) false (by omega) | (simp [*]; done)) | exact v_load rfl rfl rfl rfl (by first | exact get_app rfl rfl | exact get_out (by assumption) | assumption | (simp [*]; done)) (by first | rfl | assumption | exact fget (α := BitVec 64) 0 (by omega) | exact fget (α := Int) 0 (by omega) | exact fget0 (α := BitVec 64) 0 (by omega) | exact fget0 (α := Int) 0 (by omega) | exact fget (α := Bool) false (by omega) | exact fget0 (α := Bool) false (by omega) | (simp [*]; done)))) (And.intro (And.intro (by first | exact v_loadF rfl rfl rfl rfl (by first | rfl | assumption | exact fget (α := BitVec 64) 0 (by omega) | exact fget (α := Int) 0 (by omega) | exact fget0 (α := BitVec 64) 0 (by omega) | exact fget0 (α := Int) 0 (by omega) | exact fget (α := Bool) false (by omega) | exact fget0 (α := Bool) false (by omega) | (simp [*]; done)) | exact v_load rfl rfl rfl rfl (by first | exact get_app rfl rfl | exact get_out (by assumption) | assumption | (simp [*]; done)) (by first | rfl | assumption | exact fget (α := BitVec 64) 0 (by omega) | exact fget (α := Int) 0 (by omega) | exact fget0 (α := BitVec 64) 0 (by omega) | exact fget0 (α := Int) 0 (by omega) | exact fget (α := Bool) false (by omega) | exact fget0 (α := Bool) false (by omega) | (simp [*]; done))) (by first | exact v_loadF rfl rfl rfl rfl (by first | rfl | assumption | exact fget (α := BitVec 64) 0 (by omega) | exact fget (α := Int) 0 (by omega) | exact fget0 (α := BitVec 64) 0 (by omega) | exact fget0 (α := Int) 0 (by omega) | exact fget (α := Bool) false (by omega) | exact fget0 (α := Bool) false (by omega) | (simp [*]; done)) | exact v_load rfl rfl rfl rfl (by first | exact get_app rfl rfl | exact get_out (by assumption) | assumption | (simp [*]; done)) (by first | rfl | assumption | exact fget (α := BitVec 64) 0 (by omega) | exact fget (α := Int) 0 (by omega) | exact fget0 (α := BitVec 64) 0 (by omega) | exact fget0 (α := Int) 0 (by omega) | exact fget (α := Bool) false (by omega) | exact fget0 (α := Bool) false (by omega) | (simp [*]; done)))) trivial)))) ?_
            refine K_blk ?_
            refine K_seq ?_
            refine B_region ?_
            refine L_op (env' := uS3n123) rfl rfl (v_addI rfl rfl rfl (by first | assumption | omega | (simp [*]; done) | (simp at *; omega))) rfl ?_
            refine L_op (env' := uS3n123) rfl rfl (v_move (.inl rfl) rfl) rfl ?_
            refine L_nil ?_
            have hR : inR m (pairs.getD (k : Int).toNat (0, 0)) = true := by
              simp only [inR, Bool.and_eq_true, decide_eq_true_eq]; omega
            rw [set_map0 iW _ _ _ (by rw [hl0]; omega), ini_step hR (by omega)]
            refine K_loopG (false :: true :: true :: true :: false :: false :: false :: true :: true :: true :: true :: true :: true :: true :: true :: true :: true :: true :: true :: true :: true :: true :: true :: true :: true :: false :: false :: false :: true :: true :: true :: true :: true :: true :: true :: true :: true :: true :: true :: true :: true :: true :: true :: true :: true :: true :: true :: true :: true :: true :: true :: true :: true :: true :: true :: true :: true :: true :: true :: true :: true :: true :: true :: true :: true :: true :: true :: true :: true :: true :: true :: true :: true :: true :: true :: true :: true :: true :: true :: true :: true :: true :: true :: true :: true :: true :: true :: true :: true :: true :: true :: true :: true :: true :: true :: true :: true :: true :: true :: true :: true :: true :: true :: true :: true :: true :: true :: true :: true :: true :: true :: true :: true :: true :: true :: true :: true :: true :: true :: true :: true :: true :: true :: []) (env' := uS3n123) rfl (Gh.dropTo (L := newL H m _ _ _) (X := [_]) 6 rfl (BaseOk.refl _) (by simp [VVal.underL, VVal.under, VBlk.under, fz_under, fz_underI, fzP_under, under_mapW, under_mapI, under_flatP, under_repW, *]) (by simp [VVal.underL, VVal.under, VBlk.under, fz_under, fz_underI, fzP_under, under_mapW, under_mapI, under_flatP, under_repW, *])) ⟨k + 1, ?_, rfl, ?_⟩
            · first | omega | (simp only []; omega)
            · exact ⟨⟨by omega, take_all hin (by omega) hR⟩, by rw [take_step (l := pairs) (k := k) (by omega)]; first | done | rfl⟩
      · try simp only [decide_eq_true_eq, decide_eq_false_iff_not, Bool.not_eq_true', Bool.not_eq_false', bne_iff_ne, beq_iff_eq, Bool.and_eq_true, Bool.or_eq_true, Bool.not_eq_true, ge_iff_le, gt_iff_lt, Int.not_le, Int.not_lt, beq_eq_false_iff_ne, bne_eq_false_iff_eq, ne_eq, Decidable.not_not, wd_zero, wd_one, wd_inj] at hc3
        refine B_exit ?_
        refine K_seqX ?_
        refine K_loopX ?_
        refine K_blkX ?_
        refine K_seq ?_
        refine B_seq ?_
        refine B_seq ?_
        refine B_region ?_
        refine L_op (env' := uS3n123) rfl rfl (v_move (.inl rfl) rfl) rfl ?_
        refine L_op (env' := uS3n123) rfl rfl (v_const (VVal.int .i64 0) (.inl rfl) rfl) rfl ?_
        refine L_nil ?_
        refine K_seq ?_
        refine B_block ?_
        refine B_clear (false :: true :: true :: true :: false :: false :: false :: true :: true :: true :: true :: true :: true :: true :: true :: true :: true :: true :: true :: true :: true :: true :: true :: true :: true :: true :: true :: true :: true :: true :: true :: true :: true :: true :: true :: true :: true :: true :: true :: true :: true :: true :: true :: true :: true :: true :: true :: true :: true :: true :: true :: true :: true :: true :: true :: true :: true :: false :: false :: true :: true :: true :: true :: true :: true :: true :: true :: true :: true :: true :: true :: true :: true :: true :: true :: true :: true :: true :: true :: true :: true :: true :: true :: true :: true :: true :: true :: true :: true :: true :: true :: true :: true :: true :: true :: true :: true :: true :: true :: true :: true :: true :: true :: true :: true :: true :: true :: true :: true :: true :: true :: true :: true :: true :: true :: true :: true :: true :: true :: true :: true :: true :: true :: []) (env' := uS3n123) rfl ?_
        have hk2 : k = pairs.length := by omega
        subst hk2
        rw [List.take_length] at hin
        refine B_loopE (fun (via : Nat) => m - via) (fun (via : Nat) => [(58, iI (via : Nat))]) (fun (via : Nat) G => (via ≤ m) ∧ G = H ++ newL H m 0 (List.replicate m 0#64) (rowsR (edg pairs) via m)) 0 rfl ?_ ?_
        · refine ⟨?_, (by rw [List.take_length]; rfl)⟩
          exact Nat.zero_le _
        rintro via _ ⟨hv, rfl⟩
        refine B_env (env' := uS3n123) rfl ?_
        refine B_seq ?_
        refine B_region ?_
        refine L_op (env' := uS3n123) rfl rfl (rfl) rfl ?_
        refine L_nil ?_
        refine K_seq ?_
        refine B_seq ?_
        refine B_cond _ rfl (fun hc6 => ?_) (fun hc6 => ?_)
        · try simp only [decide_eq_true_eq, decide_eq_false_iff_not, Bool.not_eq_true', Bool.not_eq_false', bne_iff_ne, beq_iff_eq, Bool.and_eq_true, Bool.or_eq_true, Bool.not_eq_true, ge_iff_le, gt_iff_lt, Int.not_le, Int.not_lt, beq_eq_false_iff_ne, bne_eq_false_iff_eq, ne_eq, Decidable.not_not, wd_zero, wd_one, wd_inj] at hc6
          refine B_skip ?_
          refine K_seq ?_
          refine B_seq ?_
          refine B_block ?_
          refine B_seq ?_
          refine B_region ?_
          refine L_op (env' := uS3n123) rfl rfl (v_move (.inl rfl) rfl) rfl ?_
          refine L_op (env' := uS3n123) rfl rfl (v_move (.inr rfl) rfl) rfl ?_
          refine L_nil ?_
          refine K_seq ?_
          refine B_seq ?_
          refine B_region ?_
          refine L_op (env' := uS3n123) rfl rfl (v_move (.inl rfl) rfl) rfl ?_
          refine L_op (env' := uS3n123) rfl rfl (v_const (VVal.int .i64 0) (.inl rfl) rfl) rfl ?_
          refine L_nil ?_
          refine K_seq ?_
          refine B_block ?_
          refine B_clear (false :: true :: true :: true :: false :: false :: false :: true :: true :: false :: true :: true :: true :: true :: true :: true :: true :: true :: true :: true :: true :: true :: true :: true :: true :: true :: true :: true :: true :: true :: true :: true :: true :: true :: true :: true :: true :: true :: true :: true :: true :: true :: true :: true :: true :: true :: true :: true :: true :: true :: true :: true :: true :: true :: true :: true :: true :: false :: false :: true :: true :: false :: false :: true :: true :: true :: true :: true :: true :: true :: true :: true :: true :: true :: true :: true :: true :: true :: true :: true :: true :: true :: true :: true :: true :: true :: true :: true :: true :: true :: true :: true :: true :: true :: true :: true :: true :: true :: true :: true :: true :: true :: true :: true :: true :: true :: true :: true :: true :: true :: true :: true :: true :: true :: true :: true :: true :: true :: true :: true :: true :: true :: true :: []) (env' := uS3n123) rfl ?_
          refine B_loopE (fun (a : Nat) => m - a) (fun (a : Nat) => [(62, iI (a : Nat))]) (fun (a : Nat) G => (a ≤ m) ∧ G = H ++ newL H m 0 (List.replicate m 0#64) (mixR (edg pairs) via a m)) 0 rfl ?_ ?_
          · refine ⟨?_, (by rw [mix0])⟩
            exact Nat.zero_le _
          rintro a _ ⟨ha, rfl⟩
          refine B_env (env' := uS3n123) rfl ?_
          have hl1 := @mix_len (edg pairs) via a m
          refine B_seq ?_
          refine B_region ?_
          refine L_op (env' := uS3n123) rfl rfl (rfl) rfl ?_
          refine L_nil ?_
          refine K_seq ?_
          refine B_seq ?_
          refine B_cond _ rfl (fun hc7 => ?_) (fun hc7 => ?_)
          · try simp only [decide_eq_true_eq, decide_eq_false_iff_not, Bool.not_eq_true', Bool.not_eq_false', bne_iff_ne, beq_iff_eq, Bool.and_eq_true, Bool.or_eq_true, Bool.not_eq_true, ge_iff_le, gt_iff_lt, Int.not_le, Int.not_lt, beq_eq_false_iff_ne, bne_eq_false_iff_eq, ne_eq, Decidable.not_not, wd_zero, wd_one, wd_inj] at hc7
            refine B_skip ?_
            refine K_seq ?_
            refine B_seq ?_
            refine B_block ?_
            refine B_seq ?_
            refine B_region ?_
            refine L_op (env' := uS3n123) rfl rfl (v_move (.inl rfl) rfl) rfl ?_
            refine L_op (env' := uS3n123) rfl rfl (v_move (.inr rfl) rfl) rfl ?_
            refine L_nil ?_
            refine K_seq ?_
            refine B_seq ?_
            refine B_region ?_
            refine L_op (env' := uS3n123) rfl rfl (by first | exact v_loadF rfl rfl rfl rfl (by first | rfl | assumption | exact fget (α := BitVec 64) 0 (by omega) | exact fget (α := Int) 0 (by omega) | exact fget0 (α := BitVec 64) 0 (by omega) | exact fget0 (α := Int) 0 (by omega) | exact fget (α := Bool) false (by omega) | exact fget0 (α := Bool) false (by omega) | (simp [*]; done)) | exact v_load rfl rfl rfl rfl (by first | exact get_app rfl rfl | exact get_out (by assumption) | assumption | (simp [*]; done)) (by first | rfl | assumption | exact fget (α := BitVec 64) 0 (by omega) | exact fget (α := Int) 0 (by omega) | exact fget0 (α := BitVec 64) 0 (by omega) | exact fget0 (α := Int) 0 (by omega) | exact fget (α := Bool) false (by omega) | exact fget0 (α := Bool) false (by omega) | (simp [*]; done))) rfl ?_
            refine L_op (env' := uS3n123) rfl rfl (rfl) rfl ?_
            refine L_op (env' := uS3n123) rfl rfl (rfl) rfl ?_
            refine L_op (env' := uS3n123) rfl rfl (by first | exact v_loadF rfl rfl rfl rfl (by first | rfl | assumption | exact fget (α := BitVec 64) 0 (by omega) | exact fget (α := Int) 0 (by omega) | exact fget0 (α := BitVec 64) 0 (by omega) | exact fget0 (α := Int) 0 (by omega) | exact fget (α := Bool) false (by omega) | exact fget0 (α := Bool) false (by omega) | (simp [*]; done)) | exact v_load rfl rfl rfl rfl (by first | exact get_app rfl rfl | exact get_out (by assumption) | assumption | (simp [*]; done)) (by first | rfl | assumption | exact fget (α := BitVec 64) 0 (by omega) | exact fget (α := Int) 0 (by omega) | exact fget0 (α := BitVec 64) 0 (by omega) | exact fget0 (α := Int) 0 (by omega) | exact fget (α := Bool) false (by omega) | exact fget0 (α := Bool) false (by omega) | (simp [*]; done))) rfl ?_
            refine L_op (env' := uS3n123) rfl rfl (v_move (.inl rfl) rfl) rfl ?_
            refine L_op (env' := uS3n123) rfl rfl (by first | exact v_idxF rfl rfl rfl rfl rfl rfl rfl (by first | assumption | omega | (simp [*]; done) | (simp at *; omega)) | exact v_idx rfl rfl rfl rfl rfl rfl rfl (by first | assumption | omega | (simp [*]; done) | (simp at *; omega))) rfl ?_
            refine L_op (env' := uS3n123) rfl rfl (by first | exact v_loadF rfl rfl rfl rfl (by first | rfl | assumption | exact fget (α := BitVec 64) 0 (by omega) | exact fget (α := Int) 0 (by omega) | exact fget0 (α := BitVec 64) 0 (by omega) | exact fget0 (α := Int) 0 (by omega) | exact fget (α := Bool) false (by omega) | exact fget0 (α := Bool) false (by omega) | (simp [*]; done)) | exact v_load rfl rfl rfl rfl (by first | exact get_app rfl rfl | exact get_out (by assumption) | assumption | (simp [*]; done)) (by first | rfl | assumption | exact fget (α := BitVec 64) 0 (by omega) | exact fget (α := Int) 0 (by omega) | exact fget0 (α := BitVec 64) 0 (by omega) | exact fget0 (α := Int) 0 (by omega) | exact fget (α := Bool) false (by omega) | exact fget0 (α := Bool) false (by omega) | (simp [*]; done))) rfl ?_
            refine L_call rfl rfl rfl (by exact of_spec _ _) ?_
            rintro _ _ ⟨rfl, rfl⟩
            refine L_env (env' := uS3n123) rfl ?_
            refine L_op (env' := uS3n123) rfl rfl (v_move (.inl rfl) rfl) rfl ?_
            refine L_call rfl rfl rfl (by exact Has_spec _ _ _) ?_
            rintro _ _ ⟨rfl, rfl⟩
            refine L_env (env' := uS3n123) rfl ?_
            refine L_nil ?_
            refine K_seq ?_
            refine B_cond _ rfl (fun hc8 => ?_) (fun hc8 => ?_)
            · try simp only [decide_eq_true_eq, decide_eq_false_iff_not, Bool.not_eq_true', Bool.not_eq_false', bne_iff_ne, beq_iff_eq, Bool.and_eq_true, Bool.or_eq_true, Bool.not_eq_true, ge_iff_le, gt_iff_lt, Int.not_le, Int.not_lt, beq_eq_false_iff_ne, bne_eq_false_iff_eq, ne_eq, Decidable.not_not, wd_zero, wd_one, wd_inj] at hc8
              have hE : (mixR (edg pairs) via a m).set (a : Int).toNat ((mixR (edg pairs) via a m).getD (a : Int).toNat 0 ||| (mixR (edg pairs) via a m).getD (via : Int).toNat 0) = mixR (edg pairs) via (a + 1) m := mix_yes (by omega) (by omega) (by rw [← mix_row (k := via) (a := a) (m := m) (by omega)]; exact hc8.2)
              refine B_draw [0, 1, 2, 3, 4, 5, 6, 7, 8, 9, 10, 11, 12, 13, 14, 15, 16] #[0, 1, 3, 7, 0, 31, 63, 0, 128, 384, 896, 0, 3968, 8064, 16383, 32767, 65535] (by kernel_rfl) (by kernel_rfl) (by kernel_rfl) ?_
              refine O_op (env' := uS3n123) (c := .look) rfl rfl rfl (by first | exact v_loadF rfl rfl rfl rfl (by first | rfl | assumption | exact fget (α := BitVec 64) 0 (by omega) | exact fget (α := Int) 0 (by omega) | exact fget0 (α := BitVec 64) 0 (by omega) | exact fget0 (α := Int) 0 (by omega) | exact fget (α := Bool) false (by omega) | exact fget0 (α := Bool) false (by omega) | (simp [*]; done)) | exact v_load rfl rfl rfl rfl (by first | exact get_app rfl rfl | exact get_out (by assumption) | assumption | (simp [*]; done)) (by first | rfl | assumption | exact fget (α := BitVec 64) 0 (by omega) | exact fget (α := Int) 0 (by omega) | exact fget0 (α := BitVec 64) 0 (by omega) | exact fget0 (α := Int) 0 (by omega) | exact fget (α := Bool) false (by omega) | exact fget0 (α := Bool) false (by omega) | (simp [*]; done))) rfl rfl rfl ?_
              refine O_op (env' := uS3n123) (c := .calm) rfl rfl rfl (rfl) rfl rfl rfl ?_
              refine O_op (env' := uS3n123) (c := .calm) rfl rfl rfl (rfl) rfl rfl rfl ?_
              refine O_op (env' := uS3n123) (c := .look) rfl rfl rfl (by first | exact v_loadF rfl rfl rfl rfl (by first | rfl | assumption | exact fget (α := BitVec 64) 0 (by omega) | exact fget (α := Int) 0 (by omega) | exact fget0 (α := BitVec 64) 0 (by omega) | exact fget0 (α := Int) 0 (by omega) | exact fget (α := Bool) false (by omega) | exact fget0 (α := Bool) false (by omega) | (simp [*]; done)) | exact v_load rfl rfl rfl rfl (by first | exact get_app rfl rfl | exact get_out (by assumption) | assumption | (simp [*]; done)) (by first | rfl | assumption | exact fget (α := BitVec 64) 0 (by omega) | exact fget (α := Int) 0 (by omega) | exact fget0 (α := BitVec 64) 0 (by omega) | exact fget0 (α := Int) 0 (by omega) | exact fget (α := Bool) false (by omega) | exact fget0 (α := Bool) false (by omega) | (simp [*]; done))) rfl rfl rfl ?_
              refine O_op (env' := uS3n123) (c := .calm) rfl rfl rfl (v_move (.inl rfl) rfl) rfl rfl rfl ?_
              refine O_op (env' := uS3n123) (c := .calm) rfl rfl rfl (by first | exact v_idxF rfl rfl rfl rfl rfl rfl rfl (by first | assumption | omega | (simp [*]; done) | (simp at *; omega)) | exact v_idx rfl rfl rfl rfl rfl rfl rfl (by first | assumption | omega | (simp [*]; done) | (simp at *; omega))) rfl rfl rfl ?_
              refine O_op (env' := uS3n123) (c := .look) rfl rfl rfl (by first | exact v_loadF rfl rfl rfl rfl (by first | rfl | assumption | exact fget (α := BitVec 64) 0 (by omega) | exact fget (α := Int) 0 (by omega) | exact fget0 (α := BitVec 64) 0 (by omega) | exact fget0 (α := Int) 0 (by omega) | exact fget (α := Bool) false (by omega) | exact fget0 (α := Bool) false (by omega) | (simp [*]; done)) | exact v_load rfl rfl rfl rfl (by first | exact get_app rfl rfl | exact get_out (by assumption) | assumption | (simp [*]; done)) (by first | rfl | assumption | exact fget (α := BitVec 64) 0 (by omega) | exact fget (α := Int) 0 (by omega) | exact fget0 (α := BitVec 64) 0 (by omega) | exact fget0 (α := Int) 0 (by omega) | exact fget (α := Bool) false (by omega) | exact fget0 (α := Bool) false (by omega) | (simp [*]; done))) rfl rfl rfl ?_
              refine O_op (env' := uS3n123) (c := .look) rfl rfl rfl (by first | exact v_loadF rfl rfl rfl rfl (by first | rfl | assumption | exact fget (α := BitVec 64) 0 (by omega) | exact fget (α := Int) 0 (by omega) | exact fget0 (α := BitVec 64) 0 (by omega) | exact fget0 (α := Int) 0 (by omega) | exact fget (α := Bool) false (by omega) | exact fget0 (α := Bool) false (by omega) | (simp [*]; done)) | exact v_load rfl rfl rfl rfl (by first | exact get_app rfl rfl | exact get_out (by assumption) | assumption | (simp [*]; done)) (by first | rfl | assumption | exact fget (α := BitVec 64) 0 (by omega) | exact fget (α := Int) 0 (by omega) | exact fget0 (α := BitVec 64) 0 (by omega) | exact fget0 (α := Int) 0 (by omega) | exact fget (α := Bool) false (by omega) | exact fget0 (α := Bool) false (by omega) | (simp [*]; done))) rfl rfl rfl ?_
              refine O_op (env' := uS3n123) (c := .calm) rfl rfl rfl (rfl) rfl rfl rfl ?_
              refine O_op (env' := uS3n123) (c := .calm) rfl rfl rfl (rfl) rfl rfl rfl ?_
              refine O_op (env' := uS3n123) (c := .look) rfl rfl rfl (by first | exact v_loadF rfl rfl rfl rfl (by first | rfl | assumption | exact fget (α := BitVec 64) 0 (by omega) | exact fget (α := Int) 0 (by omega) | exact fget0 (α := BitVec 64) 0 (by omega) | exact fget0 (α := Int) 0 (by omega) | exact fget (α := Bool) false (by omega) | exact fget0 (α := Bool) false (by omega) | (simp [*]; done)) | exact v_load rfl rfl rfl rfl (by first | exact get_app rfl rfl | exact get_out (by assumption) | assumption | (simp [*]; done)) (by first | rfl | assumption | exact fget (α := BitVec 64) 0 (by omega) | exact fget (α := Int) 0 (by omega) | exact fget0 (α := BitVec 64) 0 (by omega) | exact fget0 (α := Int) 0 (by omega) | exact fget (α := Bool) false (by omega) | exact fget0 (α := Bool) false (by omega) | (simp [*]; done))) rfl rfl rfl ?_
              refine O_op (env' := uS3n123) (c := .calm) rfl rfl rfl (v_move (.inl rfl) rfl) rfl rfl rfl ?_
              refine O_op (env' := uS3n123) (c := .calm) rfl rfl rfl (by first | exact v_idxF rfl rfl rfl rfl rfl rfl rfl (by first | assumption | omega | (simp [*]; done) | (simp at *; omega)) | exact v_idx rfl rfl rfl rfl rfl rfl rfl (by first | assumption | omega | (simp [*]; done) | (simp at *; omega))) rfl rfl rfl ?_
              refine O_op (env' := uS3n123) (c := .look) rfl rfl rfl (by first | exact v_loadF rfl rfl rfl rfl (by first | rfl | assumption | exact fget (α := BitVec 64) 0 (by omega) | exact fget (α := Int) 0 (by omega) | exact fget0 (α := BitVec 64) 0 (by omega) | exact fget0 (α := Int) 0 (by omega) | exact fget (α := Bool) false (by omega) | exact fget0 (α := Bool) false (by omega) | (simp [*]; done)) | exact v_load rfl rfl rfl rfl (by first | exact get_app rfl rfl | exact get_out (by assumption) | assumption | (simp [*]; done)) (by first | rfl | assumption | exact fget (α := BitVec 64) 0 (by omega) | exact fget (α := Int) 0 (by omega) | exact fget0 (α := BitVec 64) 0 (by omega) | exact fget0 (α := Int) 0 (by omega) | exact fget (α := Bool) false (by omega) | exact fget0 (α := Bool) false (by omega) | (simp [*]; done))) rfl rfl rfl ?_
              refine O_op (env' := uS3n123) (c := .calm) rfl rfl rfl (v_orW rfl rfl rfl) rfl rfl rfl ?_
              refine O_op (env' := uS3n123) (c := .calm) rfl rfl rfl (by first | exact v_idxF rfl rfl rfl rfl rfl rfl rfl (by first | assumption | omega | (simp [*]; done) | (simp at *; omega)) | exact v_idx rfl rfl rfl rfl rfl rfl rfl (by first | assumption | omega | (simp [*]; done) | (simp at *; omega))) rfl rfl rfl ?_
              refine O_op (env' := uS3n123) (c := .turn) rfl rfl rfl (v_storeT rfl rfl rfl rfl rfl rfl rfl (by first | exact get_app rfl rfl | exact get_out (by assumption) | assumption | (simp [*]; done)) (by first | exact Nat.le_of_ble_eq_true rfl | (simp only [List.length_map, List.length_cons, List.length_nil]; omega) | omega | (simp; done) | (simp; omega)) (by first | exact set_app rfl | exact set_out (lt_of_get (by assumption)) | rfl)) rfl rfl rfl ?_
              refine O_nil [] (by kernel_rfl) (trivial) ?_
              refine K_blk ?_
              refine K_seq ?_
              refine B_region ?_
              refine L_op (env' := uS3n123) rfl rfl (v_addI rfl rfl rfl (by first | assumption | omega | (simp [*]; done) | (simp at *; omega))) rfl ?_
              refine L_op (env' := uS3n123) rfl rfl (v_move (.inl rfl) rfl) rfl ?_
              refine L_nil ?_
              first
                | rw [set_map0 iW _ _ _ (by rw [hl1]; omega), hE]
                | rw [hE]
              refine K_loop (false :: true :: true :: true :: false :: false :: false :: true :: true :: false :: true :: true :: true :: true :: true :: true :: true :: true :: true :: true :: true :: true :: true :: true :: true :: true :: true :: true :: true :: true :: true :: true :: true :: true :: true :: true :: true :: true :: true :: true :: true :: true :: true :: true :: true :: true :: true :: true :: true :: true :: true :: true :: true :: true :: true :: true :: true :: false :: false :: true :: true :: false :: false :: true :: true :: true :: true :: true :: true :: true :: true :: true :: true :: true :: true :: true :: true :: true :: true :: true :: true :: true :: true :: true :: true :: true :: true :: true :: true :: true :: true :: true :: true :: true :: true :: true :: true :: true :: true :: true :: true :: true :: true :: true :: true :: true :: true :: true :: true :: true :: true :: true :: true :: true :: true :: true :: true :: true :: true :: true :: true :: true :: true :: []) (env' := uS3n123) rfl ⟨a + 1, ?_, rfl, ?_⟩
              · first | omega | (simp only []; omega)
              · exact ⟨by omega, rfl⟩
            · try simp only [decide_eq_true_eq, decide_eq_false_iff_not, Bool.not_eq_true', Bool.not_eq_false', bne_iff_ne, beq_iff_eq, Bool.and_eq_true, Bool.or_eq_true, Bool.not_eq_true, ge_iff_le, gt_iff_lt, Int.not_le, Int.not_lt, beq_eq_false_iff_ne, bne_eq_false_iff_eq, ne_eq, Decidable.not_not, wd_zero, wd_one, wd_inj] at hc8
              have hE : mixR (edg pairs) via a m = mixR (edg pairs) via (a + 1) m := mix_no (by omega) (by omega) (by rw [← mix_row (k := via) (a := a) (m := m) (by omega)]; simpa [show (0 : Int) ≤ via ∧ (via : Int) < 64 from by omega] using hc8)
              refine B_skip ?_
              refine K_blk ?_
              refine K_seq ?_
              refine B_region ?_
              refine L_op (env' := uS3n123) rfl rfl (v_addI rfl rfl rfl (by first | assumption | omega | (simp [*]; done) | (simp at *; omega))) rfl ?_
              refine L_op (env' := uS3n123) rfl rfl (v_move (.inl rfl) rfl) rfl ?_
              refine L_nil ?_
              first
                | rw [set_map0 iW _ _ _ (by rw [hl1]; omega), hE]
                | rw [hE]
              refine K_loop (false :: true :: true :: true :: false :: false :: false :: true :: true :: false :: true :: true :: true :: true :: true :: true :: true :: true :: true :: true :: true :: true :: true :: true :: true :: true :: true :: true :: true :: true :: true :: true :: true :: true :: true :: true :: true :: true :: true :: true :: true :: true :: true :: true :: true :: true :: true :: true :: true :: true :: true :: true :: true :: true :: true :: true :: true :: false :: false :: true :: true :: false :: false :: true :: true :: true :: true :: true :: true :: true :: true :: true :: true :: true :: true :: true :: true :: true :: true :: true :: true :: true :: true :: true :: true :: true :: true :: true :: true :: true :: true :: true :: true :: true :: true :: true :: true :: true :: true :: true :: true :: true :: true :: true :: true :: true :: true :: true :: true :: true :: true :: true :: true :: true :: true :: true :: true :: true :: true :: true :: true :: true :: true :: []) (env' := uS3n123) rfl ⟨a + 1, ?_, rfl, ?_⟩
              · first | omega | (simp only []; omega)
              · exact ⟨by omega, rfl⟩
          · try simp only [decide_eq_true_eq, decide_eq_false_iff_not, Bool.not_eq_true', Bool.not_eq_false', bne_iff_ne, beq_iff_eq, Bool.and_eq_true, Bool.or_eq_true, Bool.not_eq_true, ge_iff_le, gt_iff_lt, Int.not_le, Int.not_lt, beq_eq_false_iff_ne, bne_eq_false_iff_eq, ne_eq, Decidable.not_not, wd_zero, wd_one, wd_inj] at hc7
            refine B_exit ?_
            refine K_seqX ?_
            refine K_loopX ?_
            refine K_blkX ?_
            refine K_blk ?_
            refine K_seq ?_
            refine B_region ?_
            refine L_op (env' := uS3n123) rfl rfl (v_addI rfl rfl rfl (by first | assumption | omega | (simp [*]; done) | (simp at *; omega))) rfl ?_
            refine L_op (env' := uS3n123) rfl rfl (v_move (.inl rfl) rfl) rfl ?_
            refine L_nil ?_
            refine K_loop (false :: true :: true :: true :: false :: false :: false :: true :: true :: true :: true :: true :: true :: true :: true :: true :: true :: true :: true :: true :: true :: true :: true :: true :: true :: true :: true :: true :: true :: true :: true :: true :: true :: true :: true :: true :: true :: true :: true :: true :: true :: true :: true :: true :: true :: true :: true :: true :: true :: true :: true :: true :: true :: true :: true :: true :: true :: false :: false :: true :: true :: true :: true :: true :: true :: true :: true :: true :: true :: true :: true :: true :: true :: true :: true :: true :: true :: true :: true :: true :: true :: true :: true :: true :: true :: true :: true :: true :: true :: true :: true :: true :: true :: true :: true :: true :: true :: true :: true :: true :: true :: true :: true :: true :: true :: true :: true :: true :: true :: true :: true :: true :: true :: true :: true :: true :: true :: true :: true :: true :: true :: true :: true :: []) (env' := uS3n123) rfl ⟨via + 1, ?_, rfl, ?_⟩
            · first | omega | (simp only []; omega)
            · exact ⟨by omega, by rw [show a = m from by omega, mixEnd]⟩
        · try simp only [decide_eq_true_eq, decide_eq_false_iff_not, Bool.not_eq_true', Bool.not_eq_false', bne_iff_ne, beq_iff_eq, Bool.and_eq_true, Bool.or_eq_true, Bool.not_eq_true, ge_iff_le, gt_iff_lt, Int.not_le, Int.not_lt, beq_eq_false_iff_ne, bne_eq_false_iff_eq, ne_eq, Decidable.not_not, wd_zero, wd_one, wd_inj] at hc6
          refine B_exit ?_
          refine K_seqX ?_
          refine K_loopX ?_
          refine K_blkX ?_
          refine K_seq ?_
          refine B_seq ?_
          refine B_seq ?_
          refine B_region ?_
          refine L_op (env' := uS3n123) rfl rfl (v_move (.inl rfl) rfl) rfl ?_
          refine L_op (env' := uS3n123) rfl rfl (v_const (VVal.int .i64 0) (.inl rfl) rfl) rfl ?_
          refine L_nil ?_
          refine K_seq ?_
          refine B_block ?_
          refine B_clear (true :: true :: true :: true :: false :: false :: false :: true :: true :: true :: true :: true :: true :: true :: true :: true :: true :: true :: true :: true :: true :: true :: true :: true :: true :: true :: true :: true :: true :: true :: true :: true :: true :: true :: true :: true :: true :: true :: true :: true :: true :: true :: true :: true :: true :: true :: true :: true :: true :: true :: true :: true :: true :: true :: true :: true :: true :: true :: true :: true :: true :: true :: true :: true :: true :: true :: true :: true :: true :: true :: true :: true :: true :: true :: true :: true :: true :: true :: true :: true :: true :: true :: true :: true :: true :: true :: true :: true :: true :: true :: true :: true :: true :: false :: false :: true :: true :: true :: true :: true :: true :: true :: true :: true :: true :: true :: true :: true :: true :: true :: true :: true :: true :: true :: true :: true :: true :: true :: true :: true :: true :: true :: true :: []) (env' := uS3n123) rfl ?_
          have hrc : ∀ a b, rch pairs m a b = true → b < m := fun a b h => (rch_range hin h).2
          have hl2 := @sucL_len pairs m
          refine B_loopE (fun (a : Nat) => m - a) (fun (a : Nat) => [(94, iI (a : Nat))]) (fun (a : Nat) G => (a ≤ m ∧ ∀ i, i < a → rch pairs m i i = false) ∧ G = H ++ newL H m 0 (preM (rch pairs m) a [] m) (sucL pairs m)) 0 rfl ?_ ?_
          · refine ⟨?_, (by rw [preM_0, show via = m from by omega]; rfl)⟩
            exact ⟨Nat.zero_le _, fun i h => by omega⟩
          rintro a _ ⟨⟨ha, hac⟩, rfl⟩
          refine B_env (env' := uS3n123) rfl ?_
          refine B_seq ?_
          refine B_region ?_
          refine L_op (env' := uS3n123) rfl rfl (rfl) rfl ?_
          refine L_nil ?_
          refine K_seq ?_
          refine B_seq ?_
          refine B_cond _ rfl (fun hc9 => ?_) (fun hc9 => ?_)
          · try simp only [decide_eq_true_eq, decide_eq_false_iff_not, Bool.not_eq_true', Bool.not_eq_false', bne_iff_ne, beq_iff_eq, Bool.and_eq_true, Bool.or_eq_true, Bool.not_eq_true, ge_iff_le, gt_iff_lt, Int.not_le, Int.not_lt, beq_eq_false_iff_ne, bne_eq_false_iff_eq, ne_eq, Decidable.not_not, wd_zero, wd_one, wd_inj] at hc9
            refine B_skip ?_
            refine K_seq ?_
            refine B_seq ?_
            refine B_block ?_
            refine B_seq ?_
            refine B_region ?_
            refine L_op (env' := uS3n123) rfl rfl (v_move (.inl rfl) rfl) rfl ?_
            refine L_op (env' := uS3n123) rfl rfl (v_alloc rfl rfl) rfl ?_
            refine L_op (env' := uS3n123) rfl rfl (v_storeT rfl rfl rfl rfl rfl rfl rfl (by first | exact get_app rfl rfl | exact get_out (by assumption) | assumption | (simp [*]; done)) (by first | exact Nat.le_of_ble_eq_true rfl | (simp only [List.length_map, List.length_cons, List.length_nil]; omega) | omega | (simp; done) | (simp; omega)) (by first | exact set_app rfl | exact set_out (lt_of_get (by assumption)) | rfl)) rfl ?_
            refine L_nil ?_
            refine K_seq ?_
            refine B_seq ?_
            refine B_draw [0, 1, 2, 3, 4, 5, 6, 7, 8] #[0, 1, 3, 7, 0, 31, 63, 127, 255] (by kernel_rfl) (by kernel_rfl) (by kernel_rfl) ?_
            refine O_op (env' := uS3n123) (c := .look) rfl rfl rfl (by first | exact v_loadF rfl rfl rfl rfl (by first | rfl | assumption | exact fget (α := BitVec 64) 0 (by omega) | exact fget (α := Int) 0 (by omega) | exact fget0 (α := BitVec 64) 0 (by omega) | exact fget0 (α := Int) 0 (by omega) | exact fget (α := Bool) false (by omega) | exact fget0 (α := Bool) false (by omega) | (simp [*]; done)) | exact v_load rfl rfl rfl rfl (by first | exact get_app rfl rfl | exact get_out (by assumption) | assumption | (simp [*]; done)) (by first | rfl | assumption | exact fget (α := BitVec 64) 0 (by omega) | exact fget (α := Int) 0 (by omega) | exact fget0 (α := BitVec 64) 0 (by omega) | exact fget0 (α := Int) 0 (by omega) | exact fget (α := Bool) false (by omega) | exact fget0 (α := Bool) false (by omega) | (simp [*]; done))) rfl rfl rfl ?_
            refine O_op (env' := uS3n123) (c := .calm) rfl rfl rfl (rfl) rfl rfl rfl ?_
            refine O_op (env' := uS3n123) (c := .calm) rfl rfl rfl (rfl) rfl rfl rfl ?_
            refine O_op (env' := uS3n123) (c := .look) rfl rfl rfl (by first | exact v_loadF rfl rfl rfl rfl (by first | rfl | assumption | exact fget (α := BitVec 64) 0 (by omega) | exact fget (α := Int) 0 (by omega) | exact fget0 (α := BitVec 64) 0 (by omega) | exact fget0 (α := Int) 0 (by omega) | exact fget (α := Bool) false (by omega) | exact fget0 (α := Bool) false (by omega) | (simp [*]; done)) | exact v_load rfl rfl rfl rfl (by first | exact get_app rfl rfl | exact get_out (by assumption) | assumption | (simp [*]; done)) (by first | rfl | assumption | exact fget (α := BitVec 64) 0 (by omega) | exact fget (α := Int) 0 (by omega) | exact fget0 (α := BitVec 64) 0 (by omega) | exact fget0 (α := Int) 0 (by omega) | exact fget (α := Bool) false (by omega) | exact fget0 (α := Bool) false (by omega) | (simp [*]; done))) rfl rfl rfl ?_
            refine O_op (env' := uS3n123) (c := .look) rfl rfl rfl (by first | exact v_loadF rfl rfl rfl rfl (by first | rfl | assumption | exact fget (α := BitVec 64) 0 (by omega) | exact fget (α := Int) 0 (by omega) | exact fget0 (α := BitVec 64) 0 (by omega) | exact fget0 (α := Int) 0 (by omega) | exact fget (α := Bool) false (by omega) | exact fget0 (α := Bool) false (by omega) | (simp [*]; done)) | exact v_load rfl rfl rfl rfl (by first | exact get_app rfl rfl | exact get_out (by assumption) | assumption | (simp [*]; done)) (by first | rfl | assumption | exact fget (α := BitVec 64) 0 (by omega) | exact fget (α := Int) 0 (by omega) | exact fget0 (α := BitVec 64) 0 (by omega) | exact fget0 (α := Int) 0 (by omega) | exact fget (α := Bool) false (by omega) | exact fget0 (α := Bool) false (by omega) | (simp [*]; done))) rfl rfl rfl ?_
            refine O_op (env' := uS3n123) (c := .calm) rfl rfl rfl (by first | exact v_idxF rfl rfl rfl rfl rfl rfl rfl (by first | assumption | omega | (simp [*]; done) | (simp at *; omega)) | exact v_idx rfl rfl rfl rfl rfl rfl rfl (by first | assumption | omega | (simp [*]; done) | (simp at *; omega))) rfl rfl rfl ?_
            refine O_op (env' := uS3n123) (c := .look) rfl rfl rfl (by first | exact v_loadF rfl rfl rfl rfl (by first | rfl | assumption | exact fget (α := BitVec 64) 0 (by omega) | exact fget (α := Int) 0 (by omega) | exact fget0 (α := BitVec 64) 0 (by omega) | exact fget0 (α := Int) 0 (by omega) | exact fget (α := Bool) false (by omega) | exact fget0 (α := Bool) false (by omega) | (simp [*]; done)) | exact v_load rfl rfl rfl rfl (by first | exact get_app rfl rfl | exact get_out (by assumption) | assumption | (simp [*]; done)) (by first | rfl | assumption | exact fget (α := BitVec 64) 0 (by omega) | exact fget (α := Int) 0 (by omega) | exact fget0 (α := BitVec 64) 0 (by omega) | exact fget0 (α := Int) 0 (by omega) | exact fget (α := Bool) false (by omega) | exact fget0 (α := Bool) false (by omega) | (simp [*]; done))) rfl rfl rfl ?_
            refine O_call (env' := uS3n123) rfl rfl rfl rfl rfl (by exact of_spec _ _) (by first | exact Nat.le_refl _ | simp) rfl rfl ?_
            refine O_call (env' := uS3n123) rfl rfl rfl rfl rfl (by exact All_spec _ _) (by first | exact Nat.le_refl _ | simp) rfl rfl ?_
            refine O_nil [] (by kernel_rfl) (trivial) ?_
            refine K_seq ?_
            refine B_block ?_
            refine B_clear (true :: true :: true :: true :: false :: false :: false :: true :: true :: true :: true :: false :: true :: true :: true :: true :: true :: true :: true :: true :: true :: true :: true :: true :: true :: true :: true :: true :: true :: true :: true :: true :: true :: true :: true :: true :: true :: true :: true :: true :: true :: true :: true :: true :: true :: true :: true :: true :: true :: true :: true :: true :: true :: true :: true :: true :: true :: true :: true :: true :: true :: true :: true :: true :: true :: true :: true :: true :: true :: true :: true :: true :: true :: true :: true :: true :: true :: true :: true :: true :: true :: true :: true :: true :: true :: true :: true :: true :: true :: true :: true :: true :: true :: false :: false :: true :: true :: true :: true :: true :: true :: true :: true :: true :: true :: false :: true :: true :: true :: true :: true :: true :: true :: true :: true :: true :: true :: true :: true :: true :: true :: true :: true :: []) (env' := uS3n123) rfl ?_
            have hw : (sucL pairs m).getD (a : Int).toNat 0 = wd (rch pairs m a) := sucL_get (by omega)
            rw [hw]
            refine B_rangeM cI (pl (wd (rch pairs m a)) 0) (fun l0 h => by cases h) rfl (fun l G R h => All1_spec _ _ _ _ h) (σ := List Nat × Int) (fun k s => H ++ (newL H m s.2 (preM (rch pairs m) a s.1 m) (sucL pairs m) ++ [.cells [iI (a : Nat)] true, k])) ([], 0) (fun k => by rw [List.append_assoc]; rfl) (fun k s => by rw [List.length_append]; exact get_app rfl rfl) (fun k k1 s => by rw [List.length_append]; exact set_app rfl) (fun pre s => s = (pre, 0) ∧ ∀ b, b ∈ pre → b ≠ a) ?_ (fun j pre c s => (j = Code.ret ∧ (s.2 = 6 ∧ rch pairs m a a = true))) rfl ?_ ?_ ?_
            · exact ⟨rfl, fun b h => by cases h⟩
            · intro pre c post s hx hI kr kb hkr hkb
              try dsimp only at hI ⊢
              obtain ⟨rfl, hne⟩ := hI
              have hc : c ∈ pl (wd (rch pairs m a)) 0 := by rw [hx]; simp
              rw [mem_pl, wd_bit] at hc
              obtain ⟨_, hc64, hcb⟩ := hc
              have hcb : rch pairs m a c = true := by simpa [hc64] using hcb
              have hcm : c < m := hrc a c hcb
              have hl3 := @preM_len (rch pairs m) a m pre
              refine B_env (env' := uS3n123) rfl ?_
              refine B_region ?_
              refine L_op (env' := uS3n123) rfl rfl (v_move (.inr rfl) rfl) rfl ?_
              refine L_nil ?_
              refine ⟨rfl, (pre, 0), rfl, ?_⟩
              try dsimp only
              refine B_block ?_
              refine B_seq ?_
              refine B_seq ?_
              refine B_region ?_
              refine L_op (env' := uS3n123) rfl rfl (by first | exact v_loadF rfl rfl rfl rfl (by first | rfl | assumption | exact fget (α := BitVec 64) 0 (by omega) | exact fget (α := Int) 0 (by omega) | exact fget0 (α := BitVec 64) 0 (by omega) | exact fget0 (α := Int) 0 (by omega) | exact fget (α := Bool) false (by omega) | exact fget0 (α := Bool) false (by omega) | (simp [*]; done)) | exact v_load rfl rfl rfl rfl (by first | exact get_app rfl rfl | exact get_out (by assumption) | assumption | (simp [*]; done)) (by first | rfl | assumption | exact fget (α := BitVec 64) 0 (by omega) | exact fget (α := Int) 0 (by omega) | exact fget0 (α := BitVec 64) 0 (by omega) | exact fget0 (α := Int) 0 (by omega) | exact fget (α := Bool) false (by omega) | exact fget0 (α := Bool) false (by omega) | (simp [*]; done))) rfl ?_
              refine L_op (env' := uS3n123) rfl rfl (v_move (.inl rfl) rfl) rfl ?_
              refine L_op (env' := uS3n123) rfl rfl (rfl) rfl ?_
              refine L_nil ?_
              refine K_seq ?_
              refine B_cond _ rfl (fun hc10 => ?_) (fun hc10 => ?_)
              · try simp only [decide_eq_true_eq, decide_eq_false_iff_not, Bool.not_eq_true', Bool.not_eq_false', bne_iff_ne, beq_iff_eq, Bool.and_eq_true, Bool.or_eq_true, Bool.not_eq_true, ge_iff_le, gt_iff_lt, Int.not_le, Int.not_lt, beq_eq_false_iff_ne, bne_eq_false_iff_eq, ne_eq, Decidable.not_not, wd_zero, wd_one, wd_inj] at hc10
                refine B_seq ?_
                refine B_region ?_
                refine L_op (env' := uS3n123) rfl rfl (v_storeC (VVal.ptr none) rfl rfl rfl rfl rfl rfl rfl (by first | exact get_app rfl rfl | exact get_out (by assumption) | assumption | (simp [*]; done)) (by first | exact Nat.le_of_ble_eq_true rfl | (simp only [List.length_map, List.length_cons, List.length_nil]; omega) | omega | (simp; done) | (simp; omega)) (by first | exact set_app rfl | exact set_out (lt_of_get (by assumption)) | rfl)) rfl ?_
                refine L_op (env' := uS3n123) rfl rfl (v_storeC (VVal.int .i64 6) rfl rfl rfl rfl rfl rfl rfl (by first | exact get_app rfl rfl | exact get_out (by assumption) | assumption | (simp [*]; done)) (by first | exact Nat.le_of_ble_eq_true rfl | (simp only [List.length_map, List.length_cons, List.length_nil]; omega) | omega | (simp; done) | (simp; omega)) (by first | exact set_app rfl | exact set_out (lt_of_get (by assumption)) | rfl)) rfl ?_
                refine L_nil ?_
                refine K_seq ?_
                refine B_ret ?_
                refine K_seqR ?_
                refine K_blkR ?_
                refine ⟨(pre, 6), rfl, .inr ⟨Code.ret, rfl, ⟨rfl, ?_⟩⟩⟩
                refine ⟨rfl, ?_⟩
                have e : a = c := by omega
                subst e; exact hcb
              · try simp only [decide_eq_true_eq, decide_eq_false_iff_not, Bool.not_eq_true', Bool.not_eq_false', bne_iff_ne, beq_iff_eq, Bool.and_eq_true, Bool.or_eq_true, Bool.not_eq_true, ge_iff_le, gt_iff_lt, Int.not_le, Int.not_lt, beq_eq_false_iff_ne, bne_eq_false_iff_eq, ne_eq, Decidable.not_not, wd_zero, wd_one, wd_inj] at hc10
                refine B_skip ?_
                refine K_seq ?_
                refine B_draw [0, 1, 2, 3, 4, 5, 6, 7, 8, 9, 10, 11] #[0, 1, 3, 7, 0, 31, 63, 0, 128, 511, 1023, 2047] (by kernel_rfl) (by kernel_rfl) (by kernel_rfl) ?_
                refine O_opI (env' := uS3n123) (x := .look _ _) rfl rfl rfl (by first | exact v_loadF rfl rfl rfl rfl (by first | rfl | assumption | exact fget (α := BitVec 64) 0 (by omega) | exact fget (α := Int) 0 (by omega) | exact fget0 (α := BitVec 64) 0 (by omega) | exact fget0 (α := Int) 0 (by omega) | exact fget (α := Bool) false (by omega) | exact fget0 (α := Bool) false (by omega) | (simp [*]; done)) | exact v_load rfl rfl rfl rfl (by first | exact get_app rfl rfl | exact get_out (by assumption) | assumption | (simp [*]; done)) (by first | rfl | assumption | exact fget (α := BitVec 64) 0 (by omega) | exact fget (α := Int) 0 (by omega) | exact fget0 (α := BitVec 64) 0 (by omega) | exact fget0 (α := Int) 0 (by omega) | exact fget (α := Bool) false (by omega) | exact fget0 (α := Bool) false (by omega) | (simp [*]; done))) rfl rfl rfl ?_
                refine O_op (env' := uS3n123) (c := .calm) rfl rfl rfl (rfl) rfl rfl rfl ?_
                refine O_op (env' := uS3n123) (c := .calm) rfl rfl rfl (rfl) rfl rfl rfl ?_
                refine O_opI (env' := uS3n123) (x := .look _ _) rfl rfl rfl (by first | exact v_loadF rfl rfl rfl rfl (by first | rfl | assumption | exact fget (α := BitVec 64) 0 (by omega) | exact fget (α := Int) 0 (by omega) | exact fget0 (α := BitVec 64) 0 (by omega) | exact fget0 (α := Int) 0 (by omega) | exact fget (α := Bool) false (by omega) | exact fget0 (α := Bool) false (by omega) | (simp [*]; done)) | exact v_load rfl rfl rfl rfl (by first | exact get_app rfl rfl | exact get_out (by assumption) | assumption | (simp [*]; done)) (by first | rfl | assumption | exact fget (α := BitVec 64) 0 (by omega) | exact fget (α := Int) 0 (by omega) | exact fget0 (α := BitVec 64) 0 (by omega) | exact fget0 (α := Int) 0 (by omega) | exact fget (α := Bool) false (by omega) | exact fget0 (α := Bool) false (by omega) | (simp [*]; done))) rfl rfl rfl ?_
                refine O_op (env' := uS3n123) (c := .calm) rfl rfl rfl (v_move (.inl rfl) rfl) rfl rfl rfl ?_
                refine O_op (env' := uS3n123) (c := .calm) rfl rfl rfl (by first | exact v_idxF rfl rfl rfl rfl rfl rfl rfl (by first | assumption | omega | (simp [*]; done) | (simp at *; omega)) | exact v_idx rfl rfl rfl rfl rfl rfl rfl (by first | assumption | omega | (simp [*]; done) | (simp at *; omega))) rfl rfl rfl ?_
                refine O_opI (env' := uS3n123) (x := .look _ _) rfl rfl rfl (by first | exact v_loadF rfl rfl rfl rfl (by first | rfl | assumption | exact fget (α := BitVec 64) 0 (by omega) | exact fget (α := Int) 0 (by omega) | exact fget0 (α := BitVec 64) 0 (by omega) | exact fget0 (α := Int) 0 (by omega) | exact fget (α := Bool) false (by omega) | exact fget0 (α := Bool) false (by omega) | (simp [*]; done)) | exact v_load rfl rfl rfl rfl (by first | exact get_app rfl rfl | exact get_out (by assumption) | assumption | (simp [*]; done)) (by first | rfl | assumption | exact fget (α := BitVec 64) 0 (by omega) | exact fget (α := Int) 0 (by omega) | exact fget0 (α := BitVec 64) 0 (by omega) | exact fget0 (α := Int) 0 (by omega) | exact fget (α := Bool) false (by omega) | exact fget0 (α := Bool) false (by omega) | (simp [*]; done))) rfl rfl rfl ?_
                refine O_op (env' := uS3n123) (c := .look) rfl rfl rfl (by first | exact v_loadF rfl rfl rfl rfl (by first | rfl | assumption | exact fget (α := BitVec 64) 0 (by omega) | exact fget (α := Int) 0 (by omega) | exact fget0 (α := BitVec 64) 0 (by omega) | exact fget0 (α := Int) 0 (by omega) | exact fget (α := Bool) false (by omega) | exact fget0 (α := Bool) false (by omega) | (simp [*]; done)) | exact v_load rfl rfl rfl rfl (by first | exact get_app rfl rfl | exact get_out (by assumption) | assumption | (simp [*]; done)) (by first | rfl | assumption | exact fget (α := BitVec 64) 0 (by omega) | exact fget (α := Int) 0 (by omega) | exact fget0 (α := BitVec 64) 0 (by omega) | exact fget0 (α := Int) 0 (by omega) | exact fget (α := Bool) false (by omega) | exact fget0 (α := Bool) false (by omega) | (simp [*]; done))) rfl rfl rfl ?_
                refine O_call (env' := uS3n123) rfl rfl rfl rfl rfl (by exact one_spec _ _ (by omega)) (by first | exact Nat.le_refl _ | simp) rfl rfl ?_
                refine O_op (env' := uS3n123) (c := .calm) rfl rfl rfl (v_orW rfl rfl rfl) rfl rfl rfl ?_
                refine O_op (env' := uS3n123) (c := .calm) rfl rfl rfl (by first | exact v_idxF rfl rfl rfl rfl rfl rfl rfl (by first | assumption | omega | (simp [*]; done) | (simp at *; omega)) | exact v_idx rfl rfl rfl rfl rfl rfl rfl (by first | assumption | omega | (simp [*]; done) | (simp at *; omega))) rfl rfl rfl ?_
                refine O_op (env' := uS3n123) (c := .turn) rfl rfl rfl (v_storeT rfl rfl rfl rfl rfl rfl rfl (by first | exact get_app rfl rfl | exact get_out (by assumption) | assumption | (simp [*]; done)) (by first | exact Nat.le_of_ble_eq_true rfl | (simp only [List.length_map, List.length_cons, List.length_nil]; omega) | omega | (simp; done) | (simp; omega)) (by first | exact set_app rfl | exact set_out (lt_of_get (by assumption)) | rfl)) rfl rfl rfl ?_
                refine O_nil [_, _, _] (by rfl) (And.intro (And.intro (by first | exact v_loadF rfl rfl rfl rfl (by first | rfl | assumption | exact fget (α := BitVec 64) 0 (by omega) | exact fget (α := Int) 0 (by omega) | exact fget0 (α := BitVec 64) 0 (by omega) | exact fget0 (α := Int) 0 (by omega) | exact fget (α := Bool) false (by omega) | exact fget0 (α := Bool) false (by omega) | (simp [*]; done)) | exact v_load rfl rfl rfl rfl (by first | exact get_app rfl rfl | exact get_out (by assumption) | assumption | (simp [*]; done)) (by first | rfl | assumption | exact fget (α := BitVec 64) 0 (by omega) | exact fget (α := Int) 0 (by omega) | exact fget0 (α := BitVec 64) 0 (by omega) | exact fget0 (α := Int) 0 (by omega) | exact fget (α := Bool) false (by omega) | exact fget0 (α := Bool) false (by omega) | (simp [*]; done))) (by first | exact v_loadF rfl rfl rfl rfl (by first | rfl | assumption | exact fget (α := BitVec 64) 0 (by omega) | exact fget (α := Int) 0 (by omega) | exact fget0 (α := BitVec 64) 0 (by omega) | exact fget0 (α := Int) 0 (by omega) | exact fget (α := Bool) false (by omega) | exact fget0 (α := Bool) false (by omega) | (simp [*]; done)) | exact v_load rfl rfl rfl rfl (by first | exact get_app rfl rfl | exact get_out (by assumption) | assumption | (simp [*]; done)) (by first | rfl | assumption | exact fget (α := BitVec 64) 0 (by omega) | exact fget (α := Int) 0 (by omega) | exact fget0 (α := BitVec 64) 0 (by omega) | exact fget0 (α := Int) 0 (by omega) | exact fget (α := Bool) false (by omega) | exact fget0 (α := Bool) false (by omega) | (simp [*]; done)))) (And.intro (And.intro (by first | exact v_loadF rfl rfl rfl rfl (by first | rfl | assumption | exact fget (α := BitVec 64) 0 (by omega) | exact fget (α := Int) 0 (by omega) | exact fget0 (α := BitVec 64) 0 (by omega) | exact fget0 (α := Int) 0 (by omega) | exact fget (α := Bool) false (by omega) | exact fget0 (α := Bool) false (by omega) | (simp [*]; done)) | exact v_load rfl rfl rfl rfl (by first | exact get_app rfl rfl | exact get_out (by assumption) | assumption | (simp [*]; done)) (by first | rfl | assumption | exact fget (α := BitVec 64) 0 (by omega) | exact fget (α := Int) 0 (by omega) | exact fget0 (α := BitVec 64) 0 (by omega) | exact fget0 (α := Int) 0 (by omega) | exact fget (α := Bool) false (by omega) | exact fget0 (α := Bool) false (by omega) | (simp [*]; done))) (by first | exact v_loadF rfl rfl rfl rfl (by first | rfl | assumption | exact fget (α := BitVec 64) 0 (by omega) | exact fget (α := Int) 0 (by omega) | exact fget0 (α := BitVec 64) 0 (by omega) | exact fget0 (α := Int) 0 (by omega) | exact fget (α := Bool) false (by omega) | exact fget0 (α := Bool) false (by omega) | (simp [*]; done)) | exact v_load rfl rfl rfl rfl (by first | exact get_app rfl rfl | exact get_out (by assumption) | assumption | (simp [*]; done)) (by first | rfl | assumption | exact fget (α := BitVec 64) 0 (by omega) | exact fget (α := Int) 0 (by omega) | exact fget0 (α := BitVec 64) 0 (by omega) | exact fget0 (α := Int) 0 (by omega) | exact fget (α := Bool) false (by omega) | exact fget0 (α := Bool) false (by omega) | (simp [*]; done)))) (And.intro (And.intro (by first | exact v_loadF rfl rfl rfl rfl (by first | rfl | assumption | exact fget (α := BitVec 64) 0 (by omega) | exact fget (α := Int) 0 (by omega) | exact fget0 (α := BitVec 64) 0 (by omega) | exact fget0 (α := Int) 0 (by omega) | exact fget (α := Bool) false (by omega) | exact fget0 (α := Bool) false (by omega) | (simp [*]; done)) | exact v_load rfl rfl rfl rfl (by first | exact get_app rfl rfl | exact get_out (by assumption) | assumption | (simp [*]; done)) (by first | rfl | assumption | exact fget (α := BitVec 64) 0 (by omega) | exact fget (α := Int) 0 (by omega) | exact fget0 (α := BitVec 64) 0 (by omega) | exact fget0 (α := Int) 0 (by omega) | exact fget (α := Bool) false (by omega) | exact fget0 (α := Bool) false (by omega) | (simp [*]; done))) (by first | exact v_loadF rfl rfl rfl rfl (by first | rfl | assumption | exact fget (α := BitVec 64) 0 (by omega) | exact fget (α := Int) 0 (by omega) | exact fget0 (α := BitVec 64) 0 (by omega) | exact fget0 (α := Int) 0 (by omega) | exact fget (α := Bool) false (by omega) | exact fget0 (α := Bool) false (by omega) | (simp [*]; done)) | exact v_load rfl rfl rfl rfl (by first | exact get_app rfl rfl | exact get_out (by assumption) | assumption | (simp [*]; done)) (by first | rfl | assumption | exact fget (α := BitVec 64) 0 (by omega) | exact fget (α := Int) 0 (by omega) | exact fget0 (α := BitVec 64) 0 (by omega) | exact fget0 (α := Int) 0 (by omega) | exact fget (α := Bool) false (by omega) | exact fget0 (α := Bool) false (by omega) | (simp [*]; done)))) trivial))) ?_
                refine K_blk ?_
                have hE : (preM (rch pairs m) a pre m).set (c : Int).toNat ((preM (rch pairs m) a pre m).getD (c : Int).toNat 0 ||| 1#64 <<< (a : Int).toNat) = preM (rch pairs m) a (pre ++ [c]) m := preM_put hcm (by omega)
                refine ⟨(pre ++ [c], 0), (by rw [set_map0 iW _ _ _ (by rw [preM_len]; omega), hE]; rfl), .inl ⟨rfl, ?_⟩⟩
                refine ⟨rfl, fun b hb => ?_⟩
                rcases List.mem_append.1 hb with h | h
                · exact hne b h
                · simp at h; subst h; omega
            · intro s k hk hI
              try dsimp only at hI ⊢
              obtain ⟨rfl, hne⟩ := hI
              have hfull : ∀ b, b < m → (pl (wd (rch pairs m a)) 0).contains b = rch pairs m a b := fun b hb => pl_contains (by omega)
              have hac2 : ∀ i, i < a + 1 → rch pairs m i i = false := fun i hi => by
                by_cases h : i = a
                · subst h
                  cases h2 : rch pairs m i i with
                  | false => rfl
                  | true => exact absurd rfl (hne i (mem_pl.2 ⟨Nat.zero_le _, by omega, by rw [wd_bit, h2]; simp; omega⟩))
                · exact hac i (by omega)
              refine K_blk ?_
              refine K_blk ?_
              refine K_seq ?_
              refine B_region ?_
              refine L_op (env' := uS3n123) rfl rfl (v_addI rfl rfl rfl (by first | assumption | omega | (simp [*]; done) | (simp at *; omega))) rfl ?_
              refine L_op (env' := uS3n123) rfl rfl (v_move (.inl rfl) rfl) rfl ?_
              refine L_nil ?_
              refine K_loopG (true :: true :: true :: true :: false :: false :: false :: true :: true :: true :: true :: true :: true :: true :: true :: true :: true :: true :: true :: true :: true :: true :: true :: true :: true :: true :: true :: true :: true :: true :: true :: true :: true :: true :: true :: true :: true :: true :: true :: true :: true :: true :: true :: true :: true :: true :: true :: true :: true :: true :: true :: true :: true :: true :: true :: true :: true :: true :: true :: true :: true :: true :: true :: true :: true :: true :: true :: true :: true :: true :: true :: true :: true :: true :: true :: true :: true :: true :: true :: true :: true :: true :: true :: true :: true :: true :: true :: true :: true :: true :: true :: true :: true :: false :: false :: true :: true :: true :: true :: true :: true :: true :: true :: true :: true :: true :: true :: true :: true :: true :: true :: true :: true :: true :: true :: true :: true :: true :: true :: true :: true :: true :: true :: []) (env' := uS3n123) rfl (Gh.dropTo (L := newL H m _ _ _) (X := [_, _]) 6 rfl (BaseOk.refl _) (by simp [VVal.underL, VVal.under, VBlk.under, fz_under, fz_underI, fzP_under, under_mapW, under_mapI, under_flatP, under_repW, *]) (by simp [VVal.underL, VVal.under, VBlk.under, fz_under, fz_underI, fzP_under, under_mapW, under_mapI, under_flatP, under_repW, *])) ⟨a + 1, ?_, rfl, ?_⟩
              · first | omega | (simp only []; omega)
              · exact ⟨⟨by omega, hac2⟩, by rw [← preM_next hfull]⟩
            · rintro j pre c post s k hk hx (⟨rfl, hX1, hX2⟩)
              try dsimp only
              obtain ⟨s1, s2⟩ := s
              dsimp only at hX1 hX2 ⊢
              subst hX1
              refine J_ret ?_
              refine K_blkR ?_
              refine K_blkR ?_
              refine K_seqR ?_
              refine K_loopR ?_
              refine K_blkR ?_
              refine K_seqR ?_
              refine E_app (.inr rfl) (vres_cells2 rfl rfl rfl rfl rfl rfl rfl (by first | exact get_app rfl rfl | exact get_out (by assumption) | assumption | (simp [*]; done)) (by first | rfl | assumption | exact fget (α := BitVec 64) 0 (by omega) | exact fget (α := Int) 0 (by omega) | exact fget0 (α := BitVec 64) 0 (by omega) | exact fget0 (α := Int) 0 (by omega) | exact fget (α := Bool) false (by omega) | exact fget0 (α := Bool) false (by omega) | (simp [*]; done)) (by first | exact get_app rfl rfl | exact get_out (by assumption) | assumption | (simp [*]; done)) (by first | rfl | assumption | exact fget (α := BitVec 64) 0 (by omega) | exact fget (α := Int) 0 (by omega) | exact fget0 (α := BitVec 64) 0 (by omega) | exact fget0 (α := Int) 0 (by omega) | exact fget (α := Bool) false (by omega) | exact fget0 (α := Bool) false (by omega) | (simp [*]; done))) (by first | exact BaseOk.refl _ | exact BaseOk.set (BaseOk.refl _) _ rfl) (by simp [VVal.underL, VVal.under, VBlk.under, fz_under, fz_underI, fzP_under, under_mapW, under_mapI, under_flatP, under_repW]) ?_
              have hall : pairs.all (inR (m : Int)) = true := List.all_eq_true.2 hin
              have hcy : (List.range (m : Int).toNat).any (fun a => rch pairs (m : Int).toNat a a) = true := List.any_eq_true.2 ⟨a, List.mem_range.2 (by show a < m; omega), hX2⟩
              exact ⟨by rw [newV, if_neg (by rw [hall]; simp; omega), if_pos hcy], rfl⟩
          · try simp only [decide_eq_true_eq, decide_eq_false_iff_not, Bool.not_eq_true', Bool.not_eq_false', bne_iff_ne, beq_iff_eq, Bool.and_eq_true, Bool.or_eq_true, Bool.not_eq_true, ge_iff_le, gt_iff_lt, Int.not_le, Int.not_lt, beq_eq_false_iff_ne, bne_eq_false_iff_eq, ne_eq, Decidable.not_not, wd_zero, wd_one, wd_inj] at hc9
            refine B_exit ?_
            refine K_seqX ?_
            refine K_loopX ?_
            refine K_blkX ?_
            refine K_seq ?_
            refine B_seq ?_
            refine B_region ?_
            refine L_op (env' := uS3n123) rfl rfl (by first | exact v_loadF rfl rfl rfl rfl (by first | rfl | assumption | exact fget (α := BitVec 64) 0 (by omega) | exact fget (α := Int) 0 (by omega) | exact fget0 (α := BitVec 64) 0 (by omega) | exact fget0 (α := Int) 0 (by omega) | exact fget (α := Bool) false (by omega) | exact fget0 (α := Bool) false (by omega) | (simp [*]; done)) | exact v_load rfl rfl rfl rfl (by first | exact get_app rfl rfl | exact get_out (by assumption) | assumption | (simp [*]; done)) (by first | rfl | assumption | exact fget (α := BitVec 64) 0 (by omega) | exact fget (α := Int) 0 (by omega) | exact fget0 (α := BitVec 64) 0 (by omega) | exact fget0 (α := Int) 0 (by omega) | exact fget (α := Bool) false (by omega) | exact fget0 (α := Bool) false (by omega) | (simp [*]; done))) rfl ?_
            refine L_op (env' := uS3n123) rfl rfl (v_storeT rfl rfl rfl rfl rfl rfl rfl (by first | exact get_app rfl rfl | exact get_out (by assumption) | assumption | (simp [*]; done)) (by first | exact Nat.le_of_ble_eq_true rfl | (simp only [List.length_map, List.length_cons, List.length_nil]; omega) | omega | (simp; done) | (simp; omega)) (by first | exact set_app rfl | exact set_out (lt_of_get (by assumption)) | rfl)) rfl ?_
            refine L_op (env' := uS3n123) rfl rfl (v_storeC (VVal.int .i64 0) rfl rfl rfl rfl rfl rfl rfl (by first | exact get_app rfl rfl | exact get_out (by assumption) | assumption | (simp [*]; done)) (by first | exact Nat.le_of_ble_eq_true rfl | (simp only [List.length_map, List.length_cons, List.length_nil]; omega) | omega | (simp; done) | (simp; omega)) (by first | exact set_app rfl | exact set_out (lt_of_get (by assumption)) | rfl)) rfl ?_
            refine L_nil ?_
            refine K_seq ?_
            have hl4 := @preM_len (rch pairs m) a m []
            refine B_gh (Gh.trans (Gh.cellL 4 0 2 rfl rfl (by decide) rfl (all_at2 _ _ hl4) (Nat.le_refl _)) (Gh.trans (Gh.cellL 4 1 3 rfl rfl (by decide) rfl (all_at2 _ _ hl2) (Nat.le_refl _)) (Gh.cellPtrL 0 0 4 rfl rfl (by decide) rfl))) ?_
            refine B_ret ?_
            refine E_app (.inr rfl) (vres_cells2 rfl rfl rfl rfl rfl rfl rfl (by first | exact get_app rfl rfl | exact get_out (by assumption) | assumption | (simp [*]; done)) (by first | rfl | assumption | exact fget (α := BitVec 64) 0 (by omega) | exact fget (α := Int) 0 (by omega) | exact fget0 (α := BitVec 64) 0 (by omega) | exact fget0 (α := Int) 0 (by omega) | exact fget (α := Bool) false (by omega) | exact fget0 (α := Bool) false (by omega) | (simp [*]; done)) (by first | exact get_app rfl rfl | exact get_out (by assumption) | assumption | (simp [*]; done)) (by first | rfl | assumption | exact fget (α := BitVec 64) 0 (by omega) | exact fget (α := Int) 0 (by omega) | exact fget0 (α := BitVec 64) 0 (by omega) | exact fget0 (α := Int) 0 (by omega) | exact fget (α := Bool) false (by omega) | exact fget0 (α := Bool) false (by omega) | (simp [*]; done))) (by first | exact BaseOk.refl _ | exact BaseOk.set (BaseOk.refl _) _ rfl) (by simp [VVal.underL, VVal.under, VBlk.under, fz_under, fz_underI, fzP_under, under_mapW, under_mapI, under_flatP, under_repW]) ?_
            have hall : pairs.all (inR (m : Int)) = true := List.all_eq_true.2 hin
            have e1 : a = m := by omega
            have hcy : ¬ (List.range (m : Int).toNat).any (fun a => rch pairs (m : Int).toNat a a) = true := by
              rw [List.any_eq_true]
              rintro ⟨i, hi, h⟩
              have hi : i < m := List.mem_range.1 hi
              have h : rch pairs m i i = true := h
              rw [hac i (by omega)] at h; cases h
            refine ⟨?_, rfl⟩
            rw [newV, if_neg (by rw [hall]; simp; omega), if_neg hcy]
            show VVal.tuple [.fptr [.fsl ((preM (rch pairs m) a [] m).map iW) m 1 false, .fsl ((sucL pairs m).map iW) m 1 false] 0, iI 0] = VVal.tuple [ordV (preL pairs m) (sucL pairs m), iI 0]
            rw [e1, preM_end]
            simp only [ordV, fzW, preL_len, sucL_len]
end Go.Proofs.YteocbhgdmpdklaaDoor.VT
