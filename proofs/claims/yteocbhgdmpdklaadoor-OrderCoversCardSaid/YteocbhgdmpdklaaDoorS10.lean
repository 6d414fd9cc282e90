/- OrderCovers: walks -/
import Derived.Test.YteocbhgdmpdklaaDoorS9
import Derived.Test.YteocbhgdmpdklaaDoorP6
set_option autoImplicit false
set_option linter.unusedVariables false
set_option linter.unusedSimpArgs false
set_option maxHeartbeats 4000000
set_option maxRecDepth 100000
namespace Go.Proofs.YteocbhgdmpdklaaDoor.VT
open Go Go.V Go.RowKit

abbrev uS10n110 {a0 a1 a2 a3 a4 a5 a6 a7 a8 a9 a10 a11 a12 a13 a14 a15 a16 a17 a18 a19 a20 a21 a22 a23 a24 a25 a26 a27 a28 a29 a30 a31 a32 a33 a34 a35 a36 a37 a38 a39 a40 a41 a42 a43 a44 a45 a46 a47 a48 a49 a50 a51 a52 a53 a54 a55 a56 a57 a58 a59 a60 a61 a62 a63 a64 a65 a66 a67 a68 a69 a70 a71 a72 a73 a74 a75 a76 a77 a78 a79 a80 a81 a82 a83 a84 a85 a86 a87 a88 a89 a90 a91 a92 a93 a94 a95 a96 a97 a98 a99 a100 a101 a102 a103 a104 a105 a106 a107 a108 a109 : VVal} : VEnv := a0 :: a1 :: a2 :: a3 :: a4 :: a5 :: a6 :: a7 :: a8 :: a9 :: a10 :: a11 :: a12 :: a13 :: a14 :: a15 :: a16 :: a17 :: a18 :: a19 :: a20 :: a21 :: a22 :: a23 :: a24 :: a25 :: a26 :: a27 :: a28 :: a29 :: a30 :: a31 :: a32 :: a33 :: a34 :: a35 :: a36 :: a37 :: a38 :: a39 :: a40 :: a41 :: a42 :: a43 :: a44 :: a45 :: a46 :: a47 :: a48 :: a49 :: a50 :: a51 :: a52 :: a53 :: a54 :: a55 :: a56 :: a57 :: a58 :: a59 :: a60 :: a61 :: a62 :: a63 :: a64 :: a65 :: a66 :: a67 :: a68 :: a69 :: a70 :: a71 :: a72 :: a73 :: a74 :: a75 :: a76 :: a77 :: a78 :: a79 :: a80 :: a81 :: a82 :: a83 :: a84 :: a85 :: a86 :: a87 :: a88 :: a89 :: a90 :: a91 :: a92 :: a93 :: a94 :: a95 :: a96 :: a97 :: a98 :: a99 :: a100 :: a101 :: a102 :: a103 :: a104 :: a105 :: a106 :: a107 :: a108 :: a109 :: []

theorem flatP_take : ∀ (l : List (Int × Int)) (k : Nat), (l.flatMap enP).take (k * 2) = (l.take k).flatMap enP
  | [], k => by simp
  | p :: l, 0 => by simp
  | p :: l, k + 1 => by
    rw [List.take_succ_cons, List.flatMap_cons, List.flatMap_cons, ← flatP_take l k, show (k + 1) * 2 = k * 2 + 1 + 1 from by omega]
    simp [enP]
theorem flatP_drop : ∀ (l : List (Int × Int)) (k : Nat), (l.flatMap enP).drop (k * 2) = (l.drop k).flatMap enP
  | [], k => by simp
  | p :: l, 0 => by simp
  | p :: l, k + 1 => by
    rw [List.drop_succ_cons, List.flatMap_cons, ← flatP_drop l k, show (k + 1) * 2 = 2 + k * 2 from by omega, ← List.drop_drop]
    simp [enP]
section
variable {T : TypeId → Option VTy} {ρ : Operand → VVal} {H : VHeap} {op : Op}
theorem v_pairsHi {t e : TypeId} {x hi : Operand} {y z : VTy} {l : List (Int × Int)} {k : Nat} {kd : IntKind} (ho : op = .slice t x none (some hi) none) (hy : T t = some y) (hd : y.desc = .slice e) (hz : T e = some z) (hs : z.size = 2) (hx : ρ x = fzP l) (hh : ρ hi = .int kd (k : Nat)) (hk : k ≤ l.length) : vop T ρ H op = some (fzP (l.take k), H) := by
  rw [v_sliceHi ho hy hd hz hs hx hh hk (flatP_len l), flatP_take]
  simp [Nat.min_eq_left hk]
theorem v_pairsLo {t e : TypeId} {x lo : Operand} {y z : VTy} {l : List (Int × Int)} {k : Nat} {kd : IntKind} (ho : op = .slice t x (some lo) none none) (hy : T t = some y) (hd : y.desc = .slice e) (hz : T e = some z) (hs : z.size = 2) (hx : ρ x = fzP l) (hh : ρ lo = .int kd (k : Nat)) (hk : k ≤ l.length) : vop T ρ H op = some (fzP (l.drop k), H) := by
  rw [v_sliceLo ho hy hd hz hs hx hh hk (flatP_len l), flatP_drop]
  simp
end
theorem twinP2_spec {x : SW} (H L : VHeap) (l : List (Int × Int)) (hl : l.length * 16 ≤ 140737488355328) : F (psys x) 17 [fzP l] (H ++ L) fun v G => v = .slice (some (H.length + L.length, 0)) l.length l.length (decide (l.length = 0)) 2 ∧ G = H ++ (L ++ [.cells (l.flatMap enP) true]) := by
  have := twinP_spec (x := x) (H ++ L) l hl
  rw [List.length_append, List.append_assoc] at this
  exact this
theorem New_mut {x : SW} {u : VVal} (H Z : VHeap) (n : Int) (l : List (Int × Int)) {i len c : Nat} {ex : Bool} (hZ : Z[i]? = some (.cells (l.flatMap enP) true)) (hlen : len = l.length) (hc : len ≤ c) (hp : l.length < 9223372036854775807) (h : newV n l = u) : F (psys x) 16 [iI n, .slice (some (H.length + i, 0)) len c ex 2] (H ++ Z) fun v G => v = u ∧ G = H ++ Z.set i .dead := by
  subst hlen
  exact F.pre (Gh.freezeL 1 i rfl hZ (flatP_all l) hc rfl) (New_eq _ n l hp h)
theorem newV_of {l : List (Int × Int)} {m : Nat} (hm : m ≤ 64) (hl : ∀ p, p ∈ l → inR m p = true) (hc : ∀ i, i < m → rch l m i i = false) : newV m l = .tuple [ordV (preL l m) (sucL l m), iI 0] := by
  have hall : l.all (inR (m : Int)) = true := List.all_eq_true.2 hl
  rw [newV, if_neg (by rw [hall]; simp; omega), if_neg ?_]
  · rfl
  · rw [List.any_eq_true]
    rintro ⟨i, hi, h⟩
    have hi : i < m := List.mem_range.1 hi
    have h : rch l m i i = true := h
    rw [hc i hi] at h; cases h
theorem ord_newS {m : Nat} {R : Nat → Nat → Bool} {ps ss : List (BitVec 64)} (o : V.Ord m R ps ss) {l : List (Int × Int)} (hl : ∀ p, p ∈ l → p ∈ cvL m R) : newV m l = .tuple [ordV (preL l m) (sucL l m), iI 0] :=
  newV_of o.le (fun p h => cv_in (hl p h)) fun i _ => (o.subOrd hl).ir i
theorem Before_at {x : SW} (H : VHeap) {m : Nat} {R : Nat → Nat → Bool} {ps ss : List (BitVec 64)} (o : V.Ord m R ps ss) (a b : Int) : F (psys x) 19 [ordV ps ss, iI a, iI b] H fun v G => v = .bool (bfr m R a b) ∧ G = H := by
  have := Before_spec (x := x) H ps ss (by rw [o.pl, o.sl]) a b
  rw [o.bf] at this; exact this
theorem Preds_at {x : SW} (H : VHeap) {m : Nat} {R : Nat → Nat → Bool} {ps ss : List (BitVec 64)} (o : V.Ord m R ps ss) (a : Int) : F (psys x) 18 [ordV ps ss, iI a] H fun v G => v = iW (prW m R a) ∧ G = H := by
  have := Preds_spec (x := x) H ps ss a
  rw [o.prs] at this; exact this
theorem Succs_at {x : SW} (H : VHeap) {m : Nat} {R : Nat → Nat → Bool} {ps ss : List (BitVec 64)} (o : V.Ord m R ps ss) (a : Int) : F (psys x) 24 [ordV ps ss, iI a] H fun v G => v = iW (suW m R a) ∧ G = H := by
  have := Succs_spec (x := x) H ps ss (by rw [o.pl, o.sl]) a
  rw [o.sus] at this; exact this

theorem OrderCovers_no {x : SW} (H : VHeap) (N A B : Int) (pairs : List (Int × Int)) (w : BitVec 64) (pr : List Int) (most : BitVec 64) (hl : pairs.length * 16 ≤ 140737488355328) (e : Int) (h1 : newV N pairs = .tuple [.ptr none, iI e]) (h2 : refNewV N pairs = .tuple [.ptr none, iI e]) : F (psys x) 3 [.agg [iI N, fzP pairs, iI A, iI B, iW w, fzI pr, iW most]] H fun v G => v = .bool true ∧ G = H := by
  refine F_body Tryd.func3 rfl uS10n110 rfl ?_
  refine B_seq ?_
  refine B_region ?_
  refine L_op (env' := uS10n110) rfl rfl (v_boxT rfl rfl rfl) rfl ?_
  refine L_op (env' := uS10n110) rfl rfl (v_const (VVal.bool false) (.inr rfl) rfl) rfl ?_
  refine L_nil ?_
  refine K_seq ?_
  refine B_seq ?_
  refine B_region ?_
  refine L_op (env' := uS10n110) rfl rfl (by first | exact v_loadFA rfl rfl rfl rfl (by first | rfl | assumption | exact fget (α := BitVec 64) 0 (by omega) | exact fget (α := Int) 0 (by omega) | exact fget0 (α := BitVec 64) 0 (by omega) | exact fget0 (α := Int) 0 (by omega) | exact fget (α := Bool) false (by omega) | exact fget0 (α := Bool) false (by omega) | (simp [*]; done)) | exact v_loadA rfl rfl rfl rfl (by first | exact get_app rfl rfl | exact get_out (by assumption) | assumption | (simp [*]; done)) (by first | rfl | assumption | exact fget (α := BitVec 64) 0 (by omega) | exact fget (α := Int) 0 (by omega) | exact fget0 (α := BitVec 64) 0 (by omega) | exact fget0 (α := Int) 0 (by omega) | exact fget (α := Bool) false (by omega) | exact fget0 (α := Bool) false (by omega) | (simp [*]; done))) rfl ?_
  refine L_call rfl rfl rfl (by exact both_no _ _ _ _ _ _ _ _ hl _ h1 h2) ?_
  rintro _ _ ⟨rfl, rfl⟩
  refine L_env (env' := uS10n110) rfl ?_
  refine L_op (env' := uS10n110) rfl rfl (v_move (.inl rfl) rfl) rfl ?_
  refine L_op (env' := uS10n110) rfl rfl (rfl) rfl ?_
  refine L_op (env' := uS10n110) rfl rfl (rfl) rfl ?_
  refine L_op (env' := uS10n110) rfl rfl (rfl) rfl ?_
  refine L_op (env' := uS10n110) rfl rfl (v_move (.inr rfl) rfl) rfl ?_
  refine L_op (env' := uS10n110) rfl rfl (v_move (.inr rfl) rfl) rfl ?_
  refine L_op (env' := uS10n110) rfl rfl (v_move (.inr rfl) rfl) rfl ?_
  refine L_nil ?_
  refine K_seq ?_
  refine B_seq ?_
  refine B_seq ?_
  refine B_region ?_
  refine L_op (env' := uS10n110) rfl rfl (v_move (.inl rfl) rfl) rfl ?_
  refine L_op (env' := uS10n110) rfl rfl (rfl) rfl ?_
  refine L_op (env' := uS10n110) rfl rfl (v_move (.inl rfl) rfl) rfl ?_
  refine L_op (env' := uS10n110) rfl rfl (v_move (.inl rfl) rfl) rfl ?_
  refine L_op (env' := uS10n110) rfl rfl (rfl) rfl ?_
  refine L_op (env' := uS10n110) rfl rfl (v_pickF rfl rfl rfl) rfl ?_
  refine L_nil ?_
  refine K_seq ?_
  refine B_true rfl rfl ?_
  refine B_seq ?_
  refine B_region ?_
  refine L_op (env' := uS10n110) rfl rfl (v_move (.inl rfl) rfl) rfl ?_
  refine L_op (env' := uS10n110) rfl rfl (v_move (.inr rfl) rfl) rfl ?_
  refine L_nil ?_
  refine K_seq ?_
  refine B_ret ?_
  refine K_seqR ?_
  refine E_app (.inr rfl) (vres_tmp rfl rfl) (by first | exact BaseOk.refl _ | exact BaseOk.set (BaseOk.refl _) _ rfl) (by simp [VVal.underL, VVal.under, VBlk.under, rows_under, fz_under, rows_under, fz_underI, fzP_under, under_mapW, under_mapI, under_flatP, under_repW, *]) ?_
  exact ⟨rfl, rfl⟩

theorem OrderCovers_yes {x : SW} (H : VHeap) (N A B : Int) (pairs : List (Int × Int)) (w : BitVec 64) (pr : List Int) (most : BitVec 64) (hl : pairs.length * 16 ≤ 140737488355328) (m : Nat) (hN : N = m) (ho : Ord m (rch pairs m) (preL pairs m) (sucL pairs m)) (h1 : newV N pairs = .tuple [ordV (preL pairs m) (sucL pairs m), iI 0]) (h2 : refNewV N pairs = .tuple [refV m (rch pairs m), iI 0]) : F (psys x) 3 [.agg [iI N, fzP pairs, iI A, iI B, iW w, fzI pr, iW most]] H fun v G => v = .bool true ∧ G = H := by
  subst hN
  have hm := ho.le
  have hcl := cvL_len (R := rch pairs m) hm
  have hn1 := ord_newS ho (l := cvL m (rch pairs m)) fun p h => h
  have o1 := ho.subOrd (l := cvL m (rch pairs m)) fun p h => h
  refine F_body Tryd.func3 rfl uS10n110 rfl ?_
  refine B_seq ?_
  refine B_region ?_
  refine L_op (env' := uS10n110) rfl rfl (v_boxT rfl rfl rfl) rfl ?_
  refine L_op (env' := uS10n110) rfl rfl (v_const (VVal.bool false) (.inr rfl) rfl) rfl ?_
  refine L_nil ?_
  refine K_seq ?_
  refine B_seq ?_
  refine B_region ?_
  refine L_op (env' := uS10n110) rfl rfl (by first | exact v_loadFA rfl rfl rfl rfl (by first | exact pair_c0 (by omega) | exact pair_c1 (by omega) | rfl | assumption | exact fget (α := Int) 0 (by omega)) | exact v_loadA rfl rfl rfl rfl (by first | exact get_app rfl rfl | exact get_out (by assumption) | assumption | (simp [*]; done)) (by first | exact pair_c0 (by omega) | exact pair_c1 (by omega) | rfl | assumption | exact fget (α := Int) 0 (by omega))) rfl ?_
  refine L_call rfl rfl rfl (by exact both_yes _ _ _ _ _ _ _ _ hl _ _ _ _ h1 h2) ?_
  rintro _ _ ⟨rfl, rfl⟩
  refine L_env (env' := uS10n110) rfl ?_
  refine L_op (env' := uS10n110) rfl rfl (v_move (.inl rfl) rfl) rfl ?_
  refine L_op (env' := uS10n110) rfl rfl (rfl) rfl ?_
  refine L_op (env' := uS10n110) rfl rfl (rfl) rfl ?_
  refine L_op (env' := uS10n110) rfl rfl (rfl) rfl ?_
  refine L_op (env' := uS10n110) rfl rfl (v_move (.inr rfl) rfl) rfl ?_
  refine L_op (env' := uS10n110) rfl rfl (v_move (.inr rfl) rfl) rfl ?_
  refine L_op (env' := uS10n110) rfl rfl (v_move (.inr rfl) rfl) rfl ?_
  refine L_nil ?_
  refine K_seq ?_
  refine B_seq ?_
  refine B_seq ?_
  refine B_region ?_
  refine L_op (env' := uS10n110) rfl rfl (v_move (.inl rfl) rfl) rfl ?_
  refine L_op (env' := uS10n110) rfl rfl (rfl) rfl ?_
  refine L_op (env' := uS10n110) rfl rfl (v_move (.inl rfl) rfl) rfl ?_
  refine L_op (env' := uS10n110) rfl rfl (v_move (.inl rfl) rfl) rfl ?_
  refine L_op (env' := uS10n110) rfl rfl (rfl) rfl ?_
  refine L_op (env' := uS10n110) rfl rfl (v_pickF rfl rfl rfl) rfl ?_
  refine L_nil ?_
  refine K_seq ?_
  refine B_false rfl rfl ?_
  refine B_skip ?_
  refine K_seq ?_
  refine B_seq ?_
  refine B_region ?_
  refine L_op (env' := uS10n110) rfl rfl (v_move (.inl rfl) rfl) rfl ?_
  refine L_call rfl rfl rfl (by exact Covers_spec _ _ _ _ _ ho) ?_
  rintro _ _ ⟨rfl, rfl⟩
  refine L_env (env' := uS10n110) rfl ?_
  refine L_op (env' := uS10n110) rfl rfl (v_move (.inr rfl) rfl) rfl ?_
  refine L_nil ?_
  refine K_seq ?_
  refine B_seq ?_
  refine B_draw [0, 1, 2, 3, 4, 5, 6, 7, 8, 9, 10, 11] #[0, 1, 3, 7, 0, 16, 63, 127, 255, 255, 511, 2047] (by kernel_rfl) (by kernel_rfl) (by kernel_rfl) ?_
  refine O_op (env' := uS10n110) (c := .calm) rfl rfl rfl (v_move (.inl rfl) rfl) rfl rfl rfl ?_
  refine O_op (env' := uS10n110) (c := .calm) rfl rfl rfl (rfl) rfl rfl rfl ?_
  refine O_op (env' := uS10n110) (c := .calm) rfl rfl rfl (rfl) rfl rfl rfl ?_
  refine O_opI (env' := uS10n110) (x := .look _ _) rfl rfl rfl (by first | exact v_loadF rfl rfl rfl rfl (by first | exact pair_c0 (by omega) | exact pair_c1 (by omega) | rfl | assumption | exact fget (α := Int) 0 (by omega)) | exact v_load rfl rfl rfl rfl (by first | exact get_app rfl rfl | exact get_out (by assumption) | assumption | (simp [*]; done)) (by first | exact pair_c0 (by omega) | exact pair_c1 (by omega) | rfl | assumption | exact fget (α := Int) 0 (by omega))) rfl rfl rfl ?_
  refine O_op (env' := uS10n110) (c := .calm) rfl rfl rfl (v_move (.inl rfl) rfl) rfl rfl rfl ?_
  refine O_call (env' := uS10n110) rfl rfl rfl rfl rfl (by exact twin_spec _ _ (by omega)) (by first | exact Nat.le_refl _ | simp) rfl rfl ?_
  refine O_call (env' := uS10n110) rfl rfl rfl rfl rfl (by exact New_eq _ _ _ (by omega) hn1) (by first | exact Nat.le_refl _ | simp) rfl rfl ?_
  refine O_op (env' := uS10n110) (c := .calm) rfl rfl rfl (v_move (.inl rfl) rfl) rfl rfl rfl ?_
  refine O_op (env' := uS10n110) (c := .calm) rfl rfl rfl (rfl) rfl rfl rfl ?_
  refine O_op (env' := uS10n110) (c := .calm) rfl rfl rfl (rfl) rfl rfl rfl ?_
  refine O_op (env' := uS10n110) (c := .calm) rfl rfl rfl (v_move (.inr rfl) rfl) rfl rfl rfl ?_
  refine O_op (env' := uS10n110) (c := .calm) rfl rfl rfl (v_move (.inr rfl) rfl) rfl rfl rfl ?_
  refine O_nil [_] (by rfl) (And.intro (And.intro (by first | exact v_loadF rfl rfl rfl rfl (by first | exact pair_c0 (by omega) | exact pair_c1 (by omega) | rfl | assumption | exact fget (α := Int) 0 (by omega)) | exact v_load rfl rfl rfl rfl (by first | exact get_app rfl rfl | exact get_out (by assumption) | assumption | (simp [*]; done)) (by first | exact pair_c0 (by omega) | exact pair_c1 (by omega) | rfl | assumption | exact fget (α := Int) 0 (by omega))) (by first | exact v_loadF rfl rfl rfl rfl (by first | exact pair_c0 (by omega) | exact pair_c1 (by omega) | rfl | assumption | exact fget (α := Int) 0 (by omega)) | exact v_load rfl rfl rfl rfl (by first | exact get_app rfl rfl | exact get_out (by assumption) | assumption | (simp [*]; done)) (by first | exact pair_c0 (by omega) | exact pair_c1 (by omega) | rfl | assumption | exact fget (α := Int) 0 (by omega)))) trivial) ?_
  refine K_seq ?_
  refine B_seq ?_
  refine B_seq ?_
  refine B_region ?_
  refine L_op (env' := uS10n110) rfl rfl (v_move (.inl rfl) rfl) rfl ?_
  refine L_op (env' := uS10n110) rfl rfl (rfl) rfl ?_
  refine L_op (env' := uS10n110) rfl rfl (v_move (.inl rfl) rfl) rfl ?_
  refine L_op (env' := uS10n110) rfl rfl (v_move (.inl rfl) rfl) rfl ?_
  refine L_op (env' := uS10n110) rfl rfl (rfl) rfl ?_
  refine L_op (env' := uS10n110) rfl rfl (v_pickF rfl rfl rfl) rfl ?_
  refine L_nil ?_
  refine K_seq ?_
  refine B_false rfl rfl ?_
  refine B_skip ?_
  refine K_seq ?_
  refine B_seq ?_
  refine B_seq ?_
  refine B_region ?_
  refine L_op (env' := uS10n110) rfl rfl (v_const (VVal.int .i64 0) (.inr rfl) rfl) rfl ?_
  refine L_nil ?_
  refine K_seq ?_
  refine B_block ?_
  refine B_clear (true :: false :: true :: false :: false :: true :: false :: false :: true :: false :: true :: true :: true :: true :: true :: true :: true :: true :: true :: true :: true :: true :: true :: true :: true :: true :: true :: true :: true :: true :: true :: true :: true :: true :: true :: true :: true :: true :: true :: true :: true :: true :: true :: true :: true :: true :: true :: true :: true :: true :: true :: true :: true :: true :: true :: true :: true :: true :: true :: true :: true :: true :: true :: true :: true :: true :: true :: true :: true :: true :: true :: true :: true :: true :: true :: true :: true :: true :: true :: true :: true :: true :: true :: true :: true :: true :: true :: true :: true :: true :: true :: true :: true :: true :: true :: true :: true :: true :: true :: true :: true :: true :: true :: true :: true :: true :: true :: true :: true :: true :: []) (env' := uS10n110) rfl ?_
  refine B_loopE (fun (a : Nat) => m - a) (fun (a : Nat) => [(9, iI (a : Nat))]) (fun (a : Nat) G => (a ≤ m) ∧ G = H ++ [.cells [iI (m : Nat), fzP pairs, iI A, iI B, iW w, fzI pr, iW most] true]) 0 rfl ?_ ?_
  · refine ⟨?_, rfl⟩
    exact Nat.zero_le _
  rintro a _ ⟨ha, rfl⟩
  refine B_env (env' := uS10n110) rfl ?_
  refine B_seq ?_
  refine B_seq ?_
  refine B_region ?_
  refine L_op (env' := uS10n110) rfl rfl (v_move (.inl rfl) rfl) rfl ?_
  refine L_op (env' := uS10n110) rfl rfl (v_move (.inl rfl) rfl) rfl ?_
  refine L_op (env' := uS10n110) rfl rfl (rfl) rfl ?_
  refine L_op (env' := uS10n110) rfl rfl (rfl) rfl ?_
  refine L_op (env' := uS10n110) rfl rfl (by first | exact v_loadF rfl rfl rfl rfl (by first | exact pair_c0 (by omega) | exact pair_c1 (by omega) | rfl | assumption | exact fget (α := Int) 0 (by omega)) | exact v_load rfl rfl rfl rfl (by first | exact get_app rfl rfl | exact get_out (by assumption) | assumption | (simp [*]; done)) (by first | exact pair_c0 (by omega) | exact pair_c1 (by omega) | rfl | assumption | exact fget (α := Int) 0 (by omega))) rfl ?_
  refine L_op (env' := uS10n110) rfl rfl (rfl) rfl ?_
  refine L_nil ?_
  refine K_seq ?_
  refine B_cond _ rfl (fun hc1 => ?_) (fun hc1 => ?_)
  · try simp only [decide_eq_true_eq, decide_eq_false_iff_not, Bool.not_eq_true', Bool.not_eq_false', bne_iff_ne, beq_iff_eq, Bool.and_eq_true, Bool.or_eq_true, Bool.not_eq_true, ge_iff_le, gt_iff_lt, Int.not_le, Int.not_lt, beq_eq_false_iff_ne, bne_eq_false_iff_eq, ne_eq, Decidable.not_not, wd_zero, wd_one, wd_inj] at hc1
    refine B_skip ?_
    refine K_seq ?_
    refine B_seq ?_
    refine B_block ?_
    refine B_seq ?_
    refine B_region ?_
    refine L_op (env' := uS10n110) rfl rfl (v_move (.inl rfl) rfl) rfl ?_
    refine L_op (env' := uS10n110) rfl rfl (v_move (.inl rfl) rfl) rfl ?_
    refine L_call rfl rfl rfl (by exact Preds_at _ o1 _) ?_
    rintro _ _ ⟨rfl, rfl⟩
    refine L_env (env' := uS10n110) rfl ?_
    refine L_op (env' := uS10n110) rfl rfl (v_move (.inl rfl) rfl) rfl ?_
    refine L_op (env' := uS10n110) rfl rfl (v_move (.inl rfl) rfl) rfl ?_
    refine L_call rfl rfl rfl (by exact Preds_at _ ho _) ?_
    rintro _ _ ⟨rfl, rfl⟩
    refine L_env (env' := uS10n110) rfl ?_
    refine L_op (env' := uS10n110) rfl rfl (v_is false rfl (by rw [ho.cv]; simp)) rfl ?_
    refine L_nil ?_
    refine K_seq ?_
    refine B_false rfl rfl ?_
    refine B_skip ?_
    refine K_blk ?_
    refine K_seq ?_
    refine B_region ?_
    refine L_op (env' := uS10n110) rfl rfl (v_move (.inl rfl) rfl) rfl ?_
    refine L_op (env' := uS10n110) rfl rfl (v_addI rfl rfl rfl (by first | assumption | omega | (simp [*]; done) | (simp at *; omega))) rfl ?_
    refine L_op (env' := uS10n110) rfl rfl (v_move (.inr rfl) rfl) rfl ?_
    refine L_nil ?_
    refine K_loop (true :: false :: true :: false :: false :: true :: false :: false :: true :: false :: true :: true :: true :: true :: true :: true :: true :: true :: true :: true :: true :: true :: true :: true :: true :: true :: true :: true :: true :: true :: true :: true :: true :: true :: true :: true :: true :: true :: true :: true :: true :: true :: true :: true :: true :: true :: true :: true :: true :: true :: true :: true :: true :: true :: true :: true :: true :: true :: true :: true :: true :: true :: true :: true :: true :: true :: true :: true :: true :: true :: true :: true :: true :: true :: true :: true :: true :: true :: true :: true :: true :: true :: true :: true :: true :: true :: true :: true :: true :: true :: true :: true :: true :: true :: true :: true :: true :: true :: true :: true :: true :: true :: true :: true :: true :: true :: true :: true :: true :: true :: []) (env' := uS10n110) rfl ⟨a + 1, ?_, rfl, ?_⟩
    · first | omega | (simp only []; omega)
    · exact ⟨by omega, rfl⟩
  · try simp only [decide_eq_true_eq, decide_eq_false_iff_not, Bool.not_eq_true', Bool.not_eq_false', bne_iff_ne, beq_iff_eq, Bool.and_eq_true, Bool.or_eq_true, Bool.not_eq_true, ge_iff_le, gt_iff_lt, Int.not_le, Int.not_lt, beq_eq_false_iff_ne, bne_eq_false_iff_eq, ne_eq, Decidable.not_not, wd_zero, wd_one, wd_inj] at hc1
    refine B_exit ?_
    refine K_seqX ?_
    refine K_loopX ?_
    refine K_blkX ?_
    refine K_seq ?_
    refine B_seq ?_
    refine B_seq ?_
    refine B_region ?_
    refine L_op (env' := uS10n110) rfl rfl (v_move (.inl rfl) rfl) rfl ?_
    refine L_op (env' := uS10n110) rfl rfl (rfl) rfl ?_
    refine L_op (env' := uS10n110) rfl rfl (rfl) rfl ?_
    refine L_nil ?_
    refine K_seq ?_
    refine B_cond _ rfl (fun hc2 => ?_) (fun hc2 => ?_)
    · try simp only [decide_eq_true_eq, decide_eq_false_iff_not, Bool.not_eq_true', Bool.not_eq_false', bne_iff_ne, beq_iff_eq, Bool.and_eq_true, Bool.or_eq_true, Bool.not_eq_true, ge_iff_le, gt_iff_lt, Int.not_le, Int.not_lt, beq_eq_false_iff_ne, bne_eq_false_iff_eq, ne_eq, Decidable.not_not, wd_zero, wd_one, wd_inj] at hc2
      refine B_seq ?_
      refine B_region ?_
      refine L_op (env' := uS10n110) rfl rfl (v_const (VVal.bool true) (.inr rfl) rfl) rfl ?_
      refine L_nil ?_
      refine K_seq ?_
      refine B_ret ?_
      refine K_seqR ?_
      refine E_app (.inr rfl) (vres_tmp rfl rfl) (by first | exact BaseOk.refl _ | exact BaseOk.set (BaseOk.refl _) _ rfl) (by simp [VVal.underL, VVal.under, VBlk.under, rows_under, fz_under, rows_under, fz_underI, fzP_under, under_mapW, under_mapI, under_flatP, under_repW, *]) ?_
      exact ⟨rfl, rfl⟩
    · try simp only [decide_eq_true_eq, decide_eq_false_iff_not, Bool.not_eq_true', Bool.not_eq_false', bne_iff_ne, beq_iff_eq, Bool.and_eq_true, Bool.or_eq_true, Bool.not_eq_true, ge_iff_le, gt_iff_lt, Int.not_le, Int.not_lt, beq_eq_false_iff_ne, bne_eq_false_iff_eq, ne_eq, Decidable.not_not, wd_zero, wd_one, wd_inj] at hc2
      refine B_skip ?_
      refine K_seq ?_
      refine B_seq ?_
      refine B_region ?_
      have hn0 : 0 < (cvL m (rch pairs m)).length := by omega
      refine L_op (env' := uS10n110) rfl rfl (rfl) rfl ?_
      refine L_op (env' := uS10n110) rfl rfl (by first | exact v_loadF rfl rfl rfl rfl (by first | exact pair_c0 (by omega) | exact pair_c1 (by omega) | rfl | assumption | exact fget (α := Int) 0 (by omega)) | exact v_load rfl rfl rfl rfl (by first | exact get_app rfl rfl | exact get_out (by assumption) | assumption | (simp [*]; done)) (by first | exact pair_c0 (by omega) | exact pair_c1 (by omega) | rfl | assumption | exact fget (α := Int) 0 (by omega))) rfl ?_
      refine L_op (env' := uS10n110) rfl rfl (v_move (.inl rfl) rfl) rfl ?_
      refine L_op (env' := uS10n110) rfl rfl (rfl) rfl ?_
      refine L_op (env' := uS10n110) rfl rfl (v_rem rfl rfl rfl (by first | assumption | omega | (simp [*]; done) | (simp at *; omega))) rfl ?_
      refine L_op (env' := uS10n110) rfl rfl (v_move (.inr rfl) rfl) rfl ?_
      refine L_nil ?_
      refine K_seq ?_
      refine B_seq ?_
      refine B_seq ?_
      refine B_region ?_
      refine L_op (env' := uS10n110) rfl rfl (v_move (.inl rfl) rfl) rfl ?_
      refine L_op (env' := uS10n110) rfl rfl (rfl) rfl ?_
      refine L_nil ?_
      refine K_seq ?_
      refine B_cond _ rfl (fun hc3 => ?_) (fun hc3 => ?_)
      · try simp only [decide_eq_true_eq, decide_eq_false_iff_not, Bool.not_eq_true', Bool.not_eq_false', bne_iff_ne, beq_iff_eq, Bool.and_eq_true, Bool.or_eq_true, Bool.not_eq_true, ge_iff_le, gt_iff_lt, Int.not_le, Int.not_lt, beq_eq_false_iff_ne, bne_eq_false_iff_eq, ne_eq, Decidable.not_not, wd_zero, wd_one, wd_inj] at hc3
        refine B_region ?_
        refine L_op (env' := uS10n110) rfl rfl (v_move (.inl rfl) rfl) rfl ?_
        refine L_op (env' := uS10n110) rfl rfl (v_move (.inl rfl) rfl) rfl ?_
        refine L_op (env' := uS10n110) rfl rfl (rfl) rfl ?_
        refine L_op (env' := uS10n110) rfl rfl (v_addI rfl rfl rfl (by have h1 : A.tmod (cvL m (rch pairs m)).length < (cvL m (rch pairs m)).length := Int.tmod_lt_of_pos A (by omega); have h2 : -((cvL m (rch pairs m)).length : Int) < A.tmod (cvL m (rch pairs m)).length := Int.lt_tmod_of_pos A (by omega); omega)) rfl ?_
        refine L_op (env' := uS10n110) rfl rfl (v_move (.inr rfl) rfl) rfl ?_
        refine L_nil ?_
        refine K_seq ?_
        refine B_seq ?_
        refine B_draw [0, 1, 2, 3, 4, 5, 6, 8, 9, 10, 11, 7, 12, 13, 14, 15, 16, 17, 18] #[0, 1, 3, 7, 0, 0, 48, 112, 0, 0, 512, 1792, 4080, 8191, 16383, 32767, 32767, 65535, 262143] (by kernel_rfl) (by kernel_rfl) (by kernel_rfl) ?_
        have h1 : A.tmod (cvL m (rch pairs m)).length < (cvL m (rch pairs m)).length := Int.tmod_lt_of_pos A (by omega); have h2 : -((cvL m (rch pairs m)).length : Int) < A.tmod (cvL m (rch pairs m)).length := Int.lt_tmod_of_pos A (by omega)
        first
          | (have hk : 0 ≤ A.tmod (cvL m (rch pairs m)).length + (cvL m (rch pairs m)).length ∧ A.tmod (cvL m (rch pairs m)).length + (cvL m (rch pairs m)).length < (cvL m (rch pairs m)).length := by omega); generalize A.tmod (cvL m (rch pairs m)).length + (cvL m (rch pairs m)).length = kk at hk ⊢
          | (have hk : 0 ≤ A.tmod (cvL m (rch pairs m)).length ∧ A.tmod (cvL m (rch pairs m)).length < (cvL m (rch pairs m)).length := by omega); generalize A.tmod (cvL m (rch pairs m)).length = kk at hk ⊢
        obtain ⟨k, rfl⟩ : ∃ k : Nat, kk = k := ⟨kk.toNat, by omega⟩
        have hk : k < (cvL m (rch pairs m)).length := by omega
        have hsub : ∀ p, p ∈ (cvL m (rch pairs m)).take k ++ (cvL m (rch pairs m)).drop (k + 1) → p ∈ cvL m (rch pairs m) := fun p h => by
          rcases List.mem_append.1 h with h | h
          · exact List.mem_of_mem_take h
          · exact List.mem_of_mem_drop h
        have hn2 := ord_newS ho hsub
        have o2 := ho.subOrd hsub
        refine O_op (env' := uS10n110) (c := .calm) rfl rfl rfl (v_move (.inl rfl) rfl) rfl rfl rfl ?_
        refine O_op (env' := uS10n110) (c := .calm) rfl rfl rfl (rfl) rfl rfl rfl ?_
        refine O_op (env' := uS10n110) (c := .calm) rfl rfl rfl (rfl) rfl rfl rfl ?_
        refine O_opI (env' := uS10n110) (x := .look _ _) rfl rfl rfl (by first | exact v_loadF rfl rfl rfl rfl (by first | exact pair_c0 (by omega) | exact pair_c1 (by omega) | rfl | assumption | exact fget (α := Int) 0 (by omega)) | exact v_load rfl rfl rfl rfl (by first | exact get_app rfl rfl | exact get_out (by assumption) | assumption | (simp [*]; done)) (by first | exact pair_c0 (by omega) | exact pair_c1 (by omega) | rfl | assumption | exact fget (α := Int) 0 (by omega))) rfl rfl rfl ?_
        refine O_op (env' := uS10n110) (c := .calm) rfl rfl rfl (v_move (.inl rfl) rfl) rfl rfl rfl ?_
        refine O_op (env' := uS10n110) (c := .calm) rfl rfl rfl (v_move (.inl rfl) rfl) rfl rfl rfl ?_
        refine O_op (env' := uS10n110) (c := .calm) rfl rfl rfl (v_pairsHi rfl rfl rfl rfl rfl rfl rfl (by omega)) rfl rfl rfl ?_
        refine O_op (env' := uS10n110) (c := .calm) rfl rfl rfl (v_move (.inl rfl) rfl) rfl rfl rfl ?_
        refine O_op (env' := uS10n110) (c := .calm) rfl rfl rfl (v_move (.inl rfl) rfl) rfl rfl rfl ?_
        refine O_op (env' := uS10n110) (c := .calm) rfl rfl rfl (v_addI rfl rfl rfl (by first | assumption | omega | (simp [*]; done) | (simp at *; omega))) rfl rfl rfl ?_
        refine O_op (env' := uS10n110) (c := .calm) rfl rfl rfl (v_pairsLo (k := k + 1) rfl rfl rfl rfl rfl rfl rfl (by omega)) rfl rfl rfl ?_
        refine O_call (env' := uS10n110) rfl rfl rfl rfl rfl (by exact twinP2_spec _ _ _ (by rw [List.length_take]; omega)) (by first | exact Nat.le_refl _ | simp) rfl rfl ?_
        refine O_opXI (fun _ G => .turn _ G) rfl rfl rfl (v_appO rfl rfl rfl rfl rfl rfl get_last (flatP_len _) rfl (flatP_len _) (flatP_one _) (by decide) (by rw [List.length_take, List.length_drop]; show (_ + _) * 16 ≤ _ ∧ _ + _ ≤ _; omega)) (fun _ _ => rfl) ?_
        rintro _ _ ⟨Z, i, c, ex, rfl, rfl, hc, hZ⟩
        refine O_env (env' := uS10n110) rfl ?_
        refine O_call (env' := uS10n110) rfl rfl rfl rfl rfl (by exact New_mut _ _ _ _ (by rw [List.flatMap_append]; exact hZ) (by rw [List.length_append]) hc (by rw [List.length_append, List.length_take, List.length_drop]; omega) hn2) (by first | exact Nat.le_refl _ | simp) rfl rfl ?_
        refine O_op (env' := uS10n110) (c := .calm) rfl rfl rfl (v_move (.inl rfl) rfl) rfl rfl rfl ?_
        refine O_op (env' := uS10n110) (c := .calm) rfl rfl rfl (rfl) rfl rfl rfl ?_
        refine O_op (env' := uS10n110) (c := .calm) rfl rfl rfl (rfl) rfl rfl rfl ?_
        refine O_op (env' := uS10n110) (c := .calm) rfl rfl rfl (v_move (.inr rfl) rfl) rfl rfl rfl ?_
        refine O_op (env' := uS10n110) (c := .calm) rfl rfl rfl (v_move (.inr rfl) rfl) rfl rfl rfl ?_
        refine O_nil [_, _] (by rfl) (And.intro (And.intro (by first | exact v_loadF rfl rfl rfl rfl (by first | exact pair_c0 (by omega) | exact pair_c1 (by omega) | rfl | assumption | exact fget (α := Int) 0 (by omega)) | exact v_load rfl rfl rfl rfl (by first | exact get_app rfl rfl | exact get_out (by assumption) | assumption | (simp [*]; done)) (by first | exact pair_c0 (by omega) | exact pair_c1 (by omega) | rfl | assumption | exact fget (α := Int) 0 (by omega))) (by first | exact v_loadF rfl rfl rfl rfl (by first | exact pair_c0 (by omega) | exact pair_c1 (by omega) | rfl | assumption | exact fget (α := Int) 0 (by omega)) | exact v_load rfl rfl rfl rfl (by first | exact get_app rfl rfl | exact get_out (by assumption) | assumption | (simp [*]; done)) (by first | exact pair_c0 (by omega) | exact pair_c1 (by omega) | rfl | assumption | exact fget (α := Int) 0 (by omega)))) (And.intro (And.intro (by first | exact v_loadF rfl rfl rfl rfl (by first | exact pair_c0 (by omega) | exact pair_c1 (by omega) | rfl | assumption | exact fget (α := Int) 0 (by omega)) | exact v_load rfl rfl rfl rfl (by first | exact get_app rfl rfl | exact get_out (by assumption) | assumption | (simp [*]; done)) (by first | exact pair_c0 (by omega) | exact pair_c1 (by omega) | rfl | assumption | exact fget (α := Int) 0 (by omega))) (by first | exact v_loadF rfl rfl rfl rfl (by first | exact pair_c0 (by omega) | exact pair_c1 (by omega) | rfl | assumption | exact fget (α := Int) 0 (by omega)) | exact v_load rfl rfl rfl rfl (by first | exact get_app rfl rfl | exact get_out (by assumption) | assumption | (simp [*]; done)) (by first | exact pair_c0 (by omega) | exact pair_c1 (by omega) | rfl | assumption | exact fget (α := Int) 0 (by omega)))) trivial)) ?_
        refine K_seq ?_
        refine B_seq ?_
        refine B_draw [0, 1, 2, 3, 4, 5, 6, 7, 8, 9, 10, 11, 12, 13, 14, 15, 16, 17, 18, 19, 20, 21] #[0, 1, 3, 7, 15, 31, 63, 127, 127, 127, 895, 1919, 3967, 127, 127, 24703, 57471, 123007, 262143, 524287, 1048575, 2097151] (by kernel_rfl) (by kernel_rfl) (by kernel_rfl) ?_
        refine O_op (env' := uS10n110) (c := .calm) rfl rfl rfl (v_move (.inl rfl) rfl) rfl rfl rfl ?_
        refine O_op (env' := uS10n110) (c := .calm) rfl rfl rfl (rfl) rfl rfl rfl ?_
        refine O_op (env' := uS10n110) (c := .calm) rfl rfl rfl (v_move (.inl rfl) rfl) rfl rfl rfl ?_
        refine O_op (env' := uS10n110) (c := .calm) rfl rfl rfl (v_move (.inl rfl) rfl) rfl rfl rfl ?_
        refine O_op (env' := uS10n110) (c := .calm) rfl rfl rfl (rfl) rfl rfl rfl ?_
        refine O_op (env' := uS10n110) (c := .calm) rfl rfl rfl (v_pickT rfl rfl rfl) rfl rfl rfl ?_
        refine O_op (env' := uS10n110) (c := .calm) rfl rfl rfl (v_move (.inl rfl) rfl) rfl rfl rfl ?_
        refine O_op (env' := uS10n110) (c := .calm) rfl rfl rfl (v_move (.inl rfl) rfl) rfl rfl rfl ?_
        refine O_op (env' := uS10n110) (c := .calm) rfl rfl rfl (v_move (.inl rfl) rfl) rfl rfl rfl ?_
        refine O_op (env' := uS10n110) (c := .calm) rfl rfl rfl (v_move (.inl rfl) rfl) rfl rfl rfl ?_
        refine O_op (env' := uS10n110) (c := .calm) rfl rfl rfl (by first | exact v_idxF rfl rfl rfl rfl rfl rfl rfl (by first | assumption | omega | (simp [*]; done) | (simp at *; omega)) | exact v_idx rfl rfl rfl rfl rfl rfl rfl (by first | assumption | omega | (simp [*]; done) | (simp at *; omega))) rfl rfl rfl ?_
        refine O_op (env' := uS10n110) (c := .calm) rfl rfl rfl (by first | exact v_idxFA rfl rfl rfl rfl rfl rfl (by first | assumption | omega | (simp [*]; done) | (simp at *; omega)) | exact v_idxA rfl rfl rfl rfl rfl rfl (by first | assumption | omega | (simp [*]; done) | (simp at *; omega))) rfl rfl rfl ?_
        refine O_op (env' := uS10n110) (c := .look) rfl rfl rfl (by first | exact v_loadF rfl rfl rfl rfl (by first | exact pair_c0 (by omega) | exact pair_c1 (by omega) | rfl | assumption | exact fget (α := Int) 0 (by omega)) | exact v_load rfl rfl rfl rfl (by first | exact get_app rfl rfl | exact get_out (by assumption) | assumption | (simp [*]; done)) (by first | exact pair_c0 (by omega) | exact pair_c1 (by omega) | rfl | assumption | exact fget (α := Int) 0 (by omega))) rfl rfl rfl ?_
        refine O_op (env' := uS10n110) (c := .calm) rfl rfl rfl (v_move (.inl rfl) rfl) rfl rfl rfl ?_
        refine O_op (env' := uS10n110) (c := .calm) rfl rfl rfl (v_move (.inl rfl) rfl) rfl rfl rfl ?_
        refine O_op (env' := uS10n110) (c := .calm) rfl rfl rfl (by first | exact v_idxF rfl rfl rfl rfl rfl rfl rfl (by first | assumption | omega | (simp [*]; done) | (simp at *; omega)) | exact v_idx rfl rfl rfl rfl rfl rfl rfl (by first | assumption | omega | (simp [*]; done) | (simp at *; omega))) rfl rfl rfl ?_
        refine O_op (env' := uS10n110) (c := .calm) rfl rfl rfl (by first | exact v_idxFA rfl rfl rfl rfl rfl rfl (by first | assumption | omega | (simp [*]; done) | (simp at *; omega)) | exact v_idxA rfl rfl rfl rfl rfl rfl (by first | assumption | omega | (simp [*]; done) | (simp at *; omega))) rfl rfl rfl ?_
        refine O_op (env' := uS10n110) (c := .look) rfl rfl rfl (by first | exact v_loadF rfl rfl rfl rfl (by first | exact pair_c0 (by omega) | exact pair_c1 (by omega) | rfl | assumption | exact fget (α := Int) 0 (by omega)) | exact v_load rfl rfl rfl rfl (by first | exact get_app rfl rfl | exact get_out (by assumption) | assumption | (simp [*]; done)) (by first | exact pair_c0 (by omega) | exact pair_c1 (by omega) | rfl | assumption | exact fget (α := Int) 0 (by omega))) rfl rfl rfl ?_
        refine O_call (env' := uS10n110) rfl rfl rfl rfl rfl (by exact Before_at _ o2 _ _) (by first | exact Nat.le_refl _ | simp) rfl rfl ?_
        refine O_op (env' := uS10n110) (c := .calm) rfl rfl rfl (rfl) rfl rfl rfl ?_
        refine O_op (env' := uS10n110) (c := .calm) rfl rfl rfl (v_pickT rfl rfl rfl) rfl rfl rfl ?_
        refine O_op (env' := uS10n110) (c := .calm) rfl rfl rfl (v_move (.inr rfl) rfl) rfl rfl rfl ?_
        refine O_nil [] (by kernel_rfl) (trivial) ?_
        refine K_seq ?_
        refine B_ret ?_
        refine E_app (.inr rfl) (vres_tmp rfl rfl) (by first | exact BaseOk.refl _ | exact BaseOk.set (BaseOk.refl _) _ rfl) (by simp [VVal.underL, VVal.under, VBlk.under, rows_under, fz_under, rows_under, fz_underI, fzP_under, under_mapW, under_mapI, under_flatP, under_repW, *]) ?_
        obtain ⟨a1, b1, hab, _⟩ := mem_cv.1 (show (cvL m (rch pairs m)).getD k (0, 0) ∈ cvL m (rch pairs m) by rw [List.getD_eq_getElem?_getD, List.getElem?_eq_getElem hk]; exact List.getElem_mem hk)
        have hless := ho.less hk hab
        refine ⟨?_, rfl⟩
        have hb : bfr m (rch ((cvL m (rch pairs m)).take k ++ (cvL m (rch pairs m)).drop (k + 1)) m) ((cvL m (rch pairs m)).getD (k : Int).toNat (0, 0)).1 ((cvL m (rch pairs m)).getD (k : Int).toNat (0, 0)).2 = false := by
          rw [show (cvL m (rch pairs m)).getD (k : Int).toNat (0, 0) = ((a1 : Int), (b1 : Int)) from hab]
          unfold bfr
          rw [Int.toNat_natCast, Int.toNat_natCast, hless, Bool.and_false, Bool.and_false]
        rw [hb]; rfl
      · try simp only [decide_eq_true_eq, decide_eq_false_iff_not, Bool.not_eq_true', Bool.not_eq_false', bne_iff_ne, beq_iff_eq, Bool.and_eq_true, Bool.or_eq_true, Bool.not_eq_true, ge_iff_le, gt_iff_lt, Int.not_le, Int.not_lt, beq_eq_false_iff_ne, bne_eq_false_iff_eq, ne_eq, Decidable.not_not, wd_zero, wd_one, wd_inj] at hc3
        refine B_skip ?_
        refine K_seq ?_
        refine B_seq ?_
        refine B_draw [0, 1, 2, 3, 4, 5, 6, 8, 9, 10, 11, 7, 12, 13, 14, 15, 16, 17, 18] #[0, 1, 3, 7, 0, 0, 48, 112, 0, 0, 512, 1792, 4080, 8191, 16383, 32767, 32767, 65535, 262143] (by kernel_rfl) (by kernel_rfl) (by kernel_rfl) ?_
        have h1 : A.tmod (cvL m (rch pairs m)).length < (cvL m (rch pairs m)).length := Int.tmod_lt_of_pos A (by omega); have h2 : -((cvL m (rch pairs m)).length : Int) < A.tmod (cvL m (rch pairs m)).length := Int.lt_tmod_of_pos A (by omega)
        first
          | (have hk : 0 ≤ A.tmod (cvL m (rch pairs m)).length + (cvL m (rch pairs m)).length ∧ A.tmod (cvL m (rch pairs m)).length + (cvL m (rch pairs m)).length < (cvL m (rch pairs m)).length := by omega); generalize A.tmod (cvL m (rch pairs m)).length + (cvL m (rch pairs m)).length = kk at hk ⊢
          | (have hk : 0 ≤ A.tmod (cvL m (rch pairs m)).length ∧ A.tmod (cvL m (rch pairs m)).length < (cvL m (rch pairs m)).length := by omega); generalize A.tmod (cvL m (rch pairs m)).length = kk at hk ⊢
        obtain ⟨k, rfl⟩ : ∃ k : Nat, kk = k := ⟨kk.toNat, by omega⟩
        have hk : k < (cvL m (rch pairs m)).length := by omega
        have hsub : ∀ p, p ∈ (cvL m (rch pairs m)).take k ++ (cvL m (rch pairs m)).drop (k + 1) → p ∈ cvL m (rch pairs m) := fun p h => by
          rcases List.mem_append.1 h with h | h
          · exact List.mem_of_mem_take h
          · exact List.mem_of_mem_drop h
        have hn2 := ord_newS ho hsub
        have o2 := ho.subOrd hsub
        refine O_op (env' := uS10n110) (c := .calm) rfl rfl rfl (v_move (.inl rfl) rfl) rfl rfl rfl ?_
        refine O_op (env' := uS10n110) (c := .calm) rfl rfl rfl (rfl) rfl rfl rfl ?_
        refine O_op (env' := uS10n110) (c := .calm) rfl rfl rfl (rfl) rfl rfl rfl ?_
        refine O_opI (env' := uS10n110) (x := .look _ _) rfl rfl rfl (by first | exact v_loadF rfl rfl rfl rfl (by first | exact pair_c0 (by omega) | exact pair_c1 (by omega) | rfl | assumption | exact fget (α := Int) 0 (by omega)) | exact v_load rfl rfl rfl rfl (by first | exact get_app rfl rfl | exact get_out (by assumption) | assumption | (simp [*]; done)) (by first | exact pair_c0 (by omega) | exact pair_c1 (by omega) | rfl | assumption | exact fget (α := Int) 0 (by omega))) rfl rfl rfl ?_
        refine O_op (env' := uS10n110) (c := .calm) rfl rfl rfl (v_move (.inl rfl) rfl) rfl rfl rfl ?_
        refine O_op (env' := uS10n110) (c := .calm) rfl rfl rfl (v_move (.inl rfl) rfl) rfl rfl rfl ?_
        refine O_op (env' := uS10n110) (c := .calm) rfl rfl rfl (v_pairsHi rfl rfl rfl rfl rfl rfl rfl (by omega)) rfl rfl rfl ?_
        refine O_op (env' := uS10n110) (c := .calm) rfl rfl rfl (v_move (.inl rfl) rfl) rfl rfl rfl ?_
        refine O_op (env' := uS10n110) (c := .calm) rfl rfl rfl (v_move (.inl rfl) rfl) rfl rfl rfl ?_
        refine O_op (env' := uS10n110) (c := .calm) rfl rfl rfl (v_addI rfl rfl rfl (by first | assumption | omega | (simp [*]; done) | (simp at *; omega))) rfl rfl rfl ?_
        refine O_op (env' := uS10n110) (c := .calm) rfl rfl rfl (v_pairsLo (k := k + 1) rfl rfl rfl rfl rfl rfl rfl (by omega)) rfl rfl rfl ?_
        refine O_call (env' := uS10n110) rfl rfl rfl rfl rfl (by exact twinP2_spec _ _ _ (by rw [List.length_take]; omega)) (by first | exact Nat.le_refl _ | simp) rfl rfl ?_
        refine O_opXI (fun _ G => .turn _ G) rfl rfl rfl (v_appO rfl rfl rfl rfl rfl rfl get_last (flatP_len _) rfl (flatP_len _) (flatP_one _) (by decide) (by rw [List.length_take, List.length_drop]; show (_ + _) * 16 ≤ _ ∧ _ + _ ≤ _; omega)) (fun _ _ => rfl) ?_
        rintro _ _ ⟨Z, i, c, ex, rfl, rfl, hc, hZ⟩
        refine O_env (env' := uS10n110) rfl ?_
        refine O_call (env' := uS10n110) rfl rfl rfl rfl rfl (by exact New_mut _ _ _ _ (by rw [List.flatMap_append]; exact hZ) (by rw [List.length_append]) hc (by rw [List.length_append, List.length_take, List.length_drop]; omega) hn2) (by first | exact Nat.le_refl _ | simp) rfl rfl ?_
        refine O_op (env' := uS10n110) (c := .calm) rfl rfl rfl (v_move (.inl rfl) rfl) rfl rfl rfl ?_
        refine O_op (env' := uS10n110) (c := .calm) rfl rfl rfl (rfl) rfl rfl rfl ?_
        refine O_op (env' := uS10n110) (c := .calm) rfl rfl rfl (rfl) rfl rfl rfl ?_
        refine O_op (env' := uS10n110) (c := .calm) rfl rfl rfl (v_move (.inr rfl) rfl) rfl rfl rfl ?_
        refine O_op (env' := uS10n110) (c := .calm) rfl rfl rfl (v_move (.inr rfl) rfl) rfl rfl rfl ?_
        refine O_nil [_, _] (by rfl) (And.intro (And.intro (by first | exact v_loadF rfl rfl rfl rfl (by first | exact pair_c0 (by omega) | exact pair_c1 (by omega) | rfl | assumption | exact fget (α := Int) 0 (by omega)) | exact v_load rfl rfl rfl rfl (by first | exact get_app rfl rfl | exact get_out (by assumption) | assumption | (simp [*]; done)) (by first | exact pair_c0 (by omega) | exact pair_c1 (by omega) | rfl | assumption | exact fget (α := Int) 0 (by omega))) (by first | exact v_loadF rfl rfl rfl rfl (by first | exact pair_c0 (by omega) | exact pair_c1 (by omega) | rfl | assumption | exact fget (α := Int) 0 (by omega)) | exact v_load rfl rfl rfl rfl (by first | exact get_app rfl rfl | exact get_out (by assumption) | assumption | (simp [*]; done)) (by first | exact pair_c0 (by omega) | exact pair_c1 (by omega) | rfl | assumption | exact fget (α := Int) 0 (by omega)))) (And.intro (And.intro (by first | exact v_loadF rfl rfl rfl rfl (by first | exact pair_c0 (by omega) | exact pair_c1 (by omega) | rfl | assumption | exact fget (α := Int) 0 (by omega)) | exact v_load rfl rfl rfl rfl (by first | exact get_app rfl rfl | exact get_out (by assumption) | assumption | (simp [*]; done)) (by first | exact pair_c0 (by omega) | exact pair_c1 (by omega) | rfl | assumption | exact fget (α := Int) 0 (by omega))) (by first | exact v_loadF rfl rfl rfl rfl (by first | exact pair_c0 (by omega) | exact pair_c1 (by omega) | rfl | assumption | exact fget (α := Int) 0 (by omega)) | exact v_load rfl rfl rfl rfl (by first | exact get_app rfl rfl | exact get_out (by assumption) | assumption | (simp [*]; done)) (by first | exact pair_c0 (by omega) | exact pair_c1 (by omega) | rfl | assumption | exact fget (α := Int) 0 (by omega)))) trivial)) ?_
        refine K_seq ?_
        refine B_seq ?_
        refine B_draw [0, 1, 2, 3, 4, 5, 6, 7, 8, 9, 10, 11, 12, 13, 14, 15, 16, 17, 18, 19, 20, 21] #[0, 1, 3, 7, 15, 31, 63, 127, 127, 127, 895, 1919, 3967, 127, 127, 24703, 57471, 123007, 262143, 524287, 1048575, 2097151] (by kernel_rfl) (by kernel_rfl) (by kernel_rfl) ?_
        refine O_op (env' := uS10n110) (c := .calm) rfl rfl rfl (v_move (.inl rfl) rfl) rfl rfl rfl ?_
        refine O_op (env' := uS10n110) (c := .calm) rfl rfl rfl (rfl) rfl rfl rfl ?_
        refine O_op (env' := uS10n110) (c := .calm) rfl rfl rfl (v_move (.inl rfl) rfl) rfl rfl rfl ?_
        refine O_op (env' := uS10n110) (c := .calm) rfl rfl rfl (v_move (.inl rfl) rfl) rfl rfl rfl ?_
        refine O_op (env' := uS10n110) (c := .calm) rfl rfl rfl (rfl) rfl rfl rfl ?_
        refine O_op (env' := uS10n110) (c := .calm) rfl rfl rfl (v_pickT rfl rfl rfl) rfl rfl rfl ?_
        refine O_op (env' := uS10n110) (c := .calm) rfl rfl rfl (v_move (.inl rfl) rfl) rfl rfl rfl ?_
        refine O_op (env' := uS10n110) (c := .calm) rfl rfl rfl (v_move (.inl rfl) rfl) rfl rfl rfl ?_
        refine O_op (env' := uS10n110) (c := .calm) rfl rfl rfl (v_move (.inl rfl) rfl) rfl rfl rfl ?_
        refine O_op (env' := uS10n110) (c := .calm) rfl rfl rfl (v_move (.inl rfl) rfl) rfl rfl rfl ?_
        refine O_op (env' := uS10n110) (c := .calm) rfl rfl rfl (by first | exact v_idxF rfl rfl rfl rfl rfl rfl rfl (by first | assumption | omega | (simp [*]; done) | (simp at *; omega)) | exact v_idx rfl rfl rfl rfl rfl rfl rfl (by first | assumption | omega | (simp [*]; done) | (simp at *; omega))) rfl rfl rfl ?_
        refine O_op (env' := uS10n110) (c := .calm) rfl rfl rfl (by first | exact v_idxFA rfl rfl rfl rfl rfl rfl (by first | assumption | omega | (simp [*]; done) | (simp at *; omega)) | exact v_idxA rfl rfl rfl rfl rfl rfl (by first | assumption | omega | (simp [*]; done) | (simp at *; omega))) rfl rfl rfl ?_
        refine O_op (env' := uS10n110) (c := .look) rfl rfl rfl (by first | exact v_loadF rfl rfl rfl rfl (by first | exact pair_c0 (by omega) | exact pair_c1 (by omega) | rfl | assumption | exact fget (α := Int) 0 (by omega)) | exact v_load rfl rfl rfl rfl (by first | exact get_app rfl rfl | exact get_out (by assumption) | assumption | (simp [*]; done)) (by first | exact pair_c0 (by omega) | exact pair_c1 (by omega) | rfl | assumption | exact fget (α := Int) 0 (by omega))) rfl rfl rfl ?_
        refine O_op (env' := uS10n110) (c := .calm) rfl rfl rfl (v_move (.inl rfl) rfl) rfl rfl rfl ?_
        refine O_op (env' := uS10n110) (c := .calm) rfl rfl rfl (v_move (.inl rfl) rfl) rfl rfl rfl ?_
        refine O_op (env' := uS10n110) (c := .calm) rfl rfl rfl (by first | exact v_idxF rfl rfl rfl rfl rfl rfl rfl (by first | assumption | omega | (simp [*]; done) | (simp at *; omega)) | exact v_idx rfl rfl rfl rfl rfl rfl rfl (by first | assumption | omega | (simp [*]; done) | (simp at *; omega))) rfl rfl rfl ?_
        refine O_op (env' := uS10n110) (c := .calm) rfl rfl rfl (by first | exact v_idxFA rfl rfl rfl rfl rfl rfl (by first | assumption | omega | (simp [*]; done) | (simp at *; omega)) | exact v_idxA rfl rfl rfl rfl rfl rfl (by first | assumption | omega | (simp [*]; done) | (simp at *; omega))) rfl rfl rfl ?_
        refine O_op (env' := uS10n110) (c := .look) rfl rfl rfl (by first | exact v_loadF rfl rfl rfl rfl (by first | exact pair_c0 (by omega) | exact pair_c1 (by omega) | rfl | assumption | exact fget (α := Int) 0 (by omega)) | exact v_load rfl rfl rfl rfl (by first | exact get_app rfl rfl | exact get_out (by assumption) | assumption | (simp [*]; done)) (by first | exact pair_c0 (by omega) | exact pair_c1 (by omega) | rfl | assumption | exact fget (α := Int) 0 (by omega))) rfl rfl rfl ?_
        refine O_call (env' := uS10n110) rfl rfl rfl rfl rfl (by exact Before_at _ o2 _ _) (by first | exact Nat.le_refl _ | simp) rfl rfl ?_
        refine O_op (env' := uS10n110) (c := .calm) rfl rfl rfl (rfl) rfl rfl rfl ?_
        refine O_op (env' := uS10n110) (c := .calm) rfl rfl rfl (v_pickT rfl rfl rfl) rfl rfl rfl ?_
        refine O_op (env' := uS10n110) (c := .calm) rfl rfl rfl (v_move (.inr rfl) rfl) rfl rfl rfl ?_
        refine O_nil [] (by kernel_rfl) (trivial) ?_
        refine K_seq ?_
        refine B_ret ?_
        refine E_app (.inr rfl) (vres_tmp rfl rfl) (by first | exact BaseOk.refl _ | exact BaseOk.set (BaseOk.refl _) _ rfl) (by simp [VVal.underL, VVal.under, VBlk.under, rows_under, fz_under, rows_under, fz_underI, fzP_under, under_mapW, under_mapI, under_flatP, under_repW, *]) ?_
        obtain ⟨a1, b1, hab, _⟩ := mem_cv.1 (show (cvL m (rch pairs m)).getD k (0, 0) ∈ cvL m (rch pairs m) by rw [List.getD_eq_getElem?_getD, List.getElem?_eq_getElem hk]; exact List.getElem_mem hk)
        have hless := ho.less hk hab
        refine ⟨?_, rfl⟩
        have hb : bfr m (rch ((cvL m (rch pairs m)).take k ++ (cvL m (rch pairs m)).drop (k + 1)) m) ((cvL m (rch pairs m)).getD (k : Int).toNat (0, 0)).1 ((cvL m (rch pairs m)).getD (k : Int).toNat (0, 0)).2 = false := by
          rw [show (cvL m (rch pairs m)).getD (k : Int).toNat (0, 0) = ((a1 : Int), (b1 : Int)) from hab]
          unfold bfr
          rw [Int.toNat_natCast, Int.toNat_natCast, hless, Bool.and_false, Bool.and_false]
        rw [hb]; rfl
end Go.Proofs.YteocbhgdmpdklaaDoor.VT
