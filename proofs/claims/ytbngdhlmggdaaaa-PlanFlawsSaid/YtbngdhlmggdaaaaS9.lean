/- flaws: walks -/
import Derived.Test.YtbngdhlmggdaaaaS7
import Derived.Test.YtbngdhlmggdaaaaS8
set_option autoImplicit false
set_option linter.unusedVariables false
set_option linter.unusedSimpArgs false
set_option maxHeartbeats 4000000
set_option maxRecDepth 100000
namespace Go.Proofs.Ytbngdhlmggdaaaa.VT
open Go Go.V Go.RowKit

abbrev uS9n26 {a0 a1 a2 a3 a4 a5 a6 a7 a8 a9 a10 a11 a12 a13 a14 a15 a16 a17 a18 a19 a20 a21 a22 a23 a24 a25 : VVal} : VEnv := a0 :: a1 :: a2 :: a3 :: a4 :: a5 :: a6 :: a7 :: a8 :: a9 :: a10 :: a11 :: a12 :: a13 :: a14 :: a15 :: a16 :: a17 :: a18 :: a19 :: a20 :: a21 :: a22 :: a23 :: a24 :: a25 :: []
abbrev uS9n100 {a0 a1 a2 a3 a4 a5 a6 a7 a8 a9 a10 a11 a12 a13 a14 a15 a16 a17 a18 a19 a20 a21 a22 a23 a24 a25 a26 a27 a28 a29 a30 a31 a32 a33 a34 a35 a36 a37 a38 a39 a40 a41 a42 a43 a44 a45 a46 a47 a48 a49 a50 a51 a52 a53 a54 a55 a56 a57 a58 a59 a60 a61 a62 a63 a64 a65 a66 a67 a68 a69 a70 a71 a72 a73 a74 a75 a76 a77 a78 a79 a80 a81 a82 a83 a84 a85 a86 a87 a88 a89 a90 a91 a92 a93 a94 a95 a96 a97 a98 a99 : VVal} : VEnv := a0 :: a1 :: a2 :: a3 :: a4 :: a5 :: a6 :: a7 :: a8 :: a9 :: a10 :: a11 :: a12 :: a13 :: a14 :: a15 :: a16 :: a17 :: a18 :: a19 :: a20 :: a21 :: a22 :: a23 :: a24 :: a25 :: a26 :: a27 :: a28 :: a29 :: a30 :: a31 :: a32 :: a33 :: a34 :: a35 :: a36 :: a37 :: a38 :: a39 :: a40 :: a41 :: a42 :: a43 :: a44 :: a45 :: a46 :: a47 :: a48 :: a49 :: a50 :: a51 :: a52 :: a53 :: a54 :: a55 :: a56 :: a57 :: a58 :: a59 :: a60 :: a61 :: a62 :: a63 :: a64 :: a65 :: a66 :: a67 :: a68 :: a69 :: a70 :: a71 :: a72 :: a73 :: a74 :: a75 :: a76 :: a77 :: a78 :: a79 :: a80 :: a81 :: a82 :: a83 :: a84 :: a85 :: a86 :: a87 :: a88 :: a89 :: a90 :: a91 :: a92 :: a93 :: a94 :: a95 :: a96 :: a97 :: a98 :: a99 :: []
abbrev uS9n114 {a0 a1 a2 a3 a4 a5 a6 a7 a8 a9 a10 a11 a12 a13 a14 a15 a16 a17 a18 a19 a20 a21 a22 a23 a24 a25 a26 a27 a28 a29 a30 a31 a32 a33 a34 a35 a36 a37 a38 a39 a40 a41 a42 a43 a44 a45 a46 a47 a48 a49 a50 a51 a52 a53 a54 a55 a56 a57 a58 a59 a60 a61 a62 a63 a64 a65 a66 a67 a68 a69 a70 a71 a72 a73 a74 a75 a76 a77 a78 a79 a80 a81 a82 a83 a84 a85 a86 a87 a88 a89 a90 a91 a92 a93 a94 a95 a96 a97 a98 a99 a100 a101 a102 a103 a104 a105 a106 a107 a108 a109 a110 a111 a112 a113 : VVal} : VEnv := a0 :: a1 :: a2 :: a3 :: a4 :: a5 :: a6 :: a7 :: a8 :: a9 :: a10 :: a11 :: a12 :: a13 :: a14 :: a15 :: a16 :: a17 :: a18 :: a19 :: a20 :: a21 :: a22 :: a23 :: a24 :: a25 :: a26 :: a27 :: a28 :: a29 :: a30 :: a31 :: a32 :: a33 :: a34 :: a35 :: a36 :: a37 :: a38 :: a39 :: a40 :: a41 :: a42 :: a43 :: a44 :: a45 :: a46 :: a47 :: a48 :: a49 :: a50 :: a51 :: a52 :: a53 :: a54 :: a55 :: a56 :: a57 :: a58 :: a59 :: a60 :: a61 :: a62 :: a63 :: a64 :: a65 :: a66 :: a67 :: a68 :: a69 :: a70 :: a71 :: a72 :: a73 :: a74 :: a75 :: a76 :: a77 :: a78 :: a79 :: a80 :: a81 :: a82 :: a83 :: a84 :: a85 :: a86 :: a87 :: a88 :: a89 :: a90 :: a91 :: a92 :: a93 :: a94 :: a95 :: a96 :: a97 :: a98 :: a99 :: a100 :: a101 :: a102 :: a103 :: a104 :: a105 :: a106 :: a107 :: a108 :: a109 :: a110 :: a111 :: a112 :: a113 :: []

theorem wS9n0 {T : TypeId → Option VTy} {H : VHeap} {op : Op} {ρ : Operand → VVal} {t : TypeId} {a : Operand} {y : VTy} {p : VVal} {n : Nat} {vs : List VVal} (ho : op = .load t a) (ha : ρ a = p) (hy : T t = some y) (hd : isAggDesc y.desc = true) (hn : y.size = n) (h : LdOkA H p n vs := by first | exact .inl ⟨_, _, rfl, by first | rfl | assumption | exact fgetN (α := BitVec 64) 0 (by omega) | exact fgetN (α := Int) 0 (by omega) | exact rul_at (by omega)⟩ | exact .inr ⟨_, _, _, _, rfl, by first | exact get_app rfl rfl | exact get_out (by assumption) | exact getE0 rfl rfl | exact get_out (get_app rfl rfl) | exact get_app rfl (by assumption) | assumption | (simp only [List.append_assoc, List.singleton_append, List.cons_append, List.nil_append]; refine getE (i := 0) rfl ?_ rfl; simp; done) | (simp only [List.append_assoc, List.singleton_append, List.cons_append, List.nil_append]; refine getE (i := 1) rfl ?_ rfl; simp; done) | (simp only [List.append_assoc, List.singleton_append, List.cons_append, List.nil_append]; refine getE (i := 2) rfl ?_ rfl; simp; done) | (simp only [List.append_assoc, List.singleton_append, List.cons_append, List.nil_append]; refine getE (i := 3) rfl ?_ rfl; simp; done) | (simp [*]; done), by first | rfl | assumption | exact fgetN (α := BitVec 64) 0 (by omega) | exact fgetN (α := Int) 0 (by omega) | exact rul_at (by omega)⟩) : vop T ρ H op = some (.agg vs, H) := v_ldA ho ha hy hd hn h
theorem wS9n1 {T : TypeId → Option VTy} {H : VHeap} {op : Op} {ρ : Operand → VVal} {t : TypeId} {a : Operand} {y : VTy} {p v : VVal} (ho : op = .load t a) (ha : ρ a = p) (hy : T t = some y) (hd : isAggDesc y.desc = false) (h : LdOk H p v := by first | exact .inl ⟨_, _, rfl, by first | rfl | assumption | exact fgetN (α := BitVec 64) 0 (by omega) | exact fgetN (α := Int) 0 (by omega) | exact rul_at (by omega)⟩ | exact .inr ⟨_, _, _, _, rfl, by first | exact get_app rfl rfl | exact get_out (by assumption) | exact getE0 rfl rfl | exact get_out (get_app rfl rfl) | exact get_app rfl (by assumption) | assumption | (simp only [List.append_assoc, List.singleton_append, List.cons_append, List.nil_append]; refine getE (i := 0) rfl ?_ rfl; simp; done) | (simp only [List.append_assoc, List.singleton_append, List.cons_append, List.nil_append]; refine getE (i := 1) rfl ?_ rfl; simp; done) | (simp only [List.append_assoc, List.singleton_append, List.cons_append, List.nil_append]; refine getE (i := 2) rfl ?_ rfl; simp; done) | (simp only [List.append_assoc, List.singleton_append, List.cons_append, List.nil_append]; refine getE (i := 3) rfl ?_ rfl; simp; done) | (simp [*]; done), by first | rfl | assumption | exact fgetN (α := BitVec 64) 0 (by omega) | exact fgetN (α := Int) 0 (by omega) | exact rul_at (by omega)⟩) : vop T ρ H op = some (v, H) := v_ld ho ha hy hd h
theorem wS9n2 {T : TypeId → Option VTy} {H : VHeap} {op : Op} {ρ : Operand → VVal} {t e : TypeId} {x i : Operand} {y z : VTy} {k : IntKind} {n : Int} {p v : VVal} {es : Nat} (ho : op = .indexAddr t x i) (hx : ρ x = p) (hi : ρ i = .int k n) (hy : T t = some y) (hd : y.desc = .slice e) (hz : T e = some z) (hs : z.size = es) (h : IxOk p es n v := by first | exact .inl ⟨_, _, _, rfl, by first | assumption | omega | (simp [*]; done) | (simp at *; omega), rfl⟩ | exact .inr ⟨_, _, _, _, _, rfl, by first | assumption | omega | (simp [*]; done) | (simp at *; omega), rfl⟩) : vop T ρ H op = some (v, H) := v_ix ho hx hi hy hd hz hs h
theorem wS9n3 {T : TypeId → Option VTy} {H : VHeap} {op : Op} {ρ : Operand → VVal} {t ty : TypeId} {x y : Operand} {n m : Int} (ho : op = .binOp .add t x y ty) (hx : ρ x = .int .i64 n) (hy : ρ y = .int .i64 m) (h : -9223372036854775808 ≤ n + m ∧ n + m < 9223372036854775808 := by first | assumption | omega | (simp [*]; done) | (simp at *; omega)) : vop T ρ H op = some (.int .i64 (n + m), H) := v_addI ho hx hy h
theorem wS9n4 {T : TypeId → Option VTy} {H : VHeap} {op : Op} {ρ : Operand → VVal} {t : TypeId} {a : Operand} {y : VTy} {p : VVal} {n : Nat} {vs : List VVal} (ho : op = .load t a) (ha : ρ a = p) (hy : T t = some y) (hd : isAggDesc y.desc = true) (hn : y.size = n) (h : LdOkA H p n vs := by first | exact .inl ⟨_, _, rfl, by first | rfl | exact fl_at (by omega)⟩ | exact .inr ⟨_, _, _, _, rfl, by first | exact get_app rfl rfl | exact get_out (by assumption) | exact getE0 rfl rfl | exact get_out (get_app rfl rfl) | exact get_app rfl (by assumption) | assumption | (simp only [List.append_assoc, List.singleton_append, List.cons_append, List.nil_append]; refine getE (i := 0) rfl ?_ rfl; simp; done) | (simp only [List.append_assoc, List.singleton_append, List.cons_append, List.nil_append]; refine getE (i := 1) rfl ?_ rfl; simp; done) | (simp only [List.append_assoc, List.singleton_append, List.cons_append, List.nil_append]; refine getE (i := 2) rfl ?_ rfl; simp; done) | (simp only [List.append_assoc, List.singleton_append, List.cons_append, List.nil_append]; refine getE (i := 3) rfl ?_ rfl; simp; done) | (simp [*]; done), by first | rfl | exact fl_at (by omega)⟩) : vop T ρ H op = some (.agg vs, H) := v_ldA ho ha hy hd hn h

/-! flaws -/
abbrev flB (x : Int × Int × Int) : List VVal := [iI x.1, iI x.2.1, iI x.2.2]
def fzF (l : List (Int × Int × Int)) : VVal := .fsl (l.flatMap flB) l.length 3 false
theorem fl_under {n : Nat} {l : List (Int × Int × Int)} : VVal.underL n (l.flatMap flB) = true := fm_under (f := flB) (fun a => rfl) l
theorem fzF_under {n : Nat} {l : List (Int × Int × Int)} : (fzF l).under n = true := fl_under
theorem fl_at {l : List (Int × Int × Int)} {k : Nat} (h : k < l.length) : cellsAt (l.flatMap flB) (((k : Nat) : Int).toNat * 3) 3 = some (flB (l.getD k (0, 0, 0))) := by
  rw [Int.toNat_natCast]; exact fm_nat (f := flB) (m := 3) (fun _ => rfl) l k (0, 0, 0) h
theorem flk_2 {u f x : Int} {w : BitVec 64} (h : x < 0 ∨ u ≤ x) : flk u f w x = 2 := if_pos h
theorem flk_3 {u f x : Int} {w : BitVec 64} (h : ¬ (x < 0 ∨ u ≤ x)) (h2 : 0 ≤ f) (h3 : ¬ f = x) : flk u f w x = 3 := by unfold flk; rw [if_neg h, if_pos ⟨h2, h3⟩]
theorem flk_4 {u f x : Int} {w : BitVec 64} (h : ¬ (x < 0 ∨ u ≤ x)) (h2 : f < 0) (h3 : w.getLsbD x.toNat = false) : flk u f w x = 4 := by unfold flk; rw [if_neg h, if_neg (by omega), if_pos ⟨h2, h3⟩]
theorem flk_0a {u f x : Int} {w : BitVec 64} (h : ¬ (x < 0 ∨ u ≤ x)) (h2 : 0 ≤ f) (h3 : f = x) : flk u f w x = 0 := by unfold flk; rw [if_neg h, if_neg (by omega), if_neg (by omega)]
theorem flk_0b {u f x : Int} {w : BitVec 64} (h : ¬ (x < 0 ∨ u ≤ x)) (h2 : f < 0) (h3 : w.getLsbD x.toNat = true) : flk u f w x = 0 := by unfold flk; rw [if_neg h, if_neg (by omega), if_neg (by rw [h3]; simp)]
theorem flU_no {p : Pb} {l : List Int} {n : Nat} (h : flk p.users (p.fixed.getD n 0) (p.who.getD n 0) (l.getD n 0) = 0) : flU p l (n + 1) = flU p l n := by rw [flU_succ, if_pos h, List.append_nil]
theorem flU_yes {p : Pb} {l : List Int} {n : Nat} {k : Int} (h : flk p.users (p.fixed.getD n 0) (p.who.getD n 0) (l.getD n 0) = k) (hk : ¬ k = 0) : flU p l (n + 1) = flU p l n ++ [(k, (n : Int), 0)] := by rw [flU_succ, h, if_neg hk]
theorem flR_step {b : List Int} {j : Nat} (h : j < b.length) : flR (b.take (j + 1)) = flR (b.take j) ++ [(5, 0, b.getD j 0)] := by rw [take_at (d := 0) h]; unfold flR; rw [List.map_append]; rfl
theorem flw_len {p : Pb} {l : List Int} (h : ¬ l.length = p.who.length) : flw p l = [(1, 0, 0)] := if_pos h
theorem flw_in {p : Pb} {l : List Int} (h : l.length = p.who.length) : flw p l = flU p l l.length ++ flR (brk p.rules l) := if_neg (by simpa using h)
theorem flR_len {b : List Int} : (flR b).length = b.length := List.length_map _
theorem LV.pushL {h : Nat} {X : VHeap} {v : VVal} {l m : List (Int × Int × Int)} {a b c : Int} (r : LV h 3 X v (l.flatMap flB ++ [iI a, iI b, iI c]) (l.length + 1)) (e : m = l ++ [(a, b, c)]) : LV h 3 X v (m.flatMap flB) m.length := by subst e; exact LV.pushF r
section
variable {T : TypeId → Option VTy} {ρ : Operand → VVal} {H : VHeap} {op : Op}
theorem v_neF {t ty : TypeId} {x y : Operand} {fs : Array Field} {i : VTy} {a : Int × Int × Int} (ho : op = .binOp .neq t x y ty) (hx : ρ x = .agg (flB a)) (hy : ρ y = .agg (flB a)) (hT : T t = some i) (hd : i.desc = .struct fs) (hf : i.flat = true) (hs : i.size = 3) : vop T ρ H op = some (.bool false, H) := by
  rw [ho]; simp [vop, vbin, hx, hy, veq, hT, hd, hf, hs, flatEq]
end
def flA (p : Pb) (us : List Int) : List (Int × Int × Int) := if pck p = 0 then flw p us else []
theorem flA_0 {p : Pb} {us : List Int} (h : pck p = 0) : flA p us = flw p us := if_pos h
theorem flA_1 {p : Pb} {us : List Int} (h : ¬ pck p = 0) : flA p us = [] := if_neg h
theorem app_flR {l : List (Int × Int × Int)} {b : List Int} {j : Nat} (h : j < b.length) : l ++ flR (b.take (j + 1)) = l ++ flR (b.take j) ++ [(5, 0, b.getD j 0)] := by rw [flR_step h, List.append_assoc]

theorem Flaws_spec {x : SW} (H : VHeap) (p : Pb) (us : List Int) (hp : PbL p) (hu : us.length ≤ 1000000) : F (psys x) 9 [.agg (pbB p), fzI us] H fun v G => v = .tuple [fzF (flA p us), iI (pck p)] ∧ G = H := by
 have hp1 := hp.u; have hp2 := hp.w; have hp3 := hp.f; have hp4 := hp.r
 refine F_body Try.func9 rfl uS9n100 rfl ?_
 refine B_seq (B_region ?_)
 refine L_op (env' := uS9n100) rfl rfl (v_boxT rfl rfl rfl) rfl ?_
 refine L_op (env' := uS9n100) rfl rfl (v_const (VVal.slice none 0 0 true 0) (.inr rfl) rfl) rfl ?_
 refine L_op (env' := uS9n100) rfl rfl (v_const (VVal.int .i64 0) (.inr rfl) rfl) rfl ?_
 refine L_nil (K_seq (B_seq (B_seq (B_region ?_))))
 refine L_op (env' := uS9n100) rfl rfl (wS9n0 rfl rfl rfl rfl rfl) rfl ?_
 refine L_call rfl rfl rfl (by exact sCheck_spec _ _ hp) ?_
 rintro _ _ ⟨rfl, rfl⟩
 refine L_env (env' := uS9n100) rfl ?_
 refine L_op (env' := uS9n100) rfl rfl (v_move (.inr rfl) rfl) rfl ?_
 refine L_nil (K_seq (B_seq (B_region ?_)))
 refine L_op (env' := uS9n100) rfl rfl (v_move (.inl rfl) rfl) rfl ?_
 refine L_op (env' := uS9n100) rfl rfl (rfl) rfl ?_
 refine L_nil (K_seq ?_)
 refine B_cond _ rfl (fun hc1 => ?_) (fun hc1 => ?_)
 ·try simp only [qB, qN] at hc1
  refine B_seq (B_region ?_)
  refine L_op (env' := uS9n100) rfl rfl (v_move (.inl rfl) rfl) rfl ?_
  refine L_op (env' := uS9n100) rfl rfl (v_const (VVal.slice none 0 0 true 0) (.inr rfl) rfl) rfl ?_
  refine L_op (env' := uS9n100) rfl rfl (v_move (.inr rfl) rfl) rfl ?_
  refine L_nil (K_seq ?_)
  refine B_gh (Gh.freezeNil 4 (es' := 3) rfl rfl) ?_
  refine B_ret (K_seqR ?_)
  refine E_app (.inr rfl) (vres_tmp2 rfl rfl rfl) (by first | exact BaseOk.refl _ | exact BaseOk.set (BaseOk.refl _) _ rfl) (by first | rfl | (simp only [VVal.under, VVal.underL, Bool.and_true]; exact fl_under)) ?_
  first
    | exact ⟨by rw [flA_1 (by assumption)]; rfl, rfl⟩
    | (rw [List.take_of_length_le (by omega)]; exact ⟨by rw [flA_0 (by assumption), show pck p = 0 by assumption, flw_in (by omega)]; rfl, rfl⟩)
    | exact ⟨by rw [flA_0 (by assumption), show pck p = 0 by assumption, flw_len (by omega)]; rfl, rfl⟩
 ·try simp only [qB, qN] at hc1
  refine B_skip (K_seq (B_seq (B_seq ?_)))
  have g : Go.V.Good p := pck_good.1 (by assumption)
  have g1 := g.n12; have g2 := g.u64; have g3 := g.r32; have g4 := g.u0; have g5 := g.fx
  have hbr := brk_len p.rules us
  refine B_region ?_
  refine L_op (env' := uS9n100) rfl rfl (v_move (.inl rfl) rfl) rfl ?_
  refine L_op (env' := uS9n100) rfl rfl (rfl) rfl ?_
  refine L_op (env' := uS9n100) rfl rfl (rfl) rfl ?_
  refine L_op (env' := uS9n100) rfl rfl (wS9n1 rfl rfl rfl rfl) rfl ?_
  refine L_op (env' := uS9n100) rfl rfl (rfl) rfl ?_
  refine L_op (env' := uS9n100) rfl rfl (rfl) rfl ?_
  refine L_nil (K_seq ?_)
  refine B_cond _ rfl (fun hc2 => ?_) (fun hc2 => ?_)
  ·try simp only [qB, qN] at hc2
   refine B_seq (B_region ?_)
   refine L_op (env' := uS9n100) rfl rfl (rfl) rfl ?_
   refine L_op (env' := uS9n100) rfl rfl (v_buildSlice rfl rfl (by decide) rfl) rfl ?_
   refine L_op (env' := uS9n100) rfl rfl (v_move (.inr rfl) rfl) rfl ?_
   refine L_op (env' := uS9n100) rfl rfl (v_const (VVal.int .i64 0) (.inr rfl) rfl) rfl ?_
   refine L_nil (K_seq ?_)
   refine B_gh (Gh.freezeL (l := [iI 1, iI 0, iI 0]) 4 1 rfl rfl rfl (Nat.le_refl _) rfl) ?_
   refine B_ret (K_seqR ?_)
   refine E_app (.inr rfl) (vres_tmp2 rfl rfl rfl) (by first | exact BaseOk.refl _ | exact BaseOk.set (BaseOk.refl _) _ rfl) (by first | rfl | (simp only [VVal.under, VVal.underL, Bool.and_true]; exact fl_under)) ?_
   first
     | exact ⟨by rw [flA_1 (by assumption)]; rfl, rfl⟩
     | (rw [List.take_of_length_le (by omega)]; exact ⟨by rw [flA_0 (by assumption), show pck p = 0 by assumption, flw_in (by omega)]; rfl, rfl⟩)
     | exact ⟨by rw [flA_0 (by assumption), show pck p = 0 by assumption, flw_len (by omega)]; rfl, rfl⟩
  ·try simp only [qB, qN] at hc2
   refine B_skip (K_seq (B_seq (B_region ?_)))
   refine L_op (env' := uS9n100) rfl rfl (v_const (VVal.slice none 0 0 true 0) (.inr rfl) rfl) rfl ?_
   refine L_nil (K_seq (B_seq (B_seq (B_region ?_))))
   refine L_op (env' := uS9n100) rfl rfl (v_move (.inl rfl) rfl) rfl ?_
   refine L_op (env' := uS9n100) rfl rfl (rfl) rfl ?_
   refine L_op (env' := uS9n100) rfl rfl (v_const (VVal.int .i64 0) (.inl rfl) rfl) rfl ?_
   refine L_nil (K_seq (B_block ?_))
   refine B_clear (mk 100 1267650600228229401496233443193) (env' := uS9n100) rfl ?_
   refine B_loopE (fun (⟨k, lv⟩ : Nat × VVal) => us.length - k) (fun (⟨k, lv⟩ : Nat × VVal) => [(7, lv), (28, iI (k : Nat))]) (fun (⟨k, lv⟩ : Nat × VVal) G => (k ≤ us.length) ∧ ∃ X, G = (H ++ [VBlk.cells (pbB p) true]) ++ X ∧ LV (H.length + 1) 3 X lv ((flU p us k).flatMap flB) (flU p us k).length) ⟨0, _⟩ rfl ?_ ?_
   ·refine ⟨?_, ⟨[], (List.append_nil _).symm, LV.nil _ _ _⟩⟩
    exact Nat.zero_le _
   rintro ⟨k, lv⟩ _ ⟨hk, ⟨X, rfl, hl⟩⟩
   refine B_env (env' := uS9n100) rfl ?_
   have hfl := flU_len p us k
   refine B_seq (B_region ?_)
   refine L_op (env' := uS9n100) rfl rfl (rfl) rfl ?_
   refine L_nil (K_seq (B_seq ?_))
   refine B_cond _ rfl (fun hc3 => ?_) (fun hc3 => ?_)
   ·try simp only [qB, qN] at hc3
    refine B_skip (K_seq (B_seq (B_block (B_seq (B_region ?_)))))
    refine L_op (env' := uS9n100) rfl rfl (v_move (.inl rfl) rfl) rfl ?_
    refine L_op (env' := uS9n100) rfl rfl (wS9n2 rfl rfl rfl rfl rfl rfl rfl) rfl ?_
    refine L_op (env' := uS9n100) rfl rfl (wS9n1 rfl rfl rfl rfl) rfl ?_
    refine L_op (env' := uS9n100) rfl rfl (v_move (.inr rfl) rfl) rfl ?_
    refine L_op (env' := uS9n100) rfl rfl (v_move (.inr rfl) rfl) rfl ?_
    refine L_nil (K_seq (B_seq (B_region ?_)))
    refine L_op (env' := uS9n100) rfl rfl (v_const (VVal.int .i64 0) (.inr rfl) rfl) rfl ?_
    refine L_nil (K_seq (B_seq (B_block (B_seq (B_region ?_)))))
    refine L_op (env' := uS9n100) rfl rfl (v_move (.inl rfl) rfl) rfl ?_
    refine L_op (env' := uS9n100) rfl rfl (rfl) rfl ?_
    refine L_op (env' := uS9n100) rfl rfl (v_move (.inl rfl) rfl) rfl ?_
    refine L_split 36 (env1 := uS9n100) (env2 := uS9n100) rfl rfl rfl (fun hg4 => ?_) (fun hg4 => ?_)
    ·try simp only [qB, qN] at hg4
     refine L_off (env' := uS9n100) rfl rfl ?_
     refine L_off (env' := uS9n100) rfl rfl ?_
     refine L_off (env' := uS9n100) rfl rfl ?_
     refine L_off (env' := uS9n100) rfl rfl ?_
     refine L_op (env' := uS9n100) rfl rfl (v_pickTC (VVal.bool true) rfl rfl rfl) rfl ?_
     refine L_op (env' := uS9n100) rfl rfl (v_move (.inr rfl) rfl) rfl ?_
     refine L_nil (K_seq ?_)
     refine B_true rfl rfl ?_
     refine B_region ?_
     refine L_op (env' := uS9n100) rfl rfl (v_const (VVal.int .i64 2) (.inr rfl) rfl) rfl ?_
     refine L_nil (K_blk (K_seq (B_region ?_)))
     refine L_op (env' := uS9n100) rfl rfl (v_move (.inl rfl) rfl) rfl ?_
     refine L_op (env' := uS9n100) rfl rfl (v_move (.inl rfl) rfl) rfl ?_
     refine L_op (env' := uS9n100) rfl rfl (v_move (.inl rfl) rfl) rfl ?_
     refine L_op (env' := uS9n100) rfl rfl (rfl) rfl ?_
     refine L_op (env' := uS9n100) rfl rfl (v_buildSlice rfl rfl (by decide) rfl) rfl ?_
     refine L_opX rfl rfl (v_appXh rfl rfl rfl rfl rfl rfl rfl (by simp) hl rfl rfl (by decide) (by show (_ + 1) * 24 ≤ _ ∧ _ + 1 ≤ _; omega) (by decide)) ?_
     rintro _ _ ⟨Y1, rfl, rfl, hY1, hY2, hY3⟩
     refine L_env (env' := uS9n100) rfl ?_
     refine L_op (env' := uS9n100) rfl rfl (v_move (.inr rfl) rfl) rfl ?_
     refine L_nil (K_blk (K_seq (B_region ?_)))
     refine L_op (env' := uS9n100) rfl rfl (wS9n3 rfl rfl rfl) rfl ?_
     refine L_op (env' := uS9n100) rfl rfl (v_move (.inl rfl) rfl) rfl ?_
     refine L_nil ?_
     refine K_loop (mk 100 1267650600228229401496233443193) (env' := uS9n100) rfl ⟨⟨k + 1, _⟩, ?_, rfl, ?_⟩
     ·first | omega | (simp only []; omega)
     ·first | exact ⟨by omega, _, rfl, by rw [flU_no (by first | exact flk_0a (by omega) (by omega) (by omega) | exact flk_0b (by omega) (by omega) (by assumption))]; exact hl⟩ | exact ⟨by omega, _, rfl, LV.pushL hY3 (flU_yes (by first | exact flk_2 (by omega) | exact flk_3 (by omega) (by omega) (by omega) | exact flk_4 (by omega) (by omega) (by assumption)) (by decide))⟩
    ·try simp only [qB, qN] at hg4
     refine L_op (env' := uS9n100) rfl rfl (v_move (.inl rfl) rfl) rfl ?_
     refine L_op (env' := uS9n100) rfl rfl (rfl) rfl ?_
     refine L_op (env' := uS9n100) rfl rfl (wS9n1 rfl rfl rfl rfl) rfl ?_
     refine L_op (env' := uS9n100) rfl rfl (rfl) rfl ?_
     refine L_op (env' := uS9n100) rfl rfl (v_pickF rfl rfl rfl) rfl ?_
     refine L_op (env' := uS9n100) rfl rfl (v_move (.inr rfl) rfl) rfl ?_
     refine L_nil (K_seq ?_)
     refine B_cond _ rfl (fun hc5 => ?_) (fun hc5 => ?_)
     ·try simp only [qB, qN] at hc5
      refine B_region ?_
      refine L_op (env' := uS9n100) rfl rfl (v_const (VVal.int .i64 2) (.inr rfl) rfl) rfl ?_
      refine L_nil (K_blk (K_seq (B_region ?_)))
      refine L_op (env' := uS9n100) rfl rfl (v_move (.inl rfl) rfl) rfl ?_
      refine L_op (env' := uS9n100) rfl rfl (v_move (.inl rfl) rfl) rfl ?_
      refine L_op (env' := uS9n100) rfl rfl (v_move (.inl rfl) rfl) rfl ?_
      refine L_op (env' := uS9n100) rfl rfl (rfl) rfl ?_
      refine L_op (env' := uS9n100) rfl rfl (v_buildSlice rfl rfl (by decide) rfl) rfl ?_
      refine L_opX rfl rfl (v_appXh rfl rfl rfl rfl rfl rfl rfl (by simp) hl rfl rfl (by decide) (by show (_ + 1) * 24 ≤ _ ∧ _ + 1 ≤ _; omega) (by decide)) ?_
      rintro _ _ ⟨Y1, rfl, rfl, hY1, hY2, hY3⟩
      refine L_env (env' := uS9n100) rfl ?_
      refine L_op (env' := uS9n100) rfl rfl (v_move (.inr rfl) rfl) rfl ?_
      refine L_nil (K_blk (K_seq (B_region ?_)))
      refine L_op (env' := uS9n100) rfl rfl (wS9n3 rfl rfl rfl) rfl ?_
      refine L_op (env' := uS9n100) rfl rfl (v_move (.inl rfl) rfl) rfl ?_
      refine L_nil ?_
      refine K_loop (mk 100 1267650600228229401496233443193) (env' := uS9n100) rfl ⟨⟨k + 1, _⟩, ?_, rfl, ?_⟩
      ·first | omega | (simp only []; omega)
      ·first | exact ⟨by omega, _, rfl, by rw [flU_no (by first | exact flk_0a (by omega) (by omega) (by omega) | exact flk_0b (by omega) (by omega) (by assumption))]; exact hl⟩ | exact ⟨by omega, _, rfl, LV.pushL hY3 (flU_yes (by first | exact flk_2 (by omega) | exact flk_3 (by omega) (by omega) (by omega) | exact flk_4 (by omega) (by omega) (by assumption)) (by decide))⟩
     ·try simp only [qB, qN] at hc5
      refine B_seq (B_region ?_)
      refine L_op (env' := uS9n100) rfl rfl (rfl) rfl ?_
      refine L_op (env' := uS9n100) rfl rfl (wS9n1 rfl rfl rfl rfl) rfl ?_
      refine L_op (env' := uS9n100) rfl rfl (v_move (.inl rfl) rfl) rfl ?_
      refine L_op (env' := uS9n100) rfl rfl (wS9n2 rfl rfl rfl rfl rfl rfl rfl) rfl ?_
      refine L_op (env' := uS9n100) rfl rfl (wS9n1 rfl rfl rfl rfl) rfl ?_
      refine L_op (env' := uS9n100) rfl rfl (rfl) rfl ?_
      refine L_op (env' := uS9n100) rfl rfl (v_move (.inl rfl) rfl) rfl ?_
      refine L_split 49 (env1 := uS9n100) (env2 := uS9n100) rfl rfl rfl (fun hg6 => ?_) (fun hg6 => ?_)
      ·try simp only [qB, qN] at hg6
       refine L_op (env' := uS9n100) rfl rfl (rfl) rfl ?_
       refine L_op (env' := uS9n100) rfl rfl (wS9n1 rfl rfl rfl rfl) rfl ?_
       refine L_op (env' := uS9n100) rfl rfl (v_move (.inl rfl) rfl) rfl ?_
       refine L_op (env' := uS9n100) rfl rfl (wS9n2 rfl rfl rfl rfl rfl rfl rfl) rfl ?_
       refine L_op (env' := uS9n100) rfl rfl (wS9n1 rfl rfl rfl rfl) rfl ?_
       refine L_op (env' := uS9n100) rfl rfl (v_move (.inl rfl) rfl) rfl ?_
       refine L_op (env' := uS9n100) rfl rfl (rfl) rfl ?_
       refine L_op (env' := uS9n100) rfl rfl (v_pickT rfl rfl rfl) rfl ?_
       refine L_op (env' := uS9n100) rfl rfl (v_move (.inr rfl) rfl) rfl ?_
       refine L_nil (K_seq ?_)
       refine B_cond _ rfl (fun hc7 => ?_) (fun hc7 => ?_)
       ·try simp only [qB, qN] at hc7
        refine B_region ?_
        refine L_op (env' := uS9n100) rfl rfl (v_const (VVal.int .i64 3) (.inr rfl) rfl) rfl ?_
        refine L_nil (K_blk (K_seq (B_region ?_)))
        refine L_op (env' := uS9n100) rfl rfl (v_move (.inl rfl) rfl) rfl ?_
        refine L_op (env' := uS9n100) rfl rfl (v_move (.inl rfl) rfl) rfl ?_
        refine L_op (env' := uS9n100) rfl rfl (v_move (.inl rfl) rfl) rfl ?_
        refine L_op (env' := uS9n100) rfl rfl (rfl) rfl ?_
        refine L_op (env' := uS9n100) rfl rfl (v_buildSlice rfl rfl (by decide) rfl) rfl ?_
        refine L_opX rfl rfl (v_appXh rfl rfl rfl rfl rfl rfl rfl (by simp) hl rfl rfl (by decide) (by show (_ + 1) * 24 ≤ _ ∧ _ + 1 ≤ _; omega) (by decide)) ?_
        rintro _ _ ⟨Y1, rfl, rfl, hY1, hY2, hY3⟩
        refine L_env (env' := uS9n100) rfl ?_
        refine L_op (env' := uS9n100) rfl rfl (v_move (.inr rfl) rfl) rfl ?_
        refine L_nil (K_blk (K_seq (B_region ?_)))
        refine L_op (env' := uS9n100) rfl rfl (wS9n3 rfl rfl rfl) rfl ?_
        refine L_op (env' := uS9n100) rfl rfl (v_move (.inl rfl) rfl) rfl ?_
        refine L_nil ?_
        refine K_loop (mk 100 1267650600228229401496233443193) (env' := uS9n100) rfl ⟨⟨k + 1, _⟩, ?_, rfl, ?_⟩
        ·first | omega | (simp only []; omega)
        ·first | exact ⟨by omega, _, rfl, by rw [flU_no (by first | exact flk_0a (by omega) (by omega) (by omega) | exact flk_0b (by omega) (by omega) (by assumption))]; exact hl⟩ | exact ⟨by omega, _, rfl, LV.pushL hY3 (flU_yes (by first | exact flk_2 (by omega) | exact flk_3 (by omega) (by omega) (by omega) | exact flk_4 (by omega) (by omega) (by assumption)) (by decide))⟩
       ·try simp only [qB, qN] at hc7
        refine B_seq (B_region ?_)
        refine L_op (env' := uS9n100) rfl rfl (rfl) rfl ?_
        refine L_op (env' := uS9n100) rfl rfl (wS9n1 rfl rfl rfl rfl) rfl ?_
        refine L_op (env' := uS9n100) rfl rfl (v_move (.inl rfl) rfl) rfl ?_
        refine L_op (env' := uS9n100) rfl rfl (wS9n2 rfl rfl rfl rfl rfl rfl rfl) rfl ?_
        refine L_op (env' := uS9n100) rfl rfl (wS9n1 rfl rfl rfl rfl) rfl ?_
        refine L_op (env' := uS9n100) rfl rfl (rfl) rfl ?_
        refine L_op (env' := uS9n100) rfl rfl (v_move (.inl rfl) rfl) rfl ?_
        refine L_split 65 (env1 := uS9n100) (env2 := uS9n100) rfl rfl rfl (fun hg8 => ?_) (fun hg8 => ?_)
        ·try simp only [qB, qN] at hg8
         refine L_op (env' := uS9n100) rfl rfl (rfl) rfl ?_
         refine L_op (env' := uS9n100) rfl rfl (rfl) rfl ?_
         refine L_op (env' := uS9n100) rfl rfl (wS9n1 rfl rfl rfl rfl) rfl ?_
         refine L_op (env' := uS9n100) rfl rfl (v_move (.inl rfl) rfl) rfl ?_
         refine L_op (env' := uS9n100) rfl rfl (wS9n2 rfl rfl rfl rfl rfl rfl rfl) rfl ?_
         refine L_op (env' := uS9n100) rfl rfl (wS9n1 rfl rfl rfl rfl) rfl ?_
         refine L_call rfl rfl rfl (by exact Of_spec _ 0#64 _) ?_
         rintro _ _ ⟨rfl, rfl⟩
         refine L_env (env' := uS9n100) rfl ?_
         refine L_op (env' := uS9n100) rfl rfl (v_move (.inl rfl) rfl) rfl ?_
         refine L_call rfl rfl rfl (by exact Has_spec _ _ _) ?_
         rintro v _ ⟨hv, rfl⟩; obtain rfl : v = .bool ((p.who.getD k 0).getLsbD (us.getD k 0).toNat) := hv.trans (by rw [decide_eq_true (by omega), Bool.true_and])
         refine L_env (env' := uS9n100) rfl ?_
         refine L_op (env' := uS9n100) rfl rfl (rfl) rfl ?_
         refine L_op (env' := uS9n100) rfl rfl (v_pickT rfl rfl rfl) rfl ?_
         refine L_op (env' := uS9n100) rfl rfl (v_move (.inr rfl) rfl) rfl ?_
         refine L_nil (K_seq ?_)
         refine B_cond _ rfl (fun hc9 => ?_) (fun hc9 => ?_)
         ·try simp only [qB, qN] at hc9
          refine B_region ?_
          refine L_op (env' := uS9n100) rfl rfl (v_const (VVal.int .i64 4) (.inr rfl) rfl) rfl ?_
          refine L_nil (K_blk (K_seq (B_region ?_)))
          refine L_op (env' := uS9n100) rfl rfl (v_move (.inl rfl) rfl) rfl ?_
          refine L_op (env' := uS9n100) rfl rfl (v_move (.inl rfl) rfl) rfl ?_
          refine L_op (env' := uS9n100) rfl rfl (v_move (.inl rfl) rfl) rfl ?_
          refine L_op (env' := uS9n100) rfl rfl (rfl) rfl ?_
          refine L_op (env' := uS9n100) rfl rfl (v_buildSlice rfl rfl (by decide) rfl) rfl ?_
          refine L_opX rfl rfl (v_appXh rfl rfl rfl rfl rfl rfl rfl (by simp) hl rfl rfl (by decide) (by show (_ + 1) * 24 ≤ _ ∧ _ + 1 ≤ _; omega) (by decide)) ?_
          rintro _ _ ⟨Y1, rfl, rfl, hY1, hY2, hY3⟩
          refine L_env (env' := uS9n100) rfl ?_
          refine L_op (env' := uS9n100) rfl rfl (v_move (.inr rfl) rfl) rfl ?_
          refine L_nil (K_blk (K_seq (B_region ?_)))
          refine L_op (env' := uS9n100) rfl rfl (wS9n3 rfl rfl rfl) rfl ?_
          refine L_op (env' := uS9n100) rfl rfl (v_move (.inl rfl) rfl) rfl ?_
          refine L_nil ?_
          refine K_loop (mk 100 1267650600228229401496233443193) (env' := uS9n100) rfl ⟨⟨k + 1, _⟩, ?_, rfl, ?_⟩
          ·first | omega | (simp only []; omega)
          ·first | exact ⟨by omega, _, rfl, by rw [flU_no (by first | exact flk_0a (by omega) (by omega) (by omega) | exact flk_0b (by omega) (by omega) (by assumption))]; exact hl⟩ | exact ⟨by omega, _, rfl, LV.pushL hY3 (flU_yes (by first | exact flk_2 (by omega) | exact flk_3 (by omega) (by omega) (by omega) | exact flk_4 (by omega) (by omega) (by assumption)) (by decide))⟩
         ·try simp only [qB, qN] at hc9
          refine B_exit ?_
          refine K_blkO rfl ?_
          refine K_seqX (K_blkX (K_seq (B_region ?_)))
          refine L_op (env' := uS9n100) rfl rfl (wS9n3 rfl rfl rfl) rfl ?_
          refine L_op (env' := uS9n100) rfl rfl (v_move (.inl rfl) rfl) rfl ?_
          refine L_nil ?_
          refine K_loop (mk 100 1267650600228229401496233443193) (env' := uS9n100) rfl ⟨⟨k + 1, _⟩, ?_, rfl, ?_⟩
          ·first | omega | (simp only []; omega)
          ·first | exact ⟨by omega, _, rfl, by rw [flU_no (by first | exact flk_0a (by omega) (by omega) (by omega) | exact flk_0b (by omega) (by omega) (by assumption))]; exact hl⟩ | exact ⟨by omega, _, rfl, LV.pushL hY3 (flU_yes (by first | exact flk_2 (by omega) | exact flk_3 (by omega) (by omega) (by omega) | exact flk_4 (by omega) (by omega) (by assumption)) (by decide))⟩
        ·try simp only [qB, qN] at hg8
         refine L_off (env' := uS9n100) rfl rfl ?_
         refine L_off (env' := uS9n100) rfl rfl ?_
         refine L_off (env' := uS9n100) rfl rfl ?_
         refine L_off (env' := uS9n100) rfl rfl ?_
         refine L_off (env' := uS9n100) rfl rfl ?_
         refine L_off (env' := uS9n100) rfl rfl ?_
         refine L_off (env' := uS9n100) rfl rfl ?_
         refine L_off (env' := uS9n100) rfl rfl ?_
         refine L_off (env' := uS9n100) rfl rfl ?_
         refine L_off (env' := uS9n100) rfl rfl ?_
         refine L_op (env' := uS9n100) rfl rfl (v_pickFC (VVal.bool false) rfl rfl rfl) rfl ?_
         refine L_op (env' := uS9n100) rfl rfl (v_move (.inr rfl) rfl) rfl ?_
         refine L_nil (K_seq ?_)
         refine B_false rfl rfl ?_
         refine B_exit ?_
         refine K_blkO rfl ?_
         refine K_seqX (K_blkX (K_seq (B_region ?_)))
         refine L_op (env' := uS9n100) rfl rfl (wS9n3 rfl rfl rfl) rfl ?_
         refine L_op (env' := uS9n100) rfl rfl (v_move (.inl rfl) rfl) rfl ?_
         refine L_nil ?_
         refine K_loop (mk 100 1267650600228229401496233443193) (env' := uS9n100) rfl ⟨⟨k + 1, _⟩, ?_, rfl, ?_⟩
         ·first | omega | (simp only []; omega)
         ·first | exact ⟨by omega, _, rfl, by rw [flU_no (by first | exact flk_0a (by omega) (by omega) (by omega) | exact flk_0b (by omega) (by omega) (by assumption))]; exact hl⟩ | exact ⟨by omega, _, rfl, LV.pushL hY3 (flU_yes (by first | exact flk_2 (by omega) | exact flk_3 (by omega) (by omega) (by omega) | exact flk_4 (by omega) (by omega) (by assumption)) (by decide))⟩
      ·try simp only [qB, qN] at hg6
       refine L_off (env' := uS9n100) rfl rfl ?_
       refine L_off (env' := uS9n100) rfl rfl ?_
       refine L_off (env' := uS9n100) rfl rfl ?_
       refine L_off (env' := uS9n100) rfl rfl ?_
       refine L_off (env' := uS9n100) rfl rfl ?_
       refine L_off (env' := uS9n100) rfl rfl ?_
       refine L_off (env' := uS9n100) rfl rfl ?_
       refine L_op (env' := uS9n100) rfl rfl (v_pickFC (VVal.bool false) rfl rfl rfl) rfl ?_
       refine L_op (env' := uS9n100) rfl rfl (v_move (.inr rfl) rfl) rfl ?_
       refine L_nil (K_seq ?_)
       refine B_false rfl rfl ?_
       refine B_seq (B_region ?_)
       refine L_op (env' := uS9n100) rfl rfl (rfl) rfl ?_
       refine L_op (env' := uS9n100) rfl rfl (wS9n1 rfl rfl rfl rfl) rfl ?_
       refine L_op (env' := uS9n100) rfl rfl (v_move (.inl rfl) rfl) rfl ?_
       refine L_op (env' := uS9n100) rfl rfl (wS9n2 rfl rfl rfl rfl rfl rfl rfl) rfl ?_
       refine L_op (env' := uS9n100) rfl rfl (wS9n1 rfl rfl rfl rfl) rfl ?_
       refine L_op (env' := uS9n100) rfl rfl (rfl) rfl ?_
       refine L_op (env' := uS9n100) rfl rfl (v_move (.inl rfl) rfl) rfl ?_
       refine L_split 65 (env1 := uS9n100) (env2 := uS9n100) rfl rfl rfl (fun hg10 => ?_) (fun hg10 => ?_)
       ·try simp only [qB, qN] at hg10
        refine L_op (env' := uS9n100) rfl rfl (rfl) rfl ?_
        refine L_op (env' := uS9n100) rfl rfl (rfl) rfl ?_
        refine L_op (env' := uS9n100) rfl rfl (wS9n1 rfl rfl rfl rfl) rfl ?_
        refine L_op (env' := uS9n100) rfl rfl (v_move (.inl rfl) rfl) rfl ?_
        refine L_op (env' := uS9n100) rfl rfl (wS9n2 rfl rfl rfl rfl rfl rfl rfl) rfl ?_
        refine L_op (env' := uS9n100) rfl rfl (wS9n1 rfl rfl rfl rfl) rfl ?_
        refine L_call rfl rfl rfl (by exact Of_spec _ 0#64 _) ?_
        rintro _ _ ⟨rfl, rfl⟩
        refine L_env (env' := uS9n100) rfl ?_
        refine L_op (env' := uS9n100) rfl rfl (v_move (.inl rfl) rfl) rfl ?_
        refine L_call rfl rfl rfl (by exact Has_spec _ _ _) ?_
        rintro v _ ⟨hv, rfl⟩; obtain rfl : v = .bool ((p.who.getD k 0).getLsbD (us.getD k 0).toNat) := hv.trans (by rw [decide_eq_true (by omega), Bool.true_and])
        refine L_env (env' := uS9n100) rfl ?_
        refine L_op (env' := uS9n100) rfl rfl (rfl) rfl ?_
        refine L_op (env' := uS9n100) rfl rfl (v_pickT rfl rfl rfl) rfl ?_
        refine L_op (env' := uS9n100) rfl rfl (v_move (.inr rfl) rfl) rfl ?_
        refine L_nil (K_seq ?_)
        refine B_cond _ rfl (fun hc11 => ?_) (fun hc11 => ?_)
        ·try simp only [qB, qN] at hc11
         refine B_region ?_
         refine L_op (env' := uS9n100) rfl rfl (v_const (VVal.int .i64 4) (.inr rfl) rfl) rfl ?_
         refine L_nil (K_blk (K_seq (B_region ?_)))
         refine L_op (env' := uS9n100) rfl rfl (v_move (.inl rfl) rfl) rfl ?_
         refine L_op (env' := uS9n100) rfl rfl (v_move (.inl rfl) rfl) rfl ?_
         refine L_op (env' := uS9n100) rfl rfl (v_move (.inl rfl) rfl) rfl ?_
         refine L_op (env' := uS9n100) rfl rfl (rfl) rfl ?_
         refine L_op (env' := uS9n100) rfl rfl (v_buildSlice rfl rfl (by decide) rfl) rfl ?_
         refine L_opX rfl rfl (v_appXh rfl rfl rfl rfl rfl rfl rfl (by simp) hl rfl rfl (by decide) (by show (_ + 1) * 24 ≤ _ ∧ _ + 1 ≤ _; omega) (by decide)) ?_
         rintro _ _ ⟨Y1, rfl, rfl, hY1, hY2, hY3⟩
         refine L_env (env' := uS9n100) rfl ?_
         refine L_op (env' := uS9n100) rfl rfl (v_move (.inr rfl) rfl) rfl ?_
         refine L_nil (K_blk (K_seq (B_region ?_)))
         refine L_op (env' := uS9n100) rfl rfl (wS9n3 rfl rfl rfl) rfl ?_
         refine L_op (env' := uS9n100) rfl rfl (v_move (.inl rfl) rfl) rfl ?_
         refine L_nil ?_
         refine K_loop (mk 100 1267650600228229401496233443193) (env' := uS9n100) rfl ⟨⟨k + 1, _⟩, ?_, rfl, ?_⟩
         ·first | omega | (simp only []; omega)
         ·first | exact ⟨by omega, _, rfl, by rw [flU_no (by first | exact flk_0a (by omega) (by omega) (by omega) | exact flk_0b (by omega) (by omega) (by assumption))]; exact hl⟩ | exact ⟨by omega, _, rfl, LV.pushL hY3 (flU_yes (by first | exact flk_2 (by omega) | exact flk_3 (by omega) (by omega) (by omega) | exact flk_4 (by omega) (by omega) (by assumption)) (by decide))⟩
        ·try simp only [qB, qN] at hc11
         refine B_exit ?_
         refine K_blkO rfl ?_
         refine K_seqX (K_blkX (K_seq (B_region ?_)))
         refine L_op (env' := uS9n100) rfl rfl (wS9n3 rfl rfl rfl) rfl ?_
         refine L_op (env' := uS9n100) rfl rfl (v_move (.inl rfl) rfl) rfl ?_
         refine L_nil ?_
         refine K_loop (mk 100 1267650600228229401496233443193) (env' := uS9n100) rfl ⟨⟨k + 1, _⟩, ?_, rfl, ?_⟩
         ·first | omega | (simp only []; omega)
         ·first | exact ⟨by omega, _, rfl, by rw [flU_no (by first | exact flk_0a (by omega) (by omega) (by omega) | exact flk_0b (by omega) (by omega) (by assumption))]; exact hl⟩ | exact ⟨by omega, _, rfl, LV.pushL hY3 (flU_yes (by first | exact flk_2 (by omega) | exact flk_3 (by omega) (by omega) (by omega) | exact flk_4 (by omega) (by omega) (by assumption)) (by decide))⟩
       ·try simp only [qB, qN] at hg10
        refine L_off (env' := uS9n100) rfl rfl ?_
        refine L_off (env' := uS9n100) rfl rfl ?_
        refine L_off (env' := uS9n100) rfl rfl ?_
        refine L_off (env' := uS9n100) rfl rfl ?_
        refine L_off (env' := uS9n100) rfl rfl ?_
        refine L_off (env' := uS9n100) rfl rfl ?_
        refine L_off (env' := uS9n100) rfl rfl ?_
        refine L_off (env' := uS9n100) rfl rfl ?_
        refine L_off (env' := uS9n100) rfl rfl ?_
        refine L_off (env' := uS9n100) rfl rfl ?_
        refine L_op (env' := uS9n100) rfl rfl (v_pickFC (VVal.bool false) rfl rfl rfl) rfl ?_
        refine L_op (env' := uS9n100) rfl rfl (v_move (.inr rfl) rfl) rfl ?_
        refine L_nil (K_seq ?_)
        refine B_false rfl rfl ?_
        refine B_exit ?_
        refine K_blkO rfl ?_
        refine K_seqX (K_blkX (K_seq (B_region ?_)))
        refine L_op (env' := uS9n100) rfl rfl (wS9n3 rfl rfl rfl) rfl ?_
        refine L_op (env' := uS9n100) rfl rfl (v_move (.inl rfl) rfl) rfl ?_
        refine L_nil ?_
        refine K_loop (mk 100 1267650600228229401496233443193) (env' := uS9n100) rfl ⟨⟨k + 1, _⟩, ?_, rfl, ?_⟩
        ·first | omega | (simp only []; omega)
        ·first | exact ⟨by omega, _, rfl, by rw [flU_no (by first | exact flk_0a (by omega) (by omega) (by omega) | exact flk_0b (by omega) (by omega) (by assumption))]; exact hl⟩ | exact ⟨by omega, _, rfl, LV.pushL hY3 (flU_yes (by first | exact flk_2 (by omega) | exact flk_3 (by omega) (by omega) (by omega) | exact flk_4 (by omega) (by omega) (by assumption)) (by decide))⟩
   ·try simp only [qB, qN] at hc3
    refine B_exit (K_seqX (K_loopX (K_blkX (K_seq (B_seq (B_seq ?_))))))
    obtain rfl : k = us.length := by omega
    refine B_region ?_
    refine L_op (env' := uS9n100) rfl rfl (rfl) rfl ?_
    refine L_op (env' := uS9n100) rfl rfl (wS9n1 rfl rfl rfl rfl) rfl ?_
    refine L_op (env' := uS9n100) rfl rfl (v_move (.inl rfl) rfl) rfl ?_
    refine L_call rfl rfl rfl (by exact Broken_spec _ _ _ hp.s (by omega)) ?_
    rintro _ _ ⟨rfl, rfl⟩
    refine L_env (env' := uS9n100) rfl ?_
    refine L_op (env' := uS9n100) rfl rfl (rfl) rfl ?_
    refine L_op (env' := uS9n100) rfl rfl (v_const (VVal.int .i64 0) (.inl rfl) rfl) rfl ?_
    refine L_nil (K_seq (B_block ?_))
    refine B_clear (mk 100 1266567402693854693756166471551) (env' := uS9n100) rfl ?_
    refine B_loopE (fun (⟨j, lv⟩ : Nat × VVal) => (brk p.rules us).length - j) (fun (⟨j, lv⟩ : Nat × VVal) => [(7, lv), (89, iI (j : Nat))]) (fun (⟨j, lv⟩ : Nat × VVal) G => (j ≤ (brk p.rules us).length) ∧ ∃ X, G = (H ++ [VBlk.cells (pbB p) true]) ++ X ∧ LV (H.length + 1) 3 X lv ((flU p us us.length ++ flR ((brk p.rules us).take j)).flatMap flB) (flU p us us.length ++ flR ((brk p.rules us).take j)).length) ⟨0, _⟩ rfl ?_ ?_
    ·refine ⟨?_, ⟨X, rfl, by show LV _ _ _ _ ((flU p us us.length ++ []).flatMap flB) (flU p us us.length ++ []).length; rw [List.append_nil]; exact hl⟩⟩
     exact Nat.zero_le _
    rintro ⟨j, lv⟩ _ ⟨hj, ⟨X, rfl, hl⟩⟩
    refine B_env (env' := uS9n100) rfl ?_
    refine B_seq ?_
    have hfl := flU_len p us us.length
    refine B_region ?_
    refine L_op (env' := uS9n100) rfl rfl (rfl) rfl ?_
    refine L_nil (K_seq (B_seq ?_))
    refine B_cond _ rfl (fun hc12 => ?_) (fun hc12 => ?_)
    ·try simp only [qB, qN] at hc12
     refine B_skip (K_seq (B_seq (B_block (B_seq (B_region ?_)))))
     refine L_op (env' := uS9n100) rfl rfl (wS9n2 rfl rfl rfl rfl rfl rfl rfl) rfl ?_
     refine L_op (env' := uS9n100) rfl rfl (wS9n1 rfl rfl rfl rfl) rfl ?_
     refine L_op (env' := uS9n100) rfl rfl (v_move (.inr rfl) rfl) rfl ?_
     refine L_nil (K_seq (B_region ?_))
     refine L_op (env' := uS9n100) rfl rfl (v_move (.inl rfl) rfl) rfl ?_
     refine L_op (env' := uS9n100) rfl rfl (v_move (.inl rfl) rfl) rfl ?_
     refine L_op (env' := uS9n100) rfl rfl (rfl) rfl ?_
     refine L_op (env' := uS9n100) rfl rfl (v_buildSlice rfl rfl (by decide) rfl) rfl ?_
     refine L_opX rfl rfl (v_appXh rfl rfl rfl rfl rfl rfl rfl (by simp) hl rfl rfl (by decide) (by rw [List.length_append, flR_len, List.length_take]; show (_ + 1) * 24 ≤ _ ∧ _ + 1 ≤ _; omega) (by decide)) ?_
     rintro _ _ ⟨Y1, rfl, rfl, hY1, hY2, hY3⟩
     refine L_env (env' := uS9n100) rfl ?_
     refine L_op (env' := uS9n100) rfl rfl (v_move (.inr rfl) rfl) rfl ?_
     refine L_nil (K_blk (K_seq (B_region ?_)))
     refine L_op (env' := uS9n100) rfl rfl (wS9n3 rfl rfl rfl) rfl ?_
     refine L_op (env' := uS9n100) rfl rfl (v_move (.inl rfl) rfl) rfl ?_
     refine L_nil ?_
     refine K_loop (mk 100 1266567402693854693756166471551) (env' := uS9n100) rfl ⟨⟨j + 1, _⟩, ?_, rfl, ?_⟩
     ·first | omega | (simp only []; omega)
     ·exact ⟨by omega, _, rfl, LV.pushL hY3 (app_flR (by omega))⟩
    ·try simp only [qB, qN] at hc12
     refine B_exit (K_seqX (K_loopX (K_blkX (K_seq (B_seq ?_)))))
     refine B_ghLVh (env' := uS9n100) 7 hl (by simp) rfl rfl fun X9 _ _ => ?_
     refine B_heap (List.append_assoc _ _ _) ?_
     refine B_region ?_
     refine L_op (env' := uS9n100) rfl rfl (v_move (.inl rfl) rfl) rfl ?_
     refine L_op (env' := uS9n100) rfl rfl (v_move (.inr rfl) rfl) rfl ?_
     refine L_op (env' := uS9n100) rfl rfl (v_const (VVal.int .i64 0) (.inr rfl) rfl) rfl ?_
     refine L_nil (K_seq (B_ret ?_))
     refine E_app (.inr rfl) (vres_tmp2 rfl rfl rfl) (by first | exact BaseOk.refl _ | exact BaseOk.set (BaseOk.refl _) _ rfl) (by first | rfl | (simp only [VVal.under, VVal.underL, Bool.and_true]; exact fl_under)) ?_
     first
       | exact ⟨by rw [flA_1 (by assumption)]; rfl, rfl⟩
       | (rw [List.take_of_length_le (by omega)]; exact ⟨by rw [flA_0 (by assumption), show pck p = 0 by assumption, flw_in (by omega)]; rfl, rfl⟩)
       | exact ⟨by rw [flA_0 (by assumption), show pck p = 0 by assumption, flw_len (by omega)]; rfl, rfl⟩

theorem sh_not0 {d : BitVec 64} {k : Nat} (h : ¬ d >>> k &&& 1#64 = 0#64) : d.getLsbD k = true := by rw [sh0] at h; simpa using h

theorem fFlaws_spec {x : SW} (H : VHeap) (p : Pb) (us : List Int) (g : Go.V.Good p) (hR : ∀ r, r ∈ p.rules → r.steps.length ≤ 1000000) (hu : us.length ≤ 1000000) : F (psys x) 14 [.agg (pbB p), fzI us] H fun v G => v = fzF (flw p us) ∧ G = H := by
 have g1 := g.n12; have g2 := g.u64; have g3 := g.r32; have g4 := g.u0; have g5 := g.fx
 have hbr := brk_len p.rules us
 refine F_body Try.func14 rfl uS9n114 rfl ?_
 refine B_seq (B_region ?_)
 refine L_op (env' := uS9n114) rfl rfl (v_boxT rfl rfl rfl) rfl ?_
 refine L_op (env' := uS9n114) rfl rfl (v_const (VVal.slice none 0 0 true 0) (.inr rfl) rfl) rfl ?_
 refine L_nil (K_seq (B_seq (B_region ?_)))
 refine L_op (env' := uS9n114) rfl rfl (v_const (VVal.slice none 0 0 true 0) (.inr rfl) rfl) rfl ?_
 refine L_nil (K_seq (B_seq (B_seq (B_region ?_))))
 refine L_op (env' := uS9n114) rfl rfl (v_move (.inl rfl) rfl) rfl ?_
 refine L_op (env' := uS9n114) rfl rfl (rfl) rfl ?_
 refine L_op (env' := uS9n114) rfl rfl (rfl) rfl ?_
 refine L_op (env' := uS9n114) rfl rfl (wS9n1 rfl rfl rfl rfl) rfl ?_
 refine L_op (env' := uS9n114) rfl rfl (rfl) rfl ?_
 refine L_op (env' := uS9n114) rfl rfl (rfl) rfl ?_
 refine L_nil (K_seq ?_)
 refine B_cond _ rfl (fun hc1 => ?_) (fun hc1 => ?_)
 ·try simp only [qB, qN] at hc1
  refine B_seq (B_region ?_)
  refine L_op (env' := uS9n114) rfl rfl (v_move (.inl rfl) rfl) rfl ?_
  refine L_op (env' := uS9n114) rfl rfl (rfl) rfl ?_
  refine L_op (env' := uS9n114) rfl rfl (v_buildSlice rfl rfl (by decide) rfl) rfl ?_
  refine L_opX rfl rfl (v_appX rfl rfl rfl rfl rfl rfl rfl (LV.nil _ _ _) rfl rfl (by decide) (by decide) (by decide)) ?_
  rintro _ _ ⟨Y1, rfl, rfl, hY1, hY2, hY3⟩
  refine L_env (env' := uS9n114) rfl ?_
  refine L_op (env' := uS9n114) rfl rfl (v_move (.inr rfl) rfl) rfl ?_
  refine L_nil (K_seq ?_)
  refine B_ghLV (env' := uS9n114) 4 hY3 rfl rfl fun X9 _ _ => ?_
  refine B_ret (K_seqR ?_)
  refine E_app (.inr rfl) (vres_tmp rfl rfl) (by first | exact BaseOk.refl _ | exact BaseOk.set (BaseOk.refl _) _ rfl) (by first | rfl | exact fl_under | simp [VVal.under, VVal.underL]) ?_
  first
    | exact ⟨by rw [flw_len (by omega)]; rfl, rfl⟩
    | (rw [List.take_of_length_le (by omega)]; exact ⟨by rw [flw_in (by omega)]; rfl, rfl⟩)
 ·try simp only [qB, qN] at hc1
  refine B_skip (K_seq (B_seq (B_seq (B_region ?_))))
  refine L_op (env' := uS9n114) rfl rfl (v_const (VVal.int .i64 0) (.inr rfl) rfl) rfl ?_
  refine L_nil (K_seq (B_block ?_))
  refine B_clear (mk 114 20769187434139310514121985316880281) (env' := uS9n114) rfl ?_
  refine B_loopE (fun (⟨k, lv⟩ : Nat × VVal) => us.length - k) (fun (⟨k, lv⟩ : Nat × VVal) => [(5, lv), (6, iI (k : Nat))]) (fun (⟨k, lv⟩ : Nat × VVal) G => (k ≤ us.length) ∧ ∃ X, G = (H ++ [VBlk.cells (pbB p) true]) ++ X ∧ LV (H.length + 1) 3 X lv ((flU p us k).flatMap flB) (flU p us k).length) ⟨0, _⟩ rfl ?_ ?_
  ·refine ⟨?_, ⟨[], (List.append_nil _).symm, LV.nil _ _ _⟩⟩
   exact Nat.zero_le _
  rintro ⟨k, lv⟩ _ ⟨hk, ⟨X, rfl, hl⟩⟩
  refine B_env (env' := uS9n114) rfl ?_
  have hfl := flU_len p us k
  refine B_seq (B_seq (B_region ?_))
  refine L_op (env' := uS9n114) rfl rfl (v_move (.inl rfl) rfl) rfl ?_
  refine L_op (env' := uS9n114) rfl rfl (v_move (.inl rfl) rfl) rfl ?_
  refine L_op (env' := uS9n114) rfl rfl (rfl) rfl ?_
  refine L_op (env' := uS9n114) rfl rfl (rfl) rfl ?_
  refine L_nil (K_seq ?_)
  refine B_cond _ rfl (fun hc2 => ?_) (fun hc2 => ?_)
  ·try simp only [qB, qN] at hc2
   refine B_skip (K_seq (B_seq (B_block (B_block (B_seq ?_)))))
   refine B_draw [0, 1, 2, 3, 4, 5, 6, 7, 8, 9, 10, 11, 12, 13, 14] #[0, 0, 3, 7, 15, 31, 63, 63, 255, 511, 63, 1087, 4095, 8191, 16383] (by kernel_rfl) (by kernel_rfl) (by kernel_rfl) ?_
   refine O_op (env' := uS9n114) (c := .calm) rfl rfl rfl (v_move (.inl rfl) rfl) rfl rfl rfl ?_
   refine O_op (env' := uS9n114) (c := .calm) rfl rfl rfl (v_move (.inl rfl) rfl) rfl rfl rfl ?_
   refine O_op (env' := uS9n114) (c := .calm) rfl rfl rfl (wS9n2 rfl rfl rfl rfl rfl rfl rfl) rfl rfl rfl ?_
   refine O_op (env' := uS9n114) (c := .look) rfl rfl rfl (wS9n1 rfl rfl rfl rfl) rfl rfl rfl ?_
   refine O_op (env' := uS9n114) (c := .calm) rfl rfl rfl (rfl) rfl rfl rfl ?_
   refine O_op (env' := uS9n114) (c := .calm) rfl rfl rfl (v_move (.inl rfl) rfl) rfl rfl rfl ?_
   refine O_split 31 (env1 := uS9n114) (env2 := uS9n114) rfl rfl rfl (fun hg3 => ?_) (fun hg3 => ?_)
   ·try simp only [qB, qN] at hg3
    refine O_off (env' := uS9n114) rfl rfl rfl rfl ?_
    refine O_off (env' := uS9n114) rfl rfl rfl rfl ?_
    refine O_off (env' := uS9n114) rfl rfl rfl rfl ?_
    refine O_off (env' := uS9n114) rfl rfl rfl rfl ?_
    refine O_off (env' := uS9n114) rfl rfl rfl rfl ?_
    refine O_off (env' := uS9n114) rfl rfl rfl rfl ?_
    refine O_off (env' := uS9n114) rfl rfl rfl rfl ?_
    refine O_op (env' := uS9n114) (c := .calm) rfl rfl rfl (v_pickTC (VVal.bool true) rfl rfl rfl) rfl rfl rfl ?_
    refine O_op (env' := uS9n114) (c := .calm) rfl rfl rfl (v_move (.inr rfl) rfl) rfl rfl rfl ?_
    refine O_nil [] (by kernel_rfl) (trivial) ?_
    refine K_seq ?_
    refine B_true rfl rfl ?_
    refine B_region ?_
    refine L_op (env' := uS9n114) rfl rfl (v_move (.inl rfl) rfl) rfl ?_
    refine L_op (env' := uS9n114) rfl rfl (v_move (.inl rfl) rfl) rfl ?_
    refine L_op (env' := uS9n114) rfl rfl (rfl) rfl ?_
    refine L_op (env' := uS9n114) rfl rfl (v_buildSlice rfl rfl (by decide) rfl) rfl ?_
    refine L_opX rfl rfl (v_appXh rfl rfl rfl rfl rfl rfl rfl (by simp) hl rfl rfl (by decide) (by show (_ + 1) * 24 ≤ _ ∧ _ + 1 ≤ _; omega) (by decide)) ?_
    rintro _ _ ⟨Y1, rfl, rfl, hY1, hY2, hY3⟩
    refine L_env (env' := uS9n114) rfl ?_
    refine L_op (env' := uS9n114) rfl rfl (v_move (.inr rfl) rfl) rfl ?_
    refine L_nil (K_blk (K_blk (K_seq (B_region ?_))))
    refine L_op (env' := uS9n114) rfl rfl (v_move (.inl rfl) rfl) rfl ?_
    refine L_op (env' := uS9n114) rfl rfl (wS9n3 rfl rfl rfl) rfl ?_
    refine L_op (env' := uS9n114) rfl rfl (v_move (.inr rfl) rfl) rfl ?_
    refine L_nil ?_
    refine K_loop (mk 114 20769187434139310514121985316880281) (env' := uS9n114) rfl ⟨⟨k + 1, _⟩, ?_, rfl, ?_⟩
    ·first | omega | (simp only []; omega)
    ·first | exact ⟨by omega, _, rfl, by rw [flU_no (by first | exact flk_0a (by omega) (by omega) (by omega) | exact flk_0b (by omega) (by omega) (sh_not0 (by assumption)))]; exact hl⟩ | exact ⟨by omega, _, rfl, LV.pushL hY3 (flU_yes (by first | exact flk_2 (by omega) | exact flk_3 (by omega) (by omega) (by omega) | exact flk_4 (by omega) (by omega) (sh0.1 (by assumption))) (by decide))⟩
   ·try simp only [qB, qN] at hg3
    refine O_op (env' := uS9n114) (c := .calm) rfl rfl rfl (v_move (.inl rfl) rfl) rfl rfl rfl ?_
    refine O_op (env' := uS9n114) (c := .calm) rfl rfl rfl (v_move (.inl rfl) rfl) rfl rfl rfl ?_
    refine O_op (env' := uS9n114) (c := .calm) rfl rfl rfl (wS9n2 rfl rfl rfl rfl rfl rfl rfl) rfl rfl rfl ?_
    refine O_op (env' := uS9n114) (c := .look) rfl rfl rfl (wS9n1 rfl rfl rfl rfl) rfl rfl rfl ?_
    refine O_op (env' := uS9n114) (c := .calm) rfl rfl rfl (rfl) rfl rfl rfl ?_
    refine O_op (env' := uS9n114) (c := .look) rfl rfl rfl (wS9n1 rfl rfl rfl rfl) rfl rfl rfl ?_
    refine O_op (env' := uS9n114) (c := .calm) rfl rfl rfl (rfl) rfl rfl rfl ?_
    refine O_op (env' := uS9n114) (c := .calm) rfl rfl rfl (v_pickF rfl rfl rfl) rfl rfl rfl ?_
    refine O_op (env' := uS9n114) (c := .calm) rfl rfl rfl (v_move (.inr rfl) rfl) rfl rfl rfl ?_
    refine O_nil [] (by kernel_rfl) (trivial) ?_
    refine K_seq ?_
    refine B_cond _ rfl (fun hc4 => ?_) (fun hc4 => ?_)
    ·try simp only [qB, qN] at hc4
     refine B_region ?_
     refine L_op (env' := uS9n114) rfl rfl (v_move (.inl rfl) rfl) rfl ?_
     refine L_op (env' := uS9n114) rfl rfl (v_move (.inl rfl) rfl) rfl ?_
     refine L_op (env' := uS9n114) rfl rfl (rfl) rfl ?_
     refine L_op (env' := uS9n114) rfl rfl (v_buildSlice rfl rfl (by decide) rfl) rfl ?_
     refine L_opX rfl rfl (v_appXh rfl rfl rfl rfl rfl rfl rfl (by simp) hl rfl rfl (by decide) (by show (_ + 1) * 24 ≤ _ ∧ _ + 1 ≤ _; omega) (by decide)) ?_
     rintro _ _ ⟨Y1, rfl, rfl, hY1, hY2, hY3⟩
     refine L_env (env' := uS9n114) rfl ?_
     refine L_op (env' := uS9n114) rfl rfl (v_move (.inr rfl) rfl) rfl ?_
     refine L_nil (K_blk (K_blk (K_seq (B_region ?_))))
     refine L_op (env' := uS9n114) rfl rfl (v_move (.inl rfl) rfl) rfl ?_
     refine L_op (env' := uS9n114) rfl rfl (wS9n3 rfl rfl rfl) rfl ?_
     refine L_op (env' := uS9n114) rfl rfl (v_move (.inr rfl) rfl) rfl ?_
     refine L_nil ?_
     refine K_loop (mk 114 20769187434139310514121985316880281) (env' := uS9n114) rfl ⟨⟨k + 1, _⟩, ?_, rfl, ?_⟩
     ·first | omega | (simp only []; omega)
     ·first | exact ⟨by omega, _, rfl, by rw [flU_no (by first | exact flk_0a (by omega) (by omega) (by omega) | exact flk_0b (by omega) (by omega) (sh_not0 (by assumption)))]; exact hl⟩ | exact ⟨by omega, _, rfl, LV.pushL hY3 (flU_yes (by first | exact flk_2 (by omega) | exact flk_3 (by omega) (by omega) (by omega) | exact flk_4 (by omega) (by omega) (sh0.1 (by assumption))) (by decide))⟩
    ·try simp only [qB, qN] at hc4
     refine B_seq ?_
     refine B_draw [0, 1, 2, 3, 4, 5, 6, 7, 8, 9, 10, 11, 12, 13, 14, 15, 16, 17, 18] #[0, 1, 0, 7, 15, 31, 63, 127, 127, 511, 1023, 127, 2175, 127, 14463, 30847, 65535, 131071, 262143] (by kernel_rfl) (by kernel_rfl) (by kernel_rfl) ?_
     refine O_op (env' := uS9n114) (c := .calm) rfl rfl rfl (rfl) rfl rfl rfl ?_
     refine O_op (env' := uS9n114) (c := .look) rfl rfl rfl (wS9n1 rfl rfl rfl rfl) rfl rfl rfl ?_
     refine O_op (env' := uS9n114) (c := .calm) rfl rfl rfl (v_move (.inl rfl) rfl) rfl rfl rfl ?_
     refine O_op (env' := uS9n114) (c := .calm) rfl rfl rfl (wS9n2 rfl rfl rfl rfl rfl rfl rfl) rfl rfl rfl ?_
     refine O_op (env' := uS9n114) (c := .look) rfl rfl rfl (wS9n1 rfl rfl rfl rfl) rfl rfl rfl ?_
     refine O_op (env' := uS9n114) (c := .calm) rfl rfl rfl (rfl) rfl rfl rfl ?_
     refine O_op (env' := uS9n114) (c := .calm) rfl rfl rfl (v_move (.inl rfl) rfl) rfl rfl rfl ?_
     refine O_split 52 (env1 := uS9n114) (env2 := uS9n114) rfl rfl rfl (fun hg5 => ?_) (fun hg5 => ?_)
     ·try simp only [qB, qN] at hg5
      refine O_op (env' := uS9n114) (c := .calm) rfl rfl rfl (v_move (.inl rfl) rfl) rfl rfl rfl ?_
      refine O_op (env' := uS9n114) (c := .calm) rfl rfl rfl (v_move (.inl rfl) rfl) rfl rfl rfl ?_
      refine O_op (env' := uS9n114) (c := .calm) rfl rfl rfl (wS9n2 rfl rfl rfl rfl rfl rfl rfl) rfl rfl rfl ?_
      refine O_op (env' := uS9n114) (c := .look) rfl rfl rfl (wS9n1 rfl rfl rfl rfl) rfl rfl rfl ?_
      refine O_op (env' := uS9n114) (c := .calm) rfl rfl rfl (rfl) rfl rfl rfl ?_
      refine O_op (env' := uS9n114) (c := .look) rfl rfl rfl (wS9n1 rfl rfl rfl rfl) rfl rfl rfl ?_
      refine O_op (env' := uS9n114) (c := .calm) rfl rfl rfl (v_move (.inl rfl) rfl) rfl rfl rfl ?_
      refine O_op (env' := uS9n114) (c := .calm) rfl rfl rfl (wS9n2 rfl rfl rfl rfl rfl rfl rfl) rfl rfl rfl ?_
      refine O_op (env' := uS9n114) (c := .look) rfl rfl rfl (wS9n1 rfl rfl rfl rfl) rfl rfl rfl ?_
      refine O_op (env' := uS9n114) (c := .calm) rfl rfl rfl (rfl) rfl rfl rfl ?_
      refine O_op (env' := uS9n114) (c := .calm) rfl rfl rfl (v_pickT rfl rfl rfl) rfl rfl rfl ?_
      refine O_op (env' := uS9n114) (c := .calm) rfl rfl rfl (v_move (.inr rfl) rfl) rfl rfl rfl ?_
      refine O_nil [] (by kernel_rfl) (trivial) ?_
      refine K_seq ?_
      refine B_cond _ rfl (fun hc6 => ?_) (fun hc6 => ?_)
      ·try simp only [qB, qN] at hc6
       refine B_region ?_
       refine L_op (env' := uS9n114) rfl rfl (v_move (.inl rfl) rfl) rfl ?_
       refine L_op (env' := uS9n114) rfl rfl (v_move (.inl rfl) rfl) rfl ?_
       refine L_op (env' := uS9n114) rfl rfl (rfl) rfl ?_
       refine L_op (env' := uS9n114) rfl rfl (v_buildSlice rfl rfl (by decide) rfl) rfl ?_
       refine L_opX rfl rfl (v_appXh rfl rfl rfl rfl rfl rfl rfl (by simp) hl rfl rfl (by decide) (by show (_ + 1) * 24 ≤ _ ∧ _ + 1 ≤ _; omega) (by decide)) ?_
       rintro _ _ ⟨Y1, rfl, rfl, hY1, hY2, hY3⟩
       refine L_env (env' := uS9n114) rfl ?_
       refine L_op (env' := uS9n114) rfl rfl (v_move (.inr rfl) rfl) rfl ?_
       refine L_nil (K_blk (K_blk (K_seq (B_region ?_))))
       refine L_op (env' := uS9n114) rfl rfl (v_move (.inl rfl) rfl) rfl ?_
       refine L_op (env' := uS9n114) rfl rfl (wS9n3 rfl rfl rfl) rfl ?_
       refine L_op (env' := uS9n114) rfl rfl (v_move (.inr rfl) rfl) rfl ?_
       refine L_nil ?_
       refine K_loop (mk 114 20769187434139310514121985316880281) (env' := uS9n114) rfl ⟨⟨k + 1, _⟩, ?_, rfl, ?_⟩
       ·first | omega | (simp only []; omega)
       ·first | exact ⟨by omega, _, rfl, by rw [flU_no (by first | exact flk_0a (by omega) (by omega) (by omega) | exact flk_0b (by omega) (by omega) (sh_not0 (by assumption)))]; exact hl⟩ | exact ⟨by omega, _, rfl, LV.pushL hY3 (flU_yes (by first | exact flk_2 (by omega) | exact flk_3 (by omega) (by omega) (by omega) | exact flk_4 (by omega) (by omega) (sh0.1 (by assumption))) (by decide))⟩
      ·try simp only [qB, qN] at hc6
       refine B_seq ?_
       refine B_draw [0, 1, 2, 3, 4, 5, 6, 7, 8, 9, 10, 11, 12, 13, 14, 15, 16, 17, 18, 19, 20] #[0, 1, 0, 7, 15, 31, 63, 127, 255, 127, 1023, 2047, 127, 127, 12415, 28799, 65535, 131071, 262143, 524287, 1048575] (by kernel_rfl) (by kernel_rfl) (by kernel_rfl) ?_
       refine O_op (env' := uS9n114) (c := .calm) rfl rfl rfl (rfl) rfl rfl rfl ?_
       refine O_op (env' := uS9n114) (c := .look) rfl rfl rfl (wS9n1 rfl rfl rfl rfl) rfl rfl rfl ?_
       refine O_op (env' := uS9n114) (c := .calm) rfl rfl rfl (v_move (.inl rfl) rfl) rfl rfl rfl ?_
       refine O_op (env' := uS9n114) (c := .calm) rfl rfl rfl (wS9n2 rfl rfl rfl rfl rfl rfl rfl) rfl rfl rfl ?_
       refine O_op (env' := uS9n114) (c := .look) rfl rfl rfl (wS9n1 rfl rfl rfl rfl) rfl rfl rfl ?_
       refine O_op (env' := uS9n114) (c := .calm) rfl rfl rfl (rfl) rfl rfl rfl ?_
       refine O_op (env' := uS9n114) (c := .calm) rfl rfl rfl (v_move (.inl rfl) rfl) rfl rfl rfl ?_
       refine O_split 76 (env1 := uS9n114) (env2 := uS9n114) rfl rfl rfl (fun hg7 => ?_) (fun hg7 => ?_)
       ·try simp only [qB, qN] at hg7
        refine O_op (env' := uS9n114) (c := .calm) rfl rfl rfl (rfl) rfl rfl rfl ?_
        refine O_op (env' := uS9n114) (c := .look) rfl rfl rfl (wS9n1 rfl rfl rfl rfl) rfl rfl rfl ?_
        refine O_op (env' := uS9n114) (c := .calm) rfl rfl rfl (v_move (.inl rfl) rfl) rfl rfl rfl ?_
        refine O_op (env' := uS9n114) (c := .calm) rfl rfl rfl (wS9n2 rfl rfl rfl rfl rfl rfl rfl) rfl rfl rfl ?_
        refine O_op (env' := uS9n114) (c := .look) rfl rfl rfl (wS9n1 rfl rfl rfl rfl) rfl rfl rfl ?_
        refine O_op (env' := uS9n114) (c := .calm) rfl rfl rfl (v_move (.inl rfl) rfl) rfl rfl rfl ?_
        refine O_op (env' := uS9n114) (c := .calm) rfl rfl rfl (v_move (.inl rfl) rfl) rfl rfl rfl ?_
        refine O_op (env' := uS9n114) (c := .calm) rfl rfl rfl (wS9n2 rfl rfl rfl rfl rfl rfl rfl) rfl rfl rfl ?_
        refine O_op (env' := uS9n114) (c := .look) rfl rfl rfl (wS9n1 rfl rfl rfl rfl) rfl rfl rfl ?_
        refine O_op (env' := uS9n114) (c := .calm) rfl rfl rfl (v_shrW rfl rfl rfl (by first | assumption | omega | (simp [*]; done) | (simp at *; omega))) rfl rfl rfl ?_
        refine O_op (env' := uS9n114) (c := .calm) rfl rfl rfl (v_andW (b := 1#64) rfl rfl rfl) rfl rfl rfl ?_
        refine O_op (env' := uS9n114) (c := .calm) rfl rfl rfl (rfl) rfl rfl rfl ?_
        refine O_op (env' := uS9n114) (c := .calm) rfl rfl rfl (v_pickT rfl rfl rfl) rfl rfl rfl ?_
        refine O_op (env' := uS9n114) (c := .calm) rfl rfl rfl (v_move (.inr rfl) rfl) rfl rfl rfl ?_
        refine O_nil [] (by kernel_rfl) (trivial) ?_
        refine K_seq ?_
        refine B_cond _ rfl (fun hc8 => ?_) (fun hc8 => ?_)
        ·try simp only [qB, qN] at hc8
         refine B_region ?_
         refine L_op (env' := uS9n114) rfl rfl (v_move (.inl rfl) rfl) rfl ?_
         refine L_op (env' := uS9n114) rfl rfl (v_move (.inl rfl) rfl) rfl ?_
         refine L_op (env' := uS9n114) rfl rfl (rfl) rfl ?_
         refine L_op (env' := uS9n114) rfl rfl (v_buildSlice rfl rfl (by decide) rfl) rfl ?_
         refine L_opX rfl rfl (v_appXh rfl rfl rfl rfl rfl rfl rfl (by simp) hl rfl rfl (by decide) (by show (_ + 1) * 24 ≤ _ ∧ _ + 1 ≤ _; omega) (by decide)) ?_
         rintro _ _ ⟨Y1, rfl, rfl, hY1, hY2, hY3⟩
         refine L_env (env' := uS9n114) rfl ?_
         refine L_op (env' := uS9n114) rfl rfl (v_move (.inr rfl) rfl) rfl ?_
         refine L_nil (K_blk (K_blk (K_seq (B_region ?_))))
         refine L_op (env' := uS9n114) rfl rfl (v_move (.inl rfl) rfl) rfl ?_
         refine L_op (env' := uS9n114) rfl rfl (wS9n3 rfl rfl rfl) rfl ?_
         refine L_op (env' := uS9n114) rfl rfl (v_move (.inr rfl) rfl) rfl ?_
         refine L_nil ?_
         refine K_loop (mk 114 20769187434139310514121985316880281) (env' := uS9n114) rfl ⟨⟨k + 1, _⟩, ?_, rfl, ?_⟩
         ·first | omega | (simp only []; omega)
         ·first | exact ⟨by omega, _, rfl, by rw [flU_no (by first | exact flk_0a (by omega) (by omega) (by omega) | exact flk_0b (by omega) (by omega) (sh_not0 (by assumption)))]; exact hl⟩ | exact ⟨by omega, _, rfl, LV.pushL hY3 (flU_yes (by first | exact flk_2 (by omega) | exact flk_3 (by omega) (by omega) (by omega) | exact flk_4 (by omega) (by omega) (sh0.1 (by assumption))) (by decide))⟩
        ·try simp only [qB, qN] at hc8
         refine B_skip (K_blk (K_blk (K_seq (B_region ?_))))
         refine L_op (env' := uS9n114) rfl rfl (v_move (.inl rfl) rfl) rfl ?_
         refine L_op (env' := uS9n114) rfl rfl (wS9n3 rfl rfl rfl) rfl ?_
         refine L_op (env' := uS9n114) rfl rfl (v_move (.inr rfl) rfl) rfl ?_
         refine L_nil ?_
         refine K_loop (mk 114 20769187434139310514121985316880281) (env' := uS9n114) rfl ⟨⟨k + 1, _⟩, ?_, rfl, ?_⟩
         ·first | omega | (simp only []; omega)
         ·first | exact ⟨by omega, _, rfl, by rw [flU_no (by first | exact flk_0a (by omega) (by omega) (by omega) | exact flk_0b (by omega) (by omega) (sh_not0 (by assumption)))]; exact hl⟩ | exact ⟨by omega, _, rfl, LV.pushL hY3 (flU_yes (by first | exact flk_2 (by omega) | exact flk_3 (by omega) (by omega) (by omega) | exact flk_4 (by omega) (by omega) (sh0.1 (by assumption))) (by decide))⟩
       ·try simp only [qB, qN] at hg7
        refine O_off (env' := uS9n114) rfl rfl rfl rfl ?_
        refine O_off (env' := uS9n114) rfl rfl rfl rfl ?_
        refine O_off (env' := uS9n114) rfl rfl rfl rfl ?_
        refine O_off (env' := uS9n114) rfl rfl rfl rfl ?_
        refine O_off (env' := uS9n114) rfl rfl rfl rfl ?_
        refine O_off (env' := uS9n114) rfl rfl rfl rfl ?_
        refine O_off (env' := uS9n114) rfl rfl rfl rfl ?_
        refine O_off (env' := uS9n114) rfl rfl rfl rfl ?_
        refine O_off (env' := uS9n114) rfl rfl rfl rfl ?_
        refine O_off (env' := uS9n114) rfl rfl rfl rfl ?_
        refine O_off (env' := uS9n114) rfl rfl rfl rfl ?_
        refine O_off (env' := uS9n114) rfl rfl rfl rfl ?_
        refine O_op (env' := uS9n114) (c := .calm) rfl rfl rfl (v_pickFC (VVal.bool false) rfl rfl rfl) rfl rfl rfl ?_
        refine O_op (env' := uS9n114) (c := .calm) rfl rfl rfl (v_move (.inr rfl) rfl) rfl rfl rfl ?_
        refine O_nil [] (by kernel_rfl) (trivial) ?_
        refine K_seq ?_
        refine B_false rfl rfl ?_
        refine B_skip (K_blk (K_blk (K_seq (B_region ?_))))
        refine L_op (env' := uS9n114) rfl rfl (v_move (.inl rfl) rfl) rfl ?_
        refine L_op (env' := uS9n114) rfl rfl (wS9n3 rfl rfl rfl) rfl ?_
        refine L_op (env' := uS9n114) rfl rfl (v_move (.inr rfl) rfl) rfl ?_
        refine L_nil ?_
        refine K_loop (mk 114 20769187434139310514121985316880281) (env' := uS9n114) rfl ⟨⟨k + 1, _⟩, ?_, rfl, ?_⟩
        ·first | omega | (simp only []; omega)
        ·first | exact ⟨by omega, _, rfl, by rw [flU_no (by first | exact flk_0a (by omega) (by omega) (by omega) | exact flk_0b (by omega) (by omega) (sh_not0 (by assumption)))]; exact hl⟩ | exact ⟨by omega, _, rfl, LV.pushL hY3 (flU_yes (by first | exact flk_2 (by omega) | exact flk_3 (by omega) (by omega) (by omega) | exact flk_4 (by omega) (by omega) (sh0.1 (by assumption))) (by decide))⟩
     ·try simp only [qB, qN] at hg5
      refine O_off (env' := uS9n114) rfl rfl rfl rfl ?_
      refine O_off (env' := uS9n114) rfl rfl rfl rfl ?_
      refine O_off (env' := uS9n114) rfl rfl rfl rfl ?_
      refine O_off (env' := uS9n114) rfl rfl rfl rfl ?_
      refine O_off (env' := uS9n114) rfl rfl rfl rfl ?_
      refine O_off (env' := uS9n114) rfl rfl rfl rfl ?_
      refine O_off (env' := uS9n114) rfl rfl rfl rfl ?_
      refine O_off (env' := uS9n114) rfl rfl rfl rfl ?_
      refine O_off (env' := uS9n114) rfl rfl rfl rfl ?_
      refine O_off (env' := uS9n114) rfl rfl rfl rfl ?_
      refine O_op (env' := uS9n114) (c := .calm) rfl rfl rfl (v_pickFC (VVal.bool false) rfl rfl rfl) rfl rfl rfl ?_
      refine O_op (env' := uS9n114) (c := .calm) rfl rfl rfl (v_move (.inr rfl) rfl) rfl rfl rfl ?_
      refine O_nil [] (by kernel_rfl) (trivial) ?_
      refine K_seq ?_
      refine B_false rfl rfl ?_
      refine B_seq ?_
      refine B_draw [0, 1, 2, 3, 4, 5, 6, 7, 8, 9, 10, 11, 12, 13, 14, 15, 16, 17, 18, 19, 20] #[0, 1, 0, 7, 15, 31, 63, 127, 255, 127, 1023, 2047, 127, 127, 12415, 28799, 65535, 131071, 262143, 524287, 1048575] (by kernel_rfl) (by kernel_rfl) (by kernel_rfl) ?_
      refine O_op (env' := uS9n114) (c := .calm) rfl rfl rfl (rfl) rfl rfl rfl ?_
      refine O_op (env' := uS9n114) (c := .look) rfl rfl rfl (wS9n1 rfl rfl rfl rfl) rfl rfl rfl ?_
      refine O_op (env' := uS9n114) (c := .calm) rfl rfl rfl (v_move (.inl rfl) rfl) rfl rfl rfl ?_
      refine O_op (env' := uS9n114) (c := .calm) rfl rfl rfl (wS9n2 rfl rfl rfl rfl rfl rfl rfl) rfl rfl rfl ?_
      refine O_op (env' := uS9n114) (c := .look) rfl rfl rfl (wS9n1 rfl rfl rfl rfl) rfl rfl rfl ?_
      refine O_op (env' := uS9n114) (c := .calm) rfl rfl rfl (rfl) rfl rfl rfl ?_
      refine O_op (env' := uS9n114) (c := .calm) rfl rfl rfl (v_move (.inl rfl) rfl) rfl rfl rfl ?_
      refine O_split 76 (env1 := uS9n114) (env2 := uS9n114) rfl rfl rfl (fun hg9 => ?_) (fun hg9 => ?_)
      ·try simp only [qB, qN] at hg9
       refine O_op (env' := uS9n114) (c := .calm) rfl rfl rfl (rfl) rfl rfl rfl ?_
       refine O_op (env' := uS9n114) (c := .look) rfl rfl rfl (wS9n1 rfl rfl rfl rfl) rfl rfl rfl ?_
       refine O_op (env' := uS9n114) (c := .calm) rfl rfl rfl (v_move (.inl rfl) rfl) rfl rfl rfl ?_
       refine O_op (env' := uS9n114) (c := .calm) rfl rfl rfl (wS9n2 rfl rfl rfl rfl rfl rfl rfl) rfl rfl rfl ?_
       refine O_op (env' := uS9n114) (c := .look) rfl rfl rfl (wS9n1 rfl rfl rfl rfl) rfl rfl rfl ?_
       refine O_op (env' := uS9n114) (c := .calm) rfl rfl rfl (v_move (.inl rfl) rfl) rfl rfl rfl ?_
       refine O_op (env' := uS9n114) (c := .calm) rfl rfl rfl (v_move (.inl rfl) rfl) rfl rfl rfl ?_
       refine O_op (env' := uS9n114) (c := .calm) rfl rfl rfl (wS9n2 rfl rfl rfl rfl rfl rfl rfl) rfl rfl rfl ?_
       refine O_op (env' := uS9n114) (c := .look) rfl rfl rfl (wS9n1 rfl rfl rfl rfl) rfl rfl rfl ?_
       refine O_op (env' := uS9n114) (c := .calm) rfl rfl rfl (v_shrW rfl rfl rfl (by first | assumption | omega | (simp [*]; done) | (simp at *; omega))) rfl rfl rfl ?_
       refine O_op (env' := uS9n114) (c := .calm) rfl rfl rfl (v_andW (b := 1#64) rfl rfl rfl) rfl rfl rfl ?_
       refine O_op (env' := uS9n114) (c := .calm) rfl rfl rfl (rfl) rfl rfl rfl ?_
       refine O_op (env' := uS9n114) (c := .calm) rfl rfl rfl (v_pickT rfl rfl rfl) rfl rfl rfl ?_
       refine O_op (env' := uS9n114) (c := .calm) rfl rfl rfl (v_move (.inr rfl) rfl) rfl rfl rfl ?_
       refine O_nil [] (by kernel_rfl) (trivial) ?_
       refine K_seq ?_
       refine B_cond _ rfl (fun hc10 => ?_) (fun hc10 => ?_)
       ·try simp only [qB, qN] at hc10
        refine B_region ?_
        refine L_op (env' := uS9n114) rfl rfl (v_move (.inl rfl) rfl) rfl ?_
        refine L_op (env' := uS9n114) rfl rfl (v_move (.inl rfl) rfl) rfl ?_
        refine L_op (env' := uS9n114) rfl rfl (rfl) rfl ?_
        refine L_op (env' := uS9n114) rfl rfl (v_buildSlice rfl rfl (by decide) rfl) rfl ?_
        refine L_opX rfl rfl (v_appXh rfl rfl rfl rfl rfl rfl rfl (by simp) hl rfl rfl (by decide) (by show (_ + 1) * 24 ≤ _ ∧ _ + 1 ≤ _; omega) (by decide)) ?_
        rintro _ _ ⟨Y1, rfl, rfl, hY1, hY2, hY3⟩
        refine L_env (env' := uS9n114) rfl ?_
        refine L_op (env' := uS9n114) rfl rfl (v_move (.inr rfl) rfl) rfl ?_
        refine L_nil (K_blk (K_blk (K_seq (B_region ?_))))
        refine L_op (env' := uS9n114) rfl rfl (v_move (.inl rfl) rfl) rfl ?_
        refine L_op (env' := uS9n114) rfl rfl (wS9n3 rfl rfl rfl) rfl ?_
        refine L_op (env' := uS9n114) rfl rfl (v_move (.inr rfl) rfl) rfl ?_
        refine L_nil ?_
        refine K_loop (mk 114 20769187434139310514121985316880281) (env' := uS9n114) rfl ⟨⟨k + 1, _⟩, ?_, rfl, ?_⟩
        ·first | omega | (simp only []; omega)
        ·first | exact ⟨by omega, _, rfl, by rw [flU_no (by first | exact flk_0a (by omega) (by omega) (by omega) | exact flk_0b (by omega) (by omega) (sh_not0 (by assumption)))]; exact hl⟩ | exact ⟨by omega, _, rfl, LV.pushL hY3 (flU_yes (by first | exact flk_2 (by omega) | exact flk_3 (by omega) (by omega) (by omega) | exact flk_4 (by omega) (by omega) (sh0.1 (by assumption))) (by decide))⟩
       ·try simp only [qB, qN] at hc10
        refine B_skip (K_blk (K_blk (K_seq (B_region ?_))))
        refine L_op (env' := uS9n114) rfl rfl (v_move (.inl rfl) rfl) rfl ?_
        refine L_op (env' := uS9n114) rfl rfl (wS9n3 rfl rfl rfl) rfl ?_
        refine L_op (env' := uS9n114) rfl rfl (v_move (.inr rfl) rfl) rfl ?_
        refine L_nil ?_
        refine K_loop (mk 114 20769187434139310514121985316880281) (env' := uS9n114) rfl ⟨⟨k + 1, _⟩, ?_, rfl, ?_⟩
        ·first | omega | (simp only []; omega)
        ·first | exact ⟨by omega, _, rfl, by rw [flU_no (by first | exact flk_0a (by omega) (by omega) (by omega) | exact flk_0b (by omega) (by omega) (sh_not0 (by assumption)))]; exact hl⟩ | exact ⟨by omega, _, rfl, LV.pushL hY3 (flU_yes (by first | exact flk_2 (by omega) | exact flk_3 (by omega) (by omega) (by omega) | exact flk_4 (by omega) (by omega) (sh0.1 (by assumption))) (by decide))⟩
      ·try simp only [qB, qN] at hg9
       refine O_off (env' := uS9n114) rfl rfl rfl rfl ?_
       refine O_off (env' := uS9n114) rfl rfl rfl rfl ?_
       refine O_off (env' := uS9n114) rfl rfl rfl rfl ?_
       refine O_off (env' := uS9n114) rfl rfl rfl rfl ?_
       refine O_off (env' := uS9n114) rfl rfl rfl rfl ?_
       refine O_off (env' := uS9n114) rfl rfl rfl rfl ?_
       refine O_off (env' := uS9n114) rfl rfl rfl rfl ?_
       refine O_off (env' := uS9n114) rfl rfl rfl rfl ?_
       refine O_off (env' := uS9n114) rfl rfl rfl rfl ?_
       refine O_off (env' := uS9n114) rfl rfl rfl rfl ?_
       refine O_off (env' := uS9n114) rfl rfl rfl rfl ?_
       refine O_off (env' := uS9n114) rfl rfl rfl rfl ?_
       refine O_op (env' := uS9n114) (c := .calm) rfl rfl rfl (v_pickFC (VVal.bool false) rfl rfl rfl) rfl rfl rfl ?_
       refine O_op (env' := uS9n114) (c := .calm) rfl rfl rfl (v_move (.inr rfl) rfl) rfl rfl rfl ?_
       refine O_nil [] (by kernel_rfl) (trivial) ?_
       refine K_seq ?_
       refine B_false rfl rfl ?_
       refine B_skip (K_blk (K_blk (K_seq (B_region ?_))))
       refine L_op (env' := uS9n114) rfl rfl (v_move (.inl rfl) rfl) rfl ?_
       refine L_op (env' := uS9n114) rfl rfl (wS9n3 rfl rfl rfl) rfl ?_
       refine L_op (env' := uS9n114) rfl rfl (v_move (.inr rfl) rfl) rfl ?_
       refine L_nil ?_
       refine K_loop (mk 114 20769187434139310514121985316880281) (env' := uS9n114) rfl ⟨⟨k + 1, _⟩, ?_, rfl, ?_⟩
       ·first | omega | (simp only []; omega)
       ·first | exact ⟨by omega, _, rfl, by rw [flU_no (by first | exact flk_0a (by omega) (by omega) (by omega) | exact flk_0b (by omega) (by omega) (sh_not0 (by assumption)))]; exact hl⟩ | exact ⟨by omega, _, rfl, LV.pushL hY3 (flU_yes (by first | exact flk_2 (by omega) | exact flk_3 (by omega) (by omega) (by omega) | exact flk_4 (by omega) (by omega) (sh0.1 (by assumption))) (by decide))⟩
  ·try simp only [qB, qN] at hc2
   refine B_exit (K_seqX (K_loopX (K_blkX (K_seq (B_seq ?_)))))
   obtain rfl : k = us.length := by omega
   refine B_region ?_
   refine L_op (env' := uS9n114) rfl rfl (rfl) rfl ?_
   refine L_op (env' := uS9n114) rfl rfl (wS9n1 rfl rfl rfl rfl) rfl ?_
   refine L_op (env' := uS9n114) rfl rfl (v_move (.inl rfl) rfl) rfl ?_
   refine L_call rfl rfl rfl (by exact fBroken_spec _ _ _ hR (by omega)) ?_
   rintro _ _ ⟨rfl, rfl⟩
   refine L_env (env' := uS9n114) rfl ?_
   refine L_op (env' := uS9n114) rfl rfl (v_move (.inr rfl) rfl) rfl ?_
   refine L_nil (K_seq (B_seq (B_seq (B_region ?_))))
   refine L_op (env' := uS9n114) rfl rfl (v_const (VVal.int .i64 0) (.inr rfl) rfl) rfl ?_
   refine L_nil (K_seq (B_block ?_))
   refine B_clear (mk 114 20769187434139310514121985316879967) (env' := uS9n114) rfl ?_
   refine B_loopE (fun (⟨j, lv⟩ : Nat × VVal) => (brk p.rules us).length - j) (fun (⟨j, lv⟩ : Nat × VVal) => [(5, lv), (8, iI (j : Nat))]) (fun (⟨j, lv⟩ : Nat × VVal) G => (j ≤ (brk p.rules us).length) ∧ ∃ X, G = (H ++ [VBlk.cells (pbB p) true]) ++ X ∧ LV (H.length + 1) 3 X lv ((flU p us us.length ++ flR ((brk p.rules us).take j)).flatMap flB) (flU p us us.length ++ flR ((brk p.rules us).take j)).length) ⟨0, _⟩ rfl ?_ ?_
   ·refine ⟨?_, ⟨X, rfl, by show LV _ _ _ _ ((flU p us us.length ++ []).flatMap flB) (flU p us us.length ++ []).length; rw [List.append_nil]; exact hl⟩⟩
    exact Nat.zero_le _
   rintro ⟨j, lv⟩ _ ⟨hj, ⟨X, rfl, hl⟩⟩
   refine B_env (env' := uS9n114) rfl ?_
   refine B_seq (B_seq ?_)
   have hfl := flU_len p us us.length
   refine B_region ?_
   refine L_op (env' := uS9n114) rfl rfl (v_move (.inl rfl) rfl) rfl ?_
   refine L_op (env' := uS9n114) rfl rfl (v_move (.inl rfl) rfl) rfl ?_
   refine L_op (env' := uS9n114) rfl rfl (rfl) rfl ?_
   refine L_op (env' := uS9n114) rfl rfl (rfl) rfl ?_
   refine L_nil (K_seq ?_)
   refine B_cond _ rfl (fun hc11 => ?_) (fun hc11 => ?_)
   ·try simp only [qB, qN] at hc11
    refine B_skip (K_seq (B_seq (B_block (B_region ?_))))
    refine L_op (env' := uS9n114) rfl rfl (v_move (.inl rfl) rfl) rfl ?_
    refine L_op (env' := uS9n114) rfl rfl (v_move (.inl rfl) rfl) rfl ?_
    refine L_op (env' := uS9n114) rfl rfl (v_move (.inl rfl) rfl) rfl ?_
    refine L_op (env' := uS9n114) rfl rfl (wS9n2 rfl rfl rfl rfl rfl rfl rfl) rfl ?_
    refine L_op (env' := uS9n114) rfl rfl (wS9n1 rfl rfl rfl rfl) rfl ?_
    refine L_op (env' := uS9n114) rfl rfl (rfl) rfl ?_
    refine L_op (env' := uS9n114) rfl rfl (v_buildSlice rfl rfl (by decide) rfl) rfl ?_
    refine L_opX rfl rfl (v_appXh rfl rfl rfl rfl rfl rfl rfl (by simp) hl rfl rfl (by decide) (by rw [List.length_append, flR_len, List.length_take]; show (_ + 1) * 24 ≤ _ ∧ _ + 1 ≤ _; omega) (by decide)) ?_
    rintro _ _ ⟨Y1, rfl, rfl, hY1, hY2, hY3⟩
    refine L_env (env' := uS9n114) rfl ?_
    refine L_op (env' := uS9n114) rfl rfl (v_move (.inr rfl) rfl) rfl ?_
    refine L_nil (K_blk (K_seq (B_region ?_)))
    refine L_op (env' := uS9n114) rfl rfl (v_move (.inl rfl) rfl) rfl ?_
    refine L_op (env' := uS9n114) rfl rfl (wS9n3 rfl rfl rfl) rfl ?_
    refine L_op (env' := uS9n114) rfl rfl (v_move (.inr rfl) rfl) rfl ?_
    refine L_nil ?_
    refine K_loop (mk 114 20769187434139310514121985316879967) (env' := uS9n114) rfl ⟨⟨j + 1, _⟩, ?_, rfl, ?_⟩
    ·first | omega | (simp only []; omega)
    ·exact ⟨by omega, _, rfl, LV.pushL hY3 (app_flR (by omega))⟩
   ·try simp only [qB, qN] at hc11
    refine B_exit (K_seqX (K_loopX (K_blkX (K_seq (B_seq ?_)))))
    refine B_ghLVh (env' := uS9n114) 5 hl (by simp) rfl rfl fun X9 _ _ => ?_
    refine B_heap (List.append_assoc _ _ _) ?_
    refine B_region ?_
    refine L_op (env' := uS9n114) rfl rfl (v_move (.inl rfl) rfl) rfl ?_
    refine L_op (env' := uS9n114) rfl rfl (v_move (.inr rfl) rfl) rfl ?_
    refine L_nil (K_seq (B_ret ?_))
    refine E_app (.inr rfl) (vres_tmp rfl rfl) (by first | exact BaseOk.refl _ | exact BaseOk.set (BaseOk.refl _) _ rfl) (by first | rfl | exact fl_under | simp [VVal.under, VVal.underL]) ?_
    first
      | exact ⟨by rw [flw_len (by omega)]; rfl, rfl⟩
      | (rw [List.take_of_length_le (by omega)]; exact ⟨by rw [flw_in (by omega)]; rfl, rfl⟩)

theorem flEq_spec {x : SW} (H : VHeap) (l : List (Int × Int × Int)) (hl : l.length ≤ 1000000) : F (psys x) 13 [fzF l, fzF l] H fun v G => v = .bool true ∧ G = H := by
 refine F_body Try.func13 rfl uS9n26 rfl ?_
 refine B_seq (B_region ?_)
 refine L_op (env' := uS9n26) rfl rfl (v_const (VVal.bool false) (.inr rfl) rfl) rfl ?_
 refine L_nil (K_seq (B_seq (B_seq (B_region ?_))))
 refine L_op (env' := uS9n26) rfl rfl (v_move (.inl rfl) rfl) rfl ?_
 refine L_op (env' := uS9n26) rfl rfl (rfl) rfl ?_
 refine L_op (env' := uS9n26) rfl rfl (v_move (.inl rfl) rfl) rfl ?_
 refine L_op (env' := uS9n26) rfl rfl (rfl) rfl ?_
 refine L_op (env' := uS9n26) rfl rfl (v_is false rfl (by simp)) rfl ?_
 refine L_nil (K_seq ?_)
 refine B_false rfl rfl ?_
 refine B_skip (K_seq (B_seq (B_seq (B_region ?_))))
 refine L_op (env' := uS9n26) rfl rfl (v_const (VVal.int .i64 0) (.inr rfl) rfl) rfl ?_
 refine L_nil (K_seq (B_block ?_))
 refine B_clear (mk 26 67108828) (env' := uS9n26) rfl ?_
 refine B_loopE (fun (k : Nat) => l.length - k) (fun (k : Nat) => [(5, iI (k : Nat))]) (fun (k : Nat) G => (k ≤ l.length) ∧ G = H ++ []) 0 rfl ?_ ?_
 ·refine ⟨?_, rfl⟩
  exact Nat.zero_le _
 rintro k _ ⟨hk, rfl⟩
 refine B_env (env' := uS9n26) rfl ?_
 refine B_seq (B_seq (B_region ?_))
 refine L_op (env' := uS9n26) rfl rfl (v_move (.inl rfl) rfl) rfl ?_
 refine L_op (env' := uS9n26) rfl rfl (v_move (.inl rfl) rfl) rfl ?_
 refine L_op (env' := uS9n26) rfl rfl (rfl) rfl ?_
 refine L_op (env' := uS9n26) rfl rfl (rfl) rfl ?_
 refine L_nil (K_seq ?_)
 refine B_cond _ rfl (fun hc1 => ?_) (fun hc1 => ?_)
 ·try simp only [qB, qN] at hc1
  refine B_skip (K_seq (B_seq (B_block (B_seq ?_))))
  refine B_draw [0, 1, 2, 3, 4, 5, 6, 7, 8] #[0, 0, 3, 7, 0, 0, 48, 112, 255] (by kernel_rfl) (by kernel_rfl) (by kernel_rfl) ?_
  refine O_op (env' := uS9n26) (c := .calm) rfl rfl rfl (v_move (.inl rfl) rfl) rfl rfl rfl ?_
  refine O_op (env' := uS9n26) (c := .calm) rfl rfl rfl (v_move (.inl rfl) rfl) rfl rfl rfl ?_
  refine O_op (env' := uS9n26) (c := .calm) rfl rfl rfl (wS9n2 rfl rfl rfl rfl rfl rfl rfl) rfl rfl rfl ?_
  refine O_op (env' := uS9n26) (c := .look) rfl rfl rfl (wS9n4 rfl rfl rfl rfl rfl) rfl rfl rfl ?_
  refine O_op (env' := uS9n26) (c := .calm) rfl rfl rfl (v_move (.inl rfl) rfl) rfl rfl rfl ?_
  refine O_op (env' := uS9n26) (c := .calm) rfl rfl rfl (v_move (.inl rfl) rfl) rfl rfl rfl ?_
  refine O_op (env' := uS9n26) (c := .calm) rfl rfl rfl (wS9n2 rfl rfl rfl rfl rfl rfl rfl) rfl rfl rfl ?_
  refine O_op (env' := uS9n26) (c := .look) rfl rfl rfl (wS9n4 rfl rfl rfl rfl rfl) rfl rfl rfl ?_
  refine O_op (env' := uS9n26) (c := .calm) rfl rfl rfl (v_neF rfl rfl rfl rfl rfl rfl rfl) rfl rfl rfl ?_
  refine O_nil [] (by kernel_rfl) (trivial) ?_
  refine K_seq ?_
  refine B_false rfl rfl ?_
  refine B_skip (K_blk (K_seq (B_region ?_)))
  refine L_op (env' := uS9n26) rfl rfl (v_move (.inl rfl) rfl) rfl ?_
  refine L_op (env' := uS9n26) rfl rfl (wS9n3 rfl rfl rfl) rfl ?_
  refine L_op (env' := uS9n26) rfl rfl (v_move (.inr rfl) rfl) rfl ?_
  refine L_nil ?_
  refine K_loop (mk 26 67108828) (env' := uS9n26) rfl ⟨k + 1, ?_, rfl, ?_⟩
  ·first | omega | (simp only []; omega)
  ·exact ⟨by omega, rfl⟩
 ·try simp only [qB, qN] at hc1
  refine B_exit (K_seqX (K_loopX (K_blkX (K_seq (B_seq (B_region ?_))))))
  refine L_op (env' := uS9n26) rfl rfl (v_const (VVal.bool true) (.inr rfl) rfl) rfl ?_
  refine L_nil (K_seq (B_ret ?_))
  refine E_app (.inr rfl) (vres_tmp rfl rfl) (by first | exact BaseOk.refl _ | exact BaseOk.set (BaseOk.refl _) _ rfl) (by first | rfl | simp [VVal.under, VVal.underL, *]) ?_
  exact ⟨rfl, rfl⟩
end Go.Proofs.Ytbngdhlmggdaaaa.VT
