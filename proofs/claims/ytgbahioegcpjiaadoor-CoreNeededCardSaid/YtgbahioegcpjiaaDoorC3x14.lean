/- Proved: Rows.CoreNeededCardSaid, the statement CoreNeeded with its card, of the given program at the commit; no conditions beyond those in the statement. -/
import Derived.Test.YtgbahioegcpjiaaDoorC3x13
set_option autoImplicit false
set_option linter.unusedVariables false
set_option linter.unusedSimpArgs false
set_option maxHeartbeats 4000000
set_option maxRecDepth 100000
namespace Go.Proofs.YtgbahioegcpjiaaDoor.VT
open Go Go.V Go.RowKit
abbrev u11 {a0 a1 a2 a3 a4 a5 a6 a7 a8 a9 a10 : VVal} : VEnv := a0 :: a1 :: a2 :: a3 :: a4 :: a5 :: a6 :: a7 :: a8 :: a9 :: a10 :: []
abbrev u19 {a0 a1 a2 a3 a4 a5 a6 a7 a8 a9 a10 a11 a12 a13 a14 a15 a16 a17 a18 : VVal} : VEnv := a0 :: a1 :: a2 :: a3 :: a4 :: a5 :: a6 :: a7 :: a8 :: a9 :: a10 :: a11 :: a12 :: a13 :: a14 :: a15 :: a16 :: a17 :: a18 :: []
theorem W53 {P : Prop} (h : P := by first | exact ⟨⟨_, rfl, by rw [inB_hit (k := k) (by omega) (by omega)]; exact decide_eq_true (by omega)⟩, rfl⟩ | (rw [List.take_of_length_le (by omega)] at hi; exact ⟨⟨_, rfl, by rw [hi]; rfl⟩, rfl⟩)) : P := h
theorem W55 {P : Prop} (h : P := by first | exact ⟨congrArg VVal.bool (by simp; omega), rfl⟩ | exact ⟨congrArg VVal.bool (by rw [Bool.eq_iff_iff]; simp; omega), rfl⟩) : P := h
theorem W56 {T : TypeId → Option VTy} {H : VHeap} {op : Op} {ρ : Operand → VVal} {t : TypeId} {a : Operand} {y : VTy} {p v : VVal} (ho : op = .load t a) (ha : ρ a = p) (hy : T t = some y) (hd : isAggDesc y.desc = false) (h : LdOk H p v := by first | exact .inl ⟨_, _, rfl, by first | rfl | assumption | exact fget (α := BitVec 64) 0 (by omega) | exact fget (α := Int) 0 (by omega) | exact fget0 (α := BitVec 64) 0 (by omega) | exact fget0 (α := Int) 0 (by omega) | exact fget (α := Bool) false (by omega) | exact fget0 (α := Bool) false (by omega) | (simp [*]; done)⟩ | exact .inr ⟨_, _, _, _, rfl, by exact get_append hb, by first | rfl | assumption | exact fget (α := BitVec 64) 0 (by omega) | exact fget (α := Int) 0 (by omega) | exact fget0 (α := BitVec 64) 0 (by omega) | exact fget0 (α := Int) 0 (by omega) | exact fget (α := Bool) false (by omega) | exact fget0 (α := Bool) false (by omega) | (simp [*]; done)⟩) : vop T ρ H op = some (v, H) := v_ld ho ha hy hd h
theorem W57 {P : Prop} (h : P := by first | exact ⟨⟨_, rfl, by rw [ltB_bad (k := k) (by omega) (by have h9 := hc2; simp at h9; omega)]; exact decide_eq_true (by omega)⟩, rfl⟩ | (rw [List.take_of_length_le (by omega)] at hi; exact ⟨⟨_, rfl, by rw [hi]; rfl⟩, rfl⟩)) : P := h
theorem inB_step' {l : List Int} {k n : Nat} (h : k < l.length) : inB (l.take (k + 1)) n = (inB (l.take k) n || decide (l.getD k 0 = (n : Int))) := by
  rw [take_at (d := 0) h, inB_app, inB_one]
theorem inB_hit {l : List Int} {k n : Nat} (h : k < l.length) (e : l.getD k 0 = (n : Int)) : inB l n = true := by
  rw [inB_mem, ← e, List.getD_eq_getElem?_getD, List.getElem?_eq_getElem h]; exact List.getElem_mem h
theorem ltB_step {l : List Int} {k n : Nat} (h : k < l.length) : ltB (l.take (k + 1)) n = (ltB (l.take k) n && decide (0 ≤ l.getD k 0 ∧ l.getD k 0 < (n : Int))) := by
  rw [take_at (d := 0) h, ltB_app, ltB_one]
theorem ltB_bad {l : List Int} {k n : Nat} (h : k < l.length) (e : ¬ (0 ≤ l.getD k 0 ∧ l.getD k 0 < (n : Int))) : ltB l n = false := by
  rw [Bool.eq_false_iff]; intro h2
  refine e (ltB_mem.1 h2 _ ?_)
  rw [List.getD_eq_getElem?_getD, List.getElem?_eq_getElem h]; exact List.getElem_mem h
theorem ltB_at {l : List Int} {n k : Nat} (h : ltB l n = true) (hk : k < l.length) : ∃ i : Nat, l.getD k 0 = (i : Int) ∧ i < n := by
  have := ltB_mem.1 h (l.getD k 0) (by rw [List.getD_eq_getElem?_getD, List.getElem?_eq_getElem hk]; exact List.getElem_mem hk)
  exact ⟨(l.getD k 0).toNat, by omega, by omega⟩
theorem Index_spec {x : SW} (H : VHeap) (rv : VVal) (l : List Int) (n : Nat) (hr : RD H rv l) (hn : l.length ≤ 1000000) : F (psys x) 111 [rv, iI (n : Nat)] H fun v G => (∃ r : Int, v = iI r ∧ decide (0 ≤ r) = inB l n) ∧ G = H := by
 refine F_body Tryd.func111 rfl u19 rfl ?_
 refine B_seq (B_region ?_)
 refine Lo u19 (v_const (VVal.int .i64 0) (.inr rfl) rfl) ?_
 refine L_nil (K_seq (B_seq (B_seq (B_region ?_))))
 refine Lo u19 (v_move (.inl rfl) rfl) ?_
 refine Lo u19 (v_lenD rfl rfl rfl rfl hr) ?_
 refine Lo u19 (v_const (VVal.int .i64 0) (.inl rfl) rfl) ?_
 refine L_nil (K_seq (B_block ?_))
 refine B_clear (mk 19 523900) (env' := u19) rfl ?_
 refine B_loopE (fun (k : Nat) => l.length - k) (fun (k : Nat) => [(8, iI (k : Nat))]) (fun (k : Nat) G => (k ≤ l.length ∧ inB (l.take k) n = false) ∧ G = H ++ []) 0 rfl ?_ ?_
 ·refine ⟨?_, rfl⟩
  exact ⟨Nat.zero_le _, rfl⟩
 rintro k _ ⟨⟨hk, hi⟩, rfl⟩
 refine B_env (env' := u19) rfl ?_
 refine B_seq (B_region ?_)
 refine Lo u19 (rfl) ?_
 refine L_nil (K_seq (B_seq ?_))
 refine B_cond _ rfl (fun hc1 => ?_) (fun hc1 => ?_)
 ·try simp only [qB, qN] at hc1
  refine B_skip (K_seq (B_seq (B_block (B_seq (B_region ?_)))))
  refine Lo u19 (v_move (.inl rfl) rfl) ?_
  refine Lo u19 (v_move (.inr rfl) rfl) ?_
  refine L_nil (K_seq (B_seq (B_region ?_)))
  refine Lo u19 (v_move (.inl rfl) rfl) ?_
  refine Lo u19 (v_move (.inl rfl) rfl) ?_
  refine Lo u19 (v_move (.inl rfl) rfl) ?_
  refine L_opX rfl rfl (v_ixD rfl rfl rfl rfl rfl rfl rfl hr (by omega) _) ?_
  rintro w _ ⟨rfl, hw⟩
  refine Le u19 ?_
  refine Lo u19 (v_ld rfl rfl rfl rfl hw.app) ?_
  refine Lo u19 (rfl) ?_
  refine L_nil (K_seq ?_)
  refine B_cond _ rfl (fun hc2 => ?_) (fun hc2 => ?_)
  ·try simp only [qB, qN] at hc2
   refine B_seq (B_region ?_)
   refine Lo u19 (v_move (.inl rfl) rfl) ?_
   refine Lo u19 (v_move (.inr rfl) rfl) ?_
   refine L_nil (K_seq (B_ret (K_blkR (K_seqR (K_loopR (K_blkR (K_seqR ?_)))))))
   refine W10 (.inr rfl) (vres_tmp rfl rfl) ?_
   exact W53
  ·try simp only [qB, qN] at hc2
   refine B_skip (K_blk (K_seq (B_region ?_)))
   refine Lo u19 (W14 rfl rfl rfl) ?_
   refine Lo u19 (v_move (.inl rfl) rfl) ?_
   refine L_nil ?_
   refine K_loop (mk 19 523900) (env' := u19) rfl ⟨k + 1, ?_, rfl, ?_⟩
   ·first | omega | (simp only []; omega)
   ·exact ⟨⟨by omega, by rw [inB_step' (by omega), hi, decide_eq_false (by omega)]; rfl⟩, rfl⟩
 ·try simp only [qB, qN] at hc1
  refine B_exit (K_seqX (K_loopX (K_blkX (K_seq (B_seq (B_region ?_))))))
  refine Lo u19 (v_const (VVal.int .i64 (-1)) (.inr rfl) rfl) ?_
  refine L_nil (K_seq (B_ret ?_))
  refine W10 (.inr rfl) (vres_tmp rfl rfl) ?_
  exact W53
theorem Contains_spec {x : SW} (H : VHeap) (rv : VVal) (l : List Int) (n : Nat) (hr : RD H rv l) (hn : l.length ≤ 1000000) : F (psys x) 70 [rv, iI (n : Nat)] H fun v G => v = .bool (inB l n) ∧ G = H := by
 refine F_body Tryd.func70 rfl u9 rfl ?_
 refine B_seq (B_region ?_)
 refine Lo u9 (v_const (VVal.bool false) (.inr rfl) rfl) ?_
 refine L_nil (K_seq (B_seq (B_region ?_)))
 refine Lo u9 (v_move (.inl rfl) rfl) ?_
 refine Lo u9 (v_move (.inl rfl) rfl) ?_
 refine L_call rfl rfl rfl (by exact Index_spec _ rv l n (hr.app _) hn) ?_
 rintro _ _ ⟨⟨r, rfl, hd⟩, rfl⟩
 refine Le u9 ?_
 refine Lo u9 (rfl) ?_
 refine Lo u9 (v_move (.inr rfl) rfl) ?_
 refine L_nil (K_seq (B_ret ?_))
 refine W10 (.inr rfl) (vres_tmp rfl rfl) ?_
 exact ⟨by rw [← hd], rfl⟩
theorem within1_spec {x : SW} (H : VHeap) (b n : Nat) (hb : H[b]? = some (.cells [iI (n : Nat)] true)) (i : Int) : F (psys x) 109 [iI i, .ptr (some (b, 0))] H fun v G => v = .bool (!decide (0 ≤ i ∧ i < (n : Int))) ∧ G = H := by
 refine F_body Tryd.func109 rfl u11 rfl ?_
 refine B_seq (B_region ?_)
 refine Lo u11 (v_const (VVal.bool false) (.inr rfl) rfl) ?_
 refine L_nil (K_seq (B_seq (B_region ?_)))
 refine Lo u11 (v_move (.inl rfl) rfl) ?_
 refine Lo u11 (rfl) ?_
 refine Lo u11 (v_move (.inl rfl) rfl) ?_
 refine L_split 6 (env1 := u11) (env2 := u11) rfl rfl rfl (fun hg1 => ?_) (fun hg1 => ?_)
 ·try simp only [qB, qN] at hg1
  refine Lf u11 ?_
  refine Lf u11 ?_
  refine Lf u11 ?_
  refine Lo u11 (v_pickTC (VVal.bool true) rfl rfl rfl) ?_
  refine Lo u11 (v_move (.inr rfl) rfl) ?_
  refine L_nil (K_seq (B_ret ?_))
  refine W10 (.inr rfl) (vres_tmp rfl rfl) ?_
  exact W55
 ·try simp only [qB, qN] at hg1
  refine Lo u11 (v_move (.inl rfl) rfl) ?_
  refine Lo u11 (W56 rfl rfl rfl rfl) ?_
  refine Lo u11 (rfl) ?_
  refine Lo u11 (v_pickF rfl rfl rfl) ?_
  refine Lo u11 (v_move (.inr rfl) rfl) ?_
  refine L_nil (K_seq (B_ret ?_))
  refine W10 (.inr rfl) (vres_tmp rfl rfl) ?_
  exact W55
theorem IndexFunc_spec {x : SW} (H : VHeap) (rv : VVal) (l : List Int) (b n : Nat) (hb : H[b]? = some (.cells [iI (n : Nat)] true)) (hr : RD H rv l) (hn : l.length ≤ 1000000) : F (psys x) 137 [rv, .func 109 [] [.ptr (some (b, 0))]] H fun v G => (∃ r : Int, v = iI r ∧ decide (0 ≤ r) = !ltB l n) ∧ G = H := by
 refine F_body Tryd.func137 rfl u19 rfl ?_
 refine B_seq (B_region ?_)
 refine Lo u19 (v_const (VVal.int .i64 0) (.inr rfl) rfl) ?_
 refine L_nil (K_seq (B_seq (B_seq (B_region ?_))))
 refine Lo u19 (v_move (.inl rfl) rfl) ?_
 refine Lo u19 (v_lenD rfl rfl rfl rfl hr) ?_
 refine Lo u19 (v_const (VVal.int .i64 0) (.inl rfl) rfl) ?_
 refine L_nil (K_seq (B_block ?_))
 refine B_clear (mk 19 523900) (env' := u19) rfl ?_
 refine B_loopE (fun (k : Nat) => l.length - k) (fun (k : Nat) => [(8, iI (k : Nat))]) (fun (k : Nat) G => (k ≤ l.length ∧ ltB (l.take k) n = true) ∧ G = H ++ []) 0 rfl ?_ ?_
 ·refine ⟨?_, rfl⟩
  exact ⟨Nat.zero_le _, rfl⟩
 rintro k _ ⟨⟨hk, hi⟩, rfl⟩
 refine B_env (env' := u19) rfl ?_
 refine B_seq (B_region ?_)
 refine Lo u19 (rfl) ?_
 refine L_nil (K_seq (B_seq ?_))
 refine B_cond _ rfl (fun hc1 => ?_) (fun hc1 => ?_)
 ·try simp only [qB, qN] at hc1
  refine B_skip (K_seq (B_seq (B_block (B_seq (B_region ?_)))))
  refine Lo u19 (v_move (.inl rfl) rfl) ?_
  refine Lo u19 (v_move (.inr rfl) rfl) ?_
  refine L_nil (K_seq (B_seq (B_region ?_)))
  refine Lo u19 (v_move (.inl rfl) rfl) ?_
  refine Lo u19 (v_move (.inl rfl) rfl) ?_
  refine Lo u19 (v_move (.inl rfl) rfl) ?_
  refine L_opX rfl rfl (v_ixD rfl rfl rfl rfl rfl rfl rfl hr (by omega) _) ?_
  rintro w _ ⟨rfl, hw⟩
  refine Le u19 ?_
  refine Lo u19 (v_ld rfl rfl rfl rfl hw.app) ?_
  refine L_call rfl rfl rfl (by exact within1_spec _ b n (get_append hb) (l.getD k 0)) ?_
  rintro _ _ ⟨rfl, rfl⟩
  refine Le u19 ?_
  refine L_nil (K_seq ?_)
  refine B_cond _ rfl (fun hc2 => ?_) (fun hc2 => ?_)
  ·try simp only [qB, qN] at hc2
   refine B_seq (B_region ?_)
   refine Lo u19 (v_move (.inl rfl) rfl) ?_
   refine Lo u19 (v_move (.inr rfl) rfl) ?_
   refine L_nil (K_seq (B_ret (K_blkR (K_seqR (K_loopR (K_blkR (K_seqR ?_)))))))
   refine W10 (.inr rfl) (vres_tmp rfl rfl) ?_
   exact W57
  ·try simp only [qB, qN] at hc2
   refine B_skip (K_blk (K_seq (B_region ?_)))
   refine Lo u19 (W14 rfl rfl rfl) ?_
   refine Lo u19 (v_move (.inl rfl) rfl) ?_
   refine L_nil ?_
   refine K_loop (mk 19 523900) (env' := u19) rfl ⟨k + 1, ?_, rfl, ?_⟩
   ·first | omega | (simp only []; omega)
   ·exact ⟨⟨by omega, by rw [ltB_step (by omega), hi, decide_eq_true (by have h9 := hc2; simp at h9; omega)]; rfl⟩, rfl⟩
 ·try simp only [qB, qN] at hc1
  refine B_exit (K_seqX (K_loopX (K_blkX (K_seq (B_seq (B_region ?_))))))
  refine Lo u19 (v_const (VVal.int .i64 (-1)) (.inr rfl) rfl) ?_
  refine L_nil (K_seq (B_ret ?_))
  refine W10 (.inr rfl) (vres_tmp rfl rfl) ?_
  exact W57
theorem ContainsFunc_spec {x : SW} (H : VHeap) (rv : VVal) (l : List Int) (b n : Nat) (hb : H[b]? = some (.cells [iI (n : Nat)] true)) (hr : RD H rv l) (hn : l.length ≤ 1000000) : F (psys x) 108 [rv, .func 109 [] [.ptr (some (b, 0))]] H fun v G => v = .bool (!ltB l n) ∧ G = H := by
 refine F_body Tryd.func108 rfl u9 rfl ?_
 refine B_seq (B_region ?_)
 refine Lo u9 (v_const (VVal.bool false) (.inr rfl) rfl) ?_
 refine L_nil (K_seq (B_seq (B_region ?_)))
 refine Lo u9 (v_move (.inl rfl) rfl) ?_
 refine Lo u9 (v_move (.inl rfl) rfl) ?_
 refine L_call rfl rfl rfl (by exact IndexFunc_spec _ rv l b n (get_append hb) (hr.app _) hn) ?_
 rintro _ _ ⟨⟨r, rfl, hd⟩, rfl⟩
 refine Le u9 ?_
 refine Lo u9 (rfl) ?_
 refine Lo u9 (v_move (.inr rfl) rfl) ?_
 refine L_nil (K_seq (B_ret ?_))
 refine W10 (.inr rfl) (vres_tmp rfl rfl) ?_
 exact ⟨by rw [← hd], rfl⟩
theorem cwithin_spec {x : SW} (H : VHeap) (rv : VVal) (l : List Int) (n : Nat) (hr : RD H rv l) (hn : l.length ≤ 1000000) : F (psys x) 68 [rv, iI (n : Nat)] H fun v G => v = .bool (ltB l n) ∧ G = H := by
 refine F_body Tryd.func68 rfl u9 rfl ?_
 refine B_seq (B_region ?_)
 refine Lo u9 (v_boxT rfl rfl rfl) ?_
 refine Lo u9 (v_const (VVal.bool false) (.inr rfl) rfl) ?_
 refine L_nil (K_seq (B_seq (B_region ?_)))
 refine Lo u9 (v_move (.inl rfl) rfl) ?_
 refine Lo u9 (v_func [_] rfl rfl) ?_
 refine L_call rfl rfl rfl (by exact ContainsFunc_spec _ rv l H.length n get_end (hr.app _) hn) ?_
 rintro _ _ ⟨rfl, rfl⟩
 refine Le u9 ?_
 refine Lo u9 (rfl) ?_
 refine Lo u9 (v_move (.inr rfl) rfl) ?_
 refine L_nil (K_seq (B_ret ?_))
 refine W10 (.inr rfl) (vres_tmp rfl rfl) ?_
 exact ⟨by rw [Bool.not_not], rfl⟩
theorem every_spec {x : SW} (H : VHeap) (u : Int) (h0 : 0 ≤ u) : F (psys x) 71 [iI u] H fun v G => v = iW (allW u) ∧ G = H := by
 refine F_body Tryd.func71 rfl u6 rfl ?_
 refine B_seq (B_region ?_)
 refine Lo u6 (v_const (VVal.int .u64 0) (.inr rfl) rfl) ?_
 refine L_nil (K_seq (B_seq (B_region ?_)))
 refine Lo u6 (v_move (.inl rfl) rfl) ?_
 refine Lo u6 (v_shl1 rfl rfl rfl (by first | assumption | omega | (simp [*]; done) | (simp at *; omega))) ?_
 refine Lo u6 (v_subW (b := 1#64) rfl rfl rfl) ?_
 refine Lo u6 (v_move (.inr rfl) rfl) ?_
 refine L_nil (K_seq (B_ret ?_))
 refine W10 (.inr rfl) (vres_tmp rfl rfl) ?_
 exact ⟨rfl, rfl⟩
end Go.Proofs.YtgbahioegcpjiaaDoor.VT

set_option autoImplicit false
set_option linter.unusedVariables false
set_option linter.unusedSimpArgs false
set_option maxHeartbeats 4000000
set_option maxRecDepth 100000
namespace Go.Proofs.YtgbahioegcpjiaaDoor.VT
open Go Go.V Go.RowKit
abbrev u77 {a0 a1 a2 a3 a4 a5 a6 a7 a8 a9 a10 a11 a12 a13 a14 a15 a16 a17 a18 a19 a20 a21 a22 a23 a24 a25 a26 a27 a28 a29 a30 a31 a32 a33 a34 a35 a36 a37 a38 a39 a40 a41 a42 a43 a44 a45 a46 a47 a48 a49 a50 a51 a52 a53 a54 a55 a56 a57 a58 a59 a60 a61 a62 a63 a64 a65 a66 a67 a68 a69 a70 a71 a72 a73 a74 a75 a76 : VVal} : VEnv := a0 :: a1 :: a2 :: a3 :: a4 :: a5 :: a6 :: a7 :: a8 :: a9 :: a10 :: a11 :: a12 :: a13 :: a14 :: a15 :: a16 :: a17 :: a18 :: a19 :: a20 :: a21 :: a22 :: a23 :: a24 :: a25 :: a26 :: a27 :: a28 :: a29 :: a30 :: a31 :: a32 :: a33 :: a34 :: a35 :: a36 :: a37 :: a38 :: a39 :: a40 :: a41 :: a42 :: a43 :: a44 :: a45 :: a46 :: a47 :: a48 :: a49 :: a50 :: a51 :: a52 :: a53 :: a54 :: a55 :: a56 :: a57 :: a58 :: a59 :: a60 :: a61 :: a62 :: a63 :: a64 :: a65 :: a66 :: a67 :: a68 :: a69 :: a70 :: a71 :: a72 :: a73 :: a74 :: a75 :: a76 :: []
theorem W5a {S : V.Sys} {H : VHeap} {fn : Func} {ex : Exit} {env : VEnv} {B L : VHeap} {v : VVal} {R : VVal → VHeap → Prop} (hx : ex = .normal ∨ ex = .ret) (hv : vresults S.C.T env (B ++ L) fn.results = some v) (h : R v B) (hB : BaseOk H B := by first | exact BaseOk.refl _ | exact BaseOk.set (BaseOk.refl _) _ rfl) (hu : v.under H.length = true := by exact (show ((VVal.agg (pbB z0P)).under H.length && (true && true)) = true by rw [pb_under]; rfl)) : fnK S fn H R ex env (B ++ L) := E_app hx hv hB hu h
theorem W5b {P : Prop} (h : P := by first | exact ⟨by rw [woP_no he]; unfold woE; rw [if_pos (by assumption)]; rfl, rfl⟩ | exact ⟨by rw [woP_no he, woE_1 he (by assumption)]; rfl, rfl⟩) : P := h
theorem W5e {T : TypeId → Option VTy} {H : VHeap} {op : Op} {ρ : Operand → VVal} {t : TypeId} {a : Operand} {y : VTy} {p v : VVal} (ho : op = .load t a) (ha : ρ a = p) (hy : T t = some y) (hd : isAggDesc y.desc = false) (h : LdOk H p v := by first | exact .inl ⟨_, _, rfl, by first | rfl | assumption | exact fgetN (α := BitVec 64) 0 (by omega) | exact fgetN (α := Int) 0 (by omega) | exact rul_at (by omega) | exact rul_f2 (by omega) | exact rul_f0 (by omega) | exact rul_f1 (by omega)⟩ | exact .inr ⟨_, _, _, _, rfl, by exact getQ rfl, by first | rfl | assumption | exact fgetN (α := BitVec 64) 0 (by omega) | exact fgetN (α := Int) 0 (by omega) | exact rul_at (by omega) | exact rul_f2 (by omega) | exact rul_f0 (by omega) | exact rul_f1 (by omega)⟩) : vop T ρ H op = some (v, H) := v_ld ho ha hy hd h
theorem W5f {T : TypeId → Option VTy} {H : VHeap} {op : Op} {ρ : VEnv} {H' : VHeap} {t : TypeId} {a : Operand} {i : Nat} {v : VVal} {y : VTy} {b off : Nat} {cs new : List VVal} (ho : op = .store t a (.tmp i)) (hv : ρ[i]? = some v) (ha : ρ.eval a = .ptr (some (b, off))) (hy : T t = some y) (hx : v.cells = some new) (hn : new.length = y.size) (h1 : new.all VVal.one = true) (hb : H[b]? = some (.cells cs true) := by exact getQ rfl) (hl : off + new.length ≤ cs.length := by first | exact Nat.le_of_ble_eq_true rfl | (simp only [List.length_map, List.length_cons, List.length_nil]; omega) | omega | (simp; done) | (simp; omega)) (hH : H.set b (.cells (splice cs off new) true) = H' := by exact setQ rfl) : vop T ρ.eval H op = some (.skip, H') := v_storeT ho hv ha hy hx hn h1 hb hl hH
theorem W5h {T : TypeId → Option VTy} {H : VHeap} {op : Op} {ρ : Operand → VVal} {t : TypeId} {a : Operand} {y : VTy} {p v : VVal} (ho : op = .load t a) (ha : ρ a = p) (hy : T t = some y) (hd : isAggDesc y.desc = false) (h : LdOk H p v := by first | exact .inl ⟨_, _, rfl, by first | rfl | assumption | exact fgetN (α := BitVec 64) 0 (by omega) | exact fgetN (α := Int) 0 (by omega) | exact rul_at (by omega) | exact rul_f2 (by omega) | exact rul_f0 (by omega) | exact rul_f1 (by omega)⟩ | exact .inr ⟨_, _, _, _, rfl, by exact get_app rfl (get_append (get_endE (by first | exact hZl | (rw [List.length_set]; exact hZl)))), by first | rfl | assumption | exact fgetN (α := BitVec 64) 0 (by omega) | exact fgetN (α := Int) 0 (by omega) | exact rul_at (by omega) | exact rul_f2 (by omega) | exact rul_f0 (by omega) | exact rul_f1 (by omega)⟩) : vop T ρ H op = some (v, H) := v_ld ho ha hy hd h
theorem W5i {T : TypeId → Option VTy} {H : VHeap} {op : Op} {ρ : VEnv} {H' : VHeap} {t : TypeId} {a : Operand} {i : Nat} {v : VVal} {y : VTy} {b off : Nat} {cs new : List VVal} (ho : op = .store t a (.tmp i)) (hv : ρ[i]? = some v) (ha : ρ.eval a = .ptr (some (b, off))) (hy : T t = some y) (hx : v.cells = some new) (hn : new.length = y.size) (h1 : new.all VVal.one = true) (hb : H[b]? = some (.cells cs true) := by exact get_app rfl (get_append (get_append hZ1))) (hl : off + new.length ≤ cs.length := by show 0 + ((i : Nat) : Int).toNat * 1 + 1 ≤ _; rw [List.length_map, mpW_len]; omega) (hH : H.set b (.cells (splice cs off new) true) = H' := by exact (set_app rfl).trans (by rw [set_out (by simp; have := lt_of_get hZ1; omega), set_out (lt_of_get hZ1)])) : vop T ρ.eval H op = some (.skip, H') := v_storeT ho hv ha hy hx hn h1 hb hl hH
theorem W5j {T : TypeId → Option VTy} {H : VHeap} {op : Op} {ρ : Operand → VVal} {t : TypeId} {a : Operand} {y : VTy} {p : VVal} {n : Nat} {vs : List VVal} (ho : op = .load t a) (ha : ρ a = p) (hy : T t = some y) (hd : isAggDesc y.desc = true) (hn : y.size = n) (h : LdOkA H p n vs := by first | exact .inl ⟨_, _, rfl, by first | rfl | assumption | exact fgetN (α := BitVec 64) 0 (by omega) | exact fgetN (α := Int) 0 (by omega) | exact rul_at (by omega) | exact rul_f2 (by omega) | exact rul_f0 (by omega) | exact rul_f1 (by omega)⟩ | exact .inr ⟨_, _, _, _, rfl, by first | exact get_app rfl (get_append (get_endE hZl)) | exact get_app rfl (List.getElem?_set_self (by simp; omega)), by first | rfl | assumption | exact fgetN (α := BitVec 64) 0 (by omega) | exact fgetN (α := Int) 0 (by omega) | exact rul_at (by omega) | exact rul_f2 (by omega) | exact rul_f0 (by omega) | exact rul_f1 (by omega)⟩) : vop T ρ H op = some (.agg vs, H) := v_ldA ho ha hy hd hn h
theorem W5k {T : TypeId → Option VTy} {H : VHeap} {op : Op} {ρ : VEnv} {H' : VHeap} {t : TypeId} {a : Operand} {i : Nat} {v : VVal} {y : VTy} {b off : Nat} {cs new : List VVal} (ho : op = .store t a (.tmp i)) (hv : ρ[i]? = some v) (ha : ρ.eval a = .ptr (some (b, off))) (hy : T t = some y) (hx : v.cells = some new) (hn : new.length = y.size) (h1 : new.all VVal.one = true) (hb : H[b]? = some (.cells cs true) := by exact getB rfl rfl) (hl : off + new.length ≤ cs.length := by first | exact Nat.le_of_ble_eq_true rfl | (simp only [List.length_map, List.length_cons, List.length_nil]; omega) | omega | (simp; done) | (simp; omega)) (hH : H.set b (.cells (splice cs off new) true) = H' := by exact setB rfl (show 1 < 2 by decide)) : vop T ρ.eval H op = some (.skip, H') := v_storeT ho hv ha hy hx hn h1 hb hl hH
theorem W5l {S : V.Sys} {H : VHeap} {fn : Func} {ex : Exit} {env : VEnv} {B L : VHeap} {v : VVal} {R : VVal → VHeap → Prop} (hx : ex = .normal ∨ ex = .ret) (hv : vresults S.C.T env (B ++ L) fn.results = some v) (h : R v B) (hB : BaseOk H B := by first | exact BaseOk.refl _ | exact BaseOk.set (BaseOk.refl _) _ rfl) (hu : v.under H.length = true := by exact (show ((VVal.agg (pbB (woQ p rs ss))).under H.length && (true && true)) = true by rw [pb_under]; rfl)) : fnK S fn H R ex env (B ++ L) := E_app hx hv hB hu h
theorem W5m {S : V.Sys} {H : VHeap} {fn : Func} {ex : Exit} {env : VEnv} {B L : VHeap} {v : VVal} {R : VVal → VHeap → Prop} (hx : ex = .normal ∨ ex = .ret) (hv : vresults S.C.T env (B ++ L) fn.results = some v) (h : R v B) (hB : BaseOk H B := by first | exact BaseOk.refl _ | exact BaseOk.set (BaseOk.refl _) _ rfl) (hu : v.under H.length = true := by exact (show ((VVal.agg (pbB (p.users, p.who, p.fixed, [], ()))).under H.length && (true && true)) = true by rw [pb_under]; rfl)) : fnK S fn H R ex env (B ++ L) := E_app hx hv hB hu h
abbrev t6c : VBlk := pqB 0 nilS nilS nilS
theorem stepW {p : Pb} {ss : List Int} {s i : Nat} (hi : i < p.who.length) (h : s < ss.length) (e : ss.getD s 0 = (i : Int)) : splice ((mpW p (inB (ss.take s))).map iW) (0 + ((i : Nat) : Int).toNat * 1) [iW (allW p.users)] = (mpW p (inB (ss.take (s + 1)))).map iW := by
  rw [Int.toNat_natCast, spl_W (by rw [mpW_len]; exact hi), mpW_set, inB_step h e]
theorem stepF {p : Pb} {ss : List Int} {s i : Nat} (hi : i < p.who.length) (h : s < ss.length) (e : ss.getD s 0 = (i : Int)) : splice ((mpF p (inB (ss.take s))).map iI) (0 + ((i : Nat) : Int).toNat * 1) [iI (-1)] = (mpF p (inB (ss.take (s + 1)))).map iI := by
  rw [Int.toNat_natCast, spl_I' (by rw [mpF_len]; exact hi), mpF_set, inB_step h e]
theorem woP_0 {p : Pb} (g : Go.V.Good p) (h : p.who = []) : p.fixed = [] ∧ p.rules = [] := by
  refine ⟨List.eq_nil_of_length_eq_zero (by rw [g.fx, h]; rfl), ?_⟩
  cases hr : p.rules with
  | nil => rfl
  | cons r l =>
    have := g.ru r (by rw [hr]; simp)
    have h1 := (rck_steps this).1
    have h2 : ∀ x, x ∈ r.steps → 0 ≤ x ∧ x < (p.who.length : Int) := fun x hx => by
      unfold rck at this
      rw [Bool.and_eq_true, Bool.and_eq_true] at this
      have := riseA_mem _ _ this.2.1 x hx; omega
    cases hs : r.steps with
    | nil => exact absurd hs h1
    | cons x m => have := h2 x (by rw [hs]; simp); rw [h] at this; exact absurd this (by simp)
theorem ltB_0 {l : List Int} (h : ltB l 0 = true) : l = [] := by
  cases l with
  | nil => rfl
  | cons x m => have := ltB_mem.1 h x (by simp); omega
theorem woE_1 {p : Pb} {rs ss : List Int} (he : ¬ woE p rs ss = 0) (h : pck p = 0) : woE p rs ss = 1 := by
  unfold woE at he ⊢
  rw [if_neg (fun e => e h)] at he ⊢
  split at he
  · exact absurd rfl he
  · rename_i h2; rw [if_neg h2]
theorem woQ_0 {p : Pb} {rs ss : List Int} (g : Go.V.Good p) (h : p.who = []) : woQ p rs ss = (p.users, p.who, p.fixed, [], ()) := by
  obtain ⟨h1, h2⟩ := woP_0 g h
  have e : p.rules.length = 0 := by rw [h2]; rfl
  unfold woQ
  rw [List.eq_nil_of_length_eq_zero (l := mpW p (inB ss)) (by rw [mpW_len, h]; rfl), List.eq_nil_of_length_eq_zero (l := mpF p (inB ss)) (by rw [mpF_len, h]; rfl), List.eq_nil_of_length_eq_zero (l := mpR p rs p.rules.length) (by have := @mpR_len p rs p.rules.length; omega), h, h1]
theorem Without_e {x : SW} (H : VHeap) (p : Pb) (rv sv : VVal) (rs ss : List Int) (hp : PbL p) (hr : RD H rv rs) (hs : RD H sv ss) (hrl : rs.length ≤ 1000000) (hsl : ss.length ≤ 1000000) (he : ¬ woE p rs ss = 0) : F (psys x) 27 [.agg (pbB p), rv, sv] H fun v G => v = .tuple [.agg (pbB (woP p rs ss)), iI (woE p rs ss)] ∧ G = H := by
 refine F_body Tryd.func27 rfl u77 rfl ?_
 refine B_seq (B_region ?_)
 refine Lo u77 (v_boxT rfl rfl rfl) ?_
 refine Lo u77 (v_alloc rfl rfl) ?_
 refine Lo u77 (v_const (VVal.int .i64 0) (.inr rfl) rfl) ?_
 refine L_nil (K_seq (B_seq (B_seq ?_)))
 refine B_gh (Gh.freezePtrL (cs := pbB p) 3 0 rfl rfl rfl) ?_
 refine B_region ?_
 refine Lo u77 (W24 rfl rfl rfl rfl rfl) ?_
 refine L_call rfl rfl rfl (by exact sCheck_spec _ p hp) ?_
 rintro _ _ ⟨rfl, rfl⟩
 refine Le u77 ?_
 refine Lo u77 (v_move (.inr rfl) rfl) ?_
 refine L_nil (K_seq (B_seq (B_region ?_)))
 refine Lo u77 (v_move (.inl rfl) rfl) ?_
 refine Lo u77 (rfl) ?_
 refine L_nil (K_seq ?_)
 refine B_cond _ rfl (fun hc1 => ?_) (fun hc1 => ?_)
 ·try simp only [qB, qN] at hc1
  refine B_seq (B_region ?_)
  refine Lo u77 (rfl) ?_
  refine Lo u77 (v_move (.inl rfl) rfl) ?_
  refine Lo u77 (W13 rfl rfl rfl rfl rfl rfl rfl) ?_
  refine Lo u77 (v_move (.inr rfl) rfl) ?_
  refine L_nil (K_seq ?_)
  refine B_gh (Gh.cellNilL 1 1 (es' := 1) rfl rfl) ?_
  refine B_gh (Gh.cellNilL 1 2 (es' := 1) rfl rfl) ?_
  refine B_gh (Gh.cellNilL 1 3 (es' := 3) rfl rfl) ?_
  refine B_ret (K_seqR ?_)
  refine W5a (.inr rfl) (vres_cAt rfl rfl rfl rfl (by first | exact get_app rfl rfl | exact getB rfl rfl) (by first | rfl | assumption | exact fgetN (α := BitVec 64) 0 (by omega) | exact fgetN (α := Int) 0 (by omega) | exact rul_at (by omega) | exact rul_f2 (by omega) | exact rul_f0 (by omega) | exact rul_f1 (by omega)) rfl) ?_
  exact W5b
 ·try simp only [qB, qN] at hc1
  refine B_skip (K_seq (B_seq (B_seq (B_region ?_))))
  refine Lo u77 (v_move (.inl rfl) rfl) ?_
  refine Lo u77 (rfl) ?_
  refine Lo u77 (W26 rfl rfl rfl rfl) ?_
  refine Lo u77 (rfl) ?_
  refine L_call rfl rfl rfl (by exact cwithin_spec _ _ rs p.rules.length (by first | exact hr | exact hr.app _ | exact (hr.app _).app _ | exact ((hr.app _).app _).app _) hrl) ?_
  rintro _ _ ⟨rfl, rfl⟩
  refine Le u77 ?_
  refine Lo u77 (rfl) ?_
  refine Lo u77 (v_move (.inl rfl) rfl) ?_
  refine L_split 26 (env1 := u77) (env2 := u77) rfl rfl rfl (fun hg2 => ?_) (fun hg2 => ?_)
  ·try simp only [qB, qN] at hg2
   refine Lf u77 ?_
   refine Lf u77 ?_
   refine Lf u77 ?_
   refine Lf u77 ?_
   refine Lf u77 ?_
   refine Lf u77 ?_
   refine Lo u77 (v_pickTC (VVal.bool true) rfl rfl rfl) ?_
   refine L_nil (K_seq ?_)
   refine B_true rfl rfl ?_
   refine B_seq (B_region ?_)
   refine Lo u77 (rfl) ?_
   refine Lo u77 (W13 rfl rfl rfl rfl rfl rfl rfl) ?_
   refine Lo u77 (v_const (VVal.int .i64 1) (.inr rfl) rfl) ?_
   refine L_nil (K_seq ?_)
   refine B_gh (Gh.cellNilL 1 1 (es' := 1) rfl rfl) ?_
   refine B_gh (Gh.cellNilL 1 2 (es' := 1) rfl rfl) ?_
   refine B_gh (Gh.cellNilL 1 3 (es' := 3) rfl rfl) ?_
   refine B_ret (K_seqR ?_)
   refine W5a (.inr rfl) (vres_cAt rfl rfl rfl rfl (by first | exact get_app rfl rfl | exact getB rfl rfl) (by first | rfl | assumption | exact fgetN (α := BitVec 64) 0 (by omega) | exact fgetN (α := Int) 0 (by omega) | exact rul_at (by omega) | exact rul_f2 (by omega) | exact rul_f0 (by omega) | exact rul_f1 (by omega)) rfl) ?_
   exact W5b
  ·try simp only [qB, qN] at hg2
   refine Lo u77 (v_move (.inl rfl) rfl) ?_
   refine Lo u77 (rfl) ?_
   refine Lo u77 (W26 rfl rfl rfl rfl) ?_
   refine Lo u77 (rfl) ?_
   refine L_call rfl rfl rfl (by exact cwithin_spec _ _ ss p.who.length (by first | exact hs | exact hs.app _ | exact (hs.app _).app _ | exact ((hs.app _).app _).app _) hsl) ?_
   rintro _ _ ⟨rfl, rfl⟩
   refine Le u77 ?_
   refine Lo u77 (rfl) ?_
   refine Lo u77 (v_pickF rfl rfl rfl) ?_
   refine L_nil (K_seq ?_)
   refine B_cond _ rfl (fun hc3 => ?_) (fun hc3 => ?_)
   ·try simp only [qB, qN] at hc3
    refine B_seq (B_region ?_)
    refine Lo u77 (rfl) ?_
    refine Lo u77 (W13 rfl rfl rfl rfl rfl rfl rfl) ?_
    refine Lo u77 (v_const (VVal.int .i64 1) (.inr rfl) rfl) ?_
    refine L_nil (K_seq ?_)
    refine B_gh (Gh.cellNilL 1 1 (es' := 1) rfl rfl) ?_
    refine B_gh (Gh.cellNilL 1 2 (es' := 1) rfl rfl) ?_
    refine B_gh (Gh.cellNilL 1 3 (es' := 3) rfl rfl) ?_
    refine B_ret (K_seqR ?_)
    refine W5a (.inr rfl) (vres_cAt rfl rfl rfl rfl (by first | exact get_app rfl rfl | exact getB rfl rfl) (by first | rfl | assumption | exact fgetN (α := BitVec 64) 0 (by omega) | exact fgetN (α := Int) 0 (by omega) | exact rul_at (by omega) | exact rul_f2 (by omega) | exact rul_f0 (by omega) | exact rul_f1 (by omega)) rfl) ?_
    exact W5b
   ·try simp only [qB, qN] at hc3
    exfalso
    first | exact he (woE_ok.2 ⟨pck_good.1 (by assumption), by simpa using hg2, by simpa using hc3⟩) | simp_all
theorem Without_F {x : SW} (H : VHeap) (p : Pb) (rv sv : VVal) (rs ss : List Int) (hp : PbL p) (hr : RD H rv rs) (hs : RD H sv ss) (hrl : rs.length ≤ 1000000) (hsl : ss.length ≤ 1000000) (he : woE p rs ss = 0) (hne : 0 < p.who.length) : F (psys x) 27 [.agg (pbB p), rv, sv] H fun v G => v = .tuple [.agg (pbB (woP p rs ss)), iI (woE p rs ss)] ∧ G = H := by
 obtain ⟨g, hlr, hls⟩ := woE_ok.1 he
 have g5 := g.fx; have h4 := g.r32; have h6 := g.n12
 refine F_body Tryd.func27 rfl u77 rfl ?_
 refine B_seq (B_region ?_)
 refine Lo u77 (v_boxT rfl rfl rfl) ?_
 refine Lo u77 (v_alloc rfl rfl) ?_
 refine Lo u77 (v_const (VVal.int .i64 0) (.inr rfl) rfl) ?_
 refine L_nil (K_seq (B_seq (B_seq ?_)))
 refine B_gh (Gh.freezePtrL (cs := pbB p) 3 0 rfl rfl rfl) ?_
 refine B_region ?_
 refine Lo u77 (W24 rfl rfl rfl rfl rfl) ?_
 refine L_call rfl rfl rfl (by exact sCheck_spec _ p hp) ?_
 rintro _ _ ⟨rfl, rfl⟩
 refine Le u77 ?_
 refine Lo u77 (v_move (.inr rfl) rfl) ?_
 refine L_nil (K_seq (B_seq (B_region ?_)))
 refine Lo u77 (v_move (.inl rfl) rfl) ?_
 refine Lo u77 (v_is false rfl (by rw [pck_good.2 g]; rfl)) ?_
 refine L_nil (K_seq ?_)
 refine B_false rfl rfl ?_
 refine B_skip (K_seq (B_seq (B_seq (B_region ?_))))
 refine Lo u77 (v_move (.inl rfl) rfl) ?_
 refine Lo u77 (rfl) ?_
 refine Lo u77 (W26 rfl rfl rfl rfl) ?_
 refine Lo u77 (rfl) ?_
 refine L_call rfl rfl rfl (by exact cwithin_spec _ _ rs p.rules.length (by first | exact hr | exact hr.app _ | exact (hr.app _).app _ | exact ((hr.app _).app _).app _) hrl) ?_
 rintro v _ ⟨hv, rfl⟩; rw [hlr] at hv; subst hv
 refine Le u77 ?_
 refine Lo u77 (rfl) ?_
 refine Lo u77 (v_move (.inl rfl) rfl) ?_
 refine Lo u77 (v_move (.inl rfl) rfl) ?_
 refine Lo u77 (rfl) ?_
 refine Lo u77 (W26 rfl rfl rfl rfl) ?_
 refine Lo u77 (rfl) ?_
 refine L_call rfl rfl rfl (by exact cwithin_spec _ _ ss p.who.length (by first | exact hs | exact hs.app _ | exact (hs.app _).app _ | exact ((hs.app _).app _).app _) hsl) ?_
 rintro v _ ⟨hv, rfl⟩; rw [hls] at hv; subst hv
 refine Le u77 ?_
 refine Lo u77 (rfl) ?_
 refine Lo u77 (v_pickF rfl rfl rfl) ?_
 refine L_nil (K_seq ?_)
 refine B_false rfl rfl ?_
 refine B_skip (K_seq (B_seq (B_region ?_)))
 refine Lo u77 (W24 rfl rfl rfl rfl rfl) ?_
 refine L_call rfl rfl rfl (by exact Copy_L _ p hp (fun e => by rw [e] at hne; cases hne) (fun e => by rw [e] at g5; simp at g5; omega)) ?_
 rintro _ _ ⟨Y, j, k, rfl, rfl, hY1, hY2, hjk⟩
 refine Le u77 ?_
 refine Lo u77 (v_alloc rfl rfl) ?_
 refine Lo u77 (W13 rfl rfl rfl rfl rfl rfl rfl) ?_
 refine L_nil (K_seq (B_seq (B_region ?_)))
 refine Lo u77 (rfl) ?_
 refine Lo u77 (v_storeC (VVal.slice none 0 0 true 0) rfl rfl rfl rfl rfl rfl rfl (by first | exact get_app rfl rfl | exact get_out (by assumption) | exact getE0 rfl rfl | exact get_out (get_app rfl rfl) | exact get_app rfl (by assumption) | assumption | (simp only [List.append_assoc, List.singleton_append, List.cons_append, List.nil_append]; refine getE (i := 0) rfl ?_ rfl; simp; done) | (simp only [List.append_assoc, List.singleton_append, List.cons_append, List.nil_append]; refine getE (i := 1) rfl ?_ rfl; simp; done) | (simp only [List.append_assoc, List.singleton_append, List.cons_append, List.nil_append]; refine getE (i := 2) rfl ?_ rfl; simp; done) | (simp only [List.append_assoc, List.singleton_append, List.cons_append, List.nil_append]; refine getE (i := 3) rfl ?_ rfl; simp; done) | (simp [*]; done)) (by first | exact Nat.le_of_ble_eq_true rfl | (simp only [List.length_map, List.length_cons, List.length_nil]; omega) | omega | (simp; done) | (simp; omega)) (by first | exact setE0 rfl rfl | (simp only [List.append_assoc, List.singleton_append, List.cons_append, List.nil_append]; refine setE (i := 0) rfl ?_; simp; done) | (simp only [List.append_assoc, List.singleton_append, List.cons_append, List.nil_append]; refine setE (i := 1) rfl ?_; simp; done) | (simp only [List.append_assoc, List.singleton_append, List.cons_append, List.nil_append]; refine setE (i := 2) rfl ?_; simp; done) | (simp only [List.append_assoc, List.singleton_append, List.cons_append, List.nil_append]; refine setE (i := 3) rfl ?_; simp; done) | (refine setB rfl ?_; simp; done) | exact set_app rfl | exact set_out (lt_of_get (by assumption)) | rfl)) ?_
 refine L_nil (K_seq (B_seq (B_seq (B_region ?_))))
 refine Lo u77 (W24 rfl rfl rfl rfl rfl) ?_
 refine L_call rfl rfl rfl (by exact Copy_F _ p hp) ?_
 rintro _ _ ⟨rfl, rfl⟩
 refine Le u77 ?_
 refine Lo u77 (rfl) ?_
 refine Lo u77 (rfl) ?_
 refine Lo u77 (v_const (VVal.int .i64 0) (.inl rfl) rfl) ?_
 refine L_nil (K_seq (B_block ?_))
 refine B_clear (mk 77 151115727444132065443249) (env' := u77) rfl ?_
 refine B_loopE (fun (i : Nat) => p.rules.length - i) (fun (i : Nat) => [(42, iI (i : Nat))]) (fun (i : Nat) G => (i ≤ p.rules.length) ∧ ∃ lv X, G = ((H ++ [.dead, t6c]) ++ (Y ++ [.cells [iI p.users, .slice (some ((H ++ [.dead, t6c]).length + j, 0)) p.who.length p.who.length false 1, .slice (some ((H ++ [.dead, t6c]).length + k, 0)) p.fixed.length p.fixed.length false 1, lv] true])) ++ X ∧ LV (H.length + 2 + (Y.length + 1)) 3 X lv ((mpR p rs i).flatMap rlB) (mpR p rs i).length) 0 rfl ?_ ?_
 ·refine ⟨?_, ⟨_, [], by rw [List.append_nil]; rfl, LV.nil _ _ _⟩⟩
  exact Nat.zero_le _
 rintro i _ ⟨hi, ⟨lv, X, rfl, hl⟩⟩
 refine B_env (env' := u77) rfl ?_
 refine B_seq (B_region ?_)
 refine Lo u77 (rfl) ?_
 refine L_nil (K_seq (B_seq ?_))
 refine B_cond _ rfl (fun hc1 => ?_) (fun hc1 => ?_)
 ·try simp only [qB, qN] at hc1
  refine B_skip (K_seq (B_seq (B_block (B_seq (B_region ?_)))))
  refine Lo u77 (v_move (.inl rfl) rfl) ?_
  refine Lo u77 (W18 rfl rfl rfl rfl rfl rfl rfl) ?_
  refine Lo u77 (W24 rfl rfl rfl rfl rfl) ?_
  refine Lo u77 (v_alloc rfl rfl) ?_
  refine Lo u77 (v_move (.inr rfl) rfl) ?_
  refine Lo u77 (W13 rfl rfl rfl rfl rfl rfl rfl) ?_
  refine L_nil (K_seq (B_seq (B_region ?_)))
  refine Lo u77 (v_move (.inl rfl) rfl) ?_
  refine Lo u77 (v_move (.inl rfl) rfl) ?_
  refine L_call rfl rfl rfl (by exact Contains_spec _ _ rs i (by first | exact hr | exact hr.app _ | exact (hr.app _).app _ | exact ((hr.app _).app _).app _) hrl) ?_
  rintro _ _ ⟨rfl, rfl⟩
  refine Le u77 ?_
  refine Lo u77 (rfl) ?_
  refine L_nil (K_seq ?_)
  refine B_cond _ rfl (fun hc2 => ?_) (fun hc2 => ?_)
  ·try simp only [qB, qN] at hc2
   refine B_region ?_
   refine Lo u77 (rfl) ?_
   refine Lo u77 (W5e rfl rfl rfl rfl) ?_
   refine Lo u77 (W24 rfl rfl rfl rfl rfl) ?_
   refine Lo u77 (v_buildSlice rfl rfl (by decide) rfl) ?_
   refine L_opX rfl rfl (v_appXh rfl rfl rfl rfl rfl rfl rfl (by simp; omega) (hl.app _) rfl rfl (by decide) (by have := @mpR_len p rs i; show (_ + 1) * 40 ≤ _ ∧ _ + 1 ≤ _; omega) (by decide)) ?_
   rintro _ _ ⟨Y1, rfl, rfl, hX1, hX2, hX3⟩
   refine Le u77 ?_
   refine Lo u77 (rfl) ?_
   refine Lo u77 (W5f rfl rfl rfl rfl rfl rfl rfl) ?_
   refine L_nil (K_blk (K_seq (B_region ?_)))
   refine Lo u77 (W14 rfl rfl rfl) ?_
   refine Lo u77 (v_move (.inl rfl) rfl) ?_
   refine L_nil ?_
   refine K_loop (mk 77 151115727444132065443249) (env' := u77) rfl ⟨i + 1, ?_, rfl, ?_⟩
   ·first | omega | (simp only []; omega)
   ·first | exact ⟨by omega, _, _, rfl, by rw [mpR_step, if_neg (by simp_all)]; exact LV.pushF hX3⟩ | exact ⟨by omega, _, _, rfl, by rw [mpR_step, if_pos (by simp_all), List.append_nil]; exact hl.app _⟩
  ·try simp only [qB, qN] at hc2
   refine B_skip (K_blk (K_seq (B_region ?_)))
   refine Lo u77 (W14 rfl rfl rfl) ?_
   refine Lo u77 (v_move (.inl rfl) rfl) ?_
   refine L_nil ?_
   refine K_loop (mk 77 151115727444132065443249) (env' := u77) rfl ⟨i + 1, ?_, rfl, ?_⟩
   ·first | omega | (simp only []; omega)
   ·first | exact ⟨by omega, _, _, rfl, by rw [mpR_step, if_neg (by simp_all)]; exact LV.pushF hX3⟩ | exact ⟨by omega, _, _, rfl, by rw [mpR_step, if_pos (by simp_all), List.append_nil]; exact hl.app _⟩
 ·try simp only [qB, qN] at hc1
  refine B_exit (K_seqX (K_loopX (K_blkX (K_seq (B_seq (B_seq ?_))))))
  obtain rfl : i = p.rules.length := by omega
  refine B_ghCell (H := (H ++ [.dead, t6c])) (L := Y ++ [.cells [iI p.users, .slice (some ((H ++ [.dead, t6c]).length + j, 0)) p.who.length p.who.length false 1, .slice (some ((H ++ [.dead, t6c]).length + k, 0)) p.fixed.length p.fixed.length false 1, lv] true]) Y.length 3 hl get_end rfl (by simp; omega) fun X5 _ _ => ?_
  rw [set_end]
  refine B_heap (List.append_assoc _ _ _) ?_
  refine B_region ?_
  refine Lo u77 (v_move (.inl rfl) rfl) ?_
  refine Lo u77 (v_lenD rfl rfl rfl rfl hs) ?_
  refine Lo u77 (v_const (VVal.int .i64 0) (.inl rfl) rfl) ?_
  refine L_nil (K_seq (B_block ?_))
  refine B_clear (mk 77 151113709839195584855479) (env' := u77) rfl ?_
  refine B_loopE (fun (s : Nat) => ss.length - s) (fun (s : Nat) => [(60, iI (s : Nat))]) (fun (s : Nat) G => (s ≤ ss.length) ∧ ∃ Z, G = (H ++ [.dead, t6c]) ++ ((Z ++ [.cells [iI p.users, .slice (some ((H ++ [.dead, t6c]).length + j, 0)) p.who.length p.who.length false 1, .slice (some ((H ++ [.dead, t6c]).length + k, 0)) p.fixed.length p.fixed.length false 1, fzR (mpR p rs p.rules.length)] true]) ++ X5) ∧ Z.length = Y.length ∧ Z[j]? = some (.cells ((mpW p (inB (ss.take s))).map iW) true) ∧ Z[k]? = some (.cells ((mpF p (inB (ss.take s))).map iI) true)) 0 rfl ?_ ?_
  ·refine ⟨?_, ⟨Y, rfl, rfl, by rw [show inB (ss.take 0) = fun _ => false from rfl, mpW_no]; exact hY1, by rw [show inB (ss.take 0) = fun _ => false from rfl, mpF_no g5]; exact hY2⟩⟩
   exact Nat.zero_le _
  rintro s _ ⟨hs9, ⟨Z, rfl, hZl, hZ1, hZ2⟩⟩
  refine B_env (env' := u77) rfl ?_
  refine B_seq (B_region ?_)
  refine Lo u77 (rfl) ?_
  refine L_nil (K_seq (B_seq ?_))
  refine B_cond _ rfl (fun hc3 => ?_) (fun hc3 => ?_)
  ·try simp only [qB, qN] at hc3
   refine B_skip (K_seq (B_seq (B_block (B_seq (B_region ?_)))))
   refine L_opX rfl rfl (v_ixD rfl rfl rfl rfl rfl rfl rfl (hs.app _) (by omega) _) ?_
   rintro w _ ⟨rfl, hw⟩
   refine Le u77 ?_
   refine Lo u77 (v_ld rfl rfl rfl rfl hw.app) ?_
   refine Lo u77 (v_move (.inr rfl) rfl) ?_
   refine L_nil (K_seq ?_)
   obtain ⟨i, hi1, hi2⟩ := ltB_at hls (show s < ss.length by omega)
   rw [hi1]
   refine B_draw [0, 1, 2, 3, 4, 5, 6, 7, 8, 9, 10, 11, 12] #[0, 1, 0, 0, 8, 0, 0, 64, 192, 455, 967, 2047, 4095] (by kernel_rfl) (by kernel_rfl) (by kernel_rfl) ?_
   refine Oo u77 .calm rfl (rfl) ?_
   refine O_opI (env' := u77) (x := .look _ _) rfl rfl rfl (W5h rfl rfl rfl rfl) rfl rfl rfl ?_
   refine Oo u77 .calm rfl (v_move (.inl rfl) rfl) ?_
   refine Oo u77 .calm rfl (rfl) ?_
   refine O_opI (env' := u77) (x := .look _ _) rfl rfl rfl (W5h rfl rfl rfl rfl) rfl rfl rfl ?_
   refine Oo u77 .calm rfl (v_move (.inl rfl) rfl) ?_
   refine Oo u77 .calm rfl (rfl) ?_
   refine Oo u77 .look rfl (W26 rfl rfl rfl rfl) ?_
   refine O_call (env' := u77) rfl rfl rfl rfl rfl (by exact every_spec _ _ g.u0) (by first | exact Nat.le_refl _ | simp) rfl rfl ?_
   refine Oo u77 .calm rfl (W18 rfl rfl rfl rfl rfl rfl rfl) ?_
   refine O_opI (env' := u77) (x := .turn _ _) rfl rfl rfl (W5i rfl rfl rfl rfl rfl rfl rfl) rfl rfl rfl ?_
   refine Oo u77 .calm rfl (W18 rfl rfl rfl rfl rfl rfl rfl) ?_
   refine Oo u77 .turn rfl (v_storeC (VVal.int .i64 (-1)) rfl rfl rfl rfl rfl rfl rfl (by exact get_app rfl (get_append (get_append (by rw [List.getElem?_set_ne hjk]; exact hZ2)))) (by show 0 + ((i : Nat) : Int).toNat * 1 + 1 ≤ _; rw [List.length_map, mpF_len]; omega) (by exact (set_app rfl).trans (by rw [set_out (by simp; have := lt_of_get hZ2; omega), set_out (by rw [List.length_set]; exact lt_of_get hZ2)]))) ?_
   refine O_nilP [(1, 8), (4, 8), (4, 10)] (by kernel_rfl) (And.intro ⟨_, _, _, _, ⟨(gA (gA (gA (gA (gA (gA (gA (gA (gA (gA (gA (gL (by kernel_rfl))))))))))))), (gA (gA (gA (gA (gL (by kernel_rfl)))))), And.intro (W5h rfl rfl rfl rfl) (W5h rfl rfl rfl rfl)⟩⟩ (And.intro ⟨_, _, _, _, ⟨(gA (gA (gA (gA (gA (gA (gA (gA (gL (by kernel_rfl)))))))))), (gA (gA (gA (gA (gL (by kernel_rfl)))))), And.intro (W5h rfl rfl rfl rfl) (W5h rfl rfl rfl rfl)⟩⟩ (And.intro ⟨_, _, _, _, ⟨(gA (gA (gA (gA (gA (gA (gA (gA (gL (by kernel_rfl)))))))))), (gA (gA (gL (by kernel_rfl)))), And.intro (W5h rfl rfl rfl rfl) (W5h rfl rfl rfl rfl)⟩⟩ (trivial)))) ?_
   refine K_blk (K_seq (B_region ?_))
   refine Lo u77 (W14 rfl rfl rfl) ?_
   refine Lo u77 (v_move (.inl rfl) rfl) ?_
   refine L_nil ?_
   refine K_loop (mk 77 151113709839195584855479) (env' := u77) rfl ⟨s + 1, ?_, rfl, ?_⟩
   ·first | omega | (simp only []; omega)
   ·exact ⟨by omega, _, rfl, by rw [List.length_set, List.length_set]; exact hZl, by rw [List.getElem?_set_ne (Ne.symm hjk), List.getElem?_set_self (lt_of_get hZ1)]; exact congrArg (fun l => some (VBlk.cells l true)) (stepW hi2 (by omega) hi1), by rw [List.getElem?_set_self (by rw [List.length_set]; exact lt_of_get hZ2)]; exact congrArg (fun l => some (VBlk.cells l true)) (stepF hi2 (by omega) hi1)⟩
  ·try simp only [qB, qN] at hc3
   refine B_exit (K_seqX (K_loopX (K_blkX (K_seq (B_seq ?_)))))
   obtain rfl : s = ss.length := by omega
   rw [List.take_length] at hZ1 hZ2
   have hjl := lt_of_get hZ1; have hkl := lt_of_get hZ2
   refine B_gh (Gh.cellL (H := (H ++ [.dead, t6c])) (l := (mpW p (inB ss)).map iW) Y.length 1 j (get_append (get_endE hZl)) rfl (by omega) (get_append (get_append hZ1)) (cellsAt_all (by rw [List.length_map, mpW_len])) (Nat.le_refl _)) ?_
   refine B_gh (Gh.cellL (H := (H ++ [.dead, t6c])) (l := (mpF p (inB ss)).map iI) Y.length 2 k (List.getElem?_set_self (by simp; omega)) rfl (by omega) (by rw [List.getElem?_set_ne (by omega), List.getElem?_set_ne hjk]; exact get_append (get_append hZ2)) (cellsAt_all (by rw [List.length_map, mpF_len, g5])) (Nat.le_refl _)) ?_
   refine B_region ?_
   refine Lo u77 (W5j rfl rfl rfl rfl rfl) ?_
   refine Lo u77 (W5k rfl rfl rfl rfl rfl rfl rfl) ?_
   refine Lo u77 (v_const (VVal.int .i64 0) (.inr rfl) rfl) ?_
   refine L_nil (K_seq ?_)
   refine B_heap (List.append_assoc _ _ _) ?_
   refine B_ret ?_
   refine W5l (.inr rfl) (vres_cAt rfl rfl rfl rfl (by first | exact get_app rfl rfl | exact getB rfl rfl) (by first | rfl | assumption | exact fgetN (α := BitVec 64) 0 (by omega) | exact fgetN (α := Int) 0 (by omega) | exact rul_at (by omega) | exact rul_f2 (by omega) | exact rul_f0 (by omega) | exact rul_f1 (by omega)) rfl) ?_
   exact ⟨by rw [he, woP_ok he]; show _ = VVal.tuple [.agg [iI p.users, .fsl ((mpW p (inB ss)).map iW) (mpW p (inB ss)).length 1 false, .fsl ((mpF p (inB ss)).map iI) (mpF p (inB ss)).length 1 false, fzR (mpR p rs p.rules.length)], iI 0]; rw [mpW_len, mpF_len, g5]; rfl, rfl⟩
theorem Without_0 {x : SW} (H : VHeap) (p : Pb) (rv sv : VVal) (rs ss : List Int) (hp : PbL p) (hr : RD H rv rs) (hs : RD H sv ss) (hrl : rs.length ≤ 1000000) (hsl : ss.length ≤ 1000000) (he : woE p rs ss = 0) (h0 : p.who = []) : F (psys x) 27 [.agg (pbB p), rv, sv] H fun v G => v = .tuple [.agg (pbB (woP p rs ss)), iI (woE p rs ss)] ∧ G = H := by
 obtain ⟨g, hlr, hls⟩ := woE_ok.1 he
 obtain ⟨h1, h2⟩ := woP_0 g h0
 have h3 : ss = [] := ltB_0 (by rw [h0] at hls; exact hls)
 refine F_body Tryd.func27 rfl u77 rfl ?_
 refine B_seq (B_region ?_)
 refine Lo u77 (v_boxT rfl rfl rfl) ?_
 refine Lo u77 (v_alloc rfl rfl) ?_
 refine Lo u77 (v_const (VVal.int .i64 0) (.inr rfl) rfl) ?_
 refine L_nil (K_seq (B_seq (B_seq ?_)))
 refine B_gh (Gh.freezePtrL (cs := pbB p) 3 0 rfl rfl rfl) ?_
 refine B_region ?_
 refine Lo u77 (W24 rfl rfl rfl rfl rfl) ?_
 refine L_call rfl rfl rfl (by exact sCheck_spec _ p hp) ?_
 rintro _ _ ⟨rfl, rfl⟩
 refine Le u77 ?_
 refine Lo u77 (v_move (.inr rfl) rfl) ?_
 refine L_nil (K_seq (B_seq (B_region ?_)))
 refine Lo u77 (v_move (.inl rfl) rfl) ?_
 refine Lo u77 (v_is false rfl (by rw [pck_good.2 g]; rfl)) ?_
 refine L_nil (K_seq ?_)
 refine B_false rfl rfl ?_
 refine B_skip (K_seq (B_seq (B_seq (B_region ?_))))
 refine Lo u77 (v_move (.inl rfl) rfl) ?_
 refine Lo u77 (rfl) ?_
 refine Lo u77 (W26 rfl rfl rfl rfl) ?_
 refine Lo u77 (rfl) ?_
 refine L_call rfl rfl rfl (by exact cwithin_spec _ _ rs p.rules.length (by first | exact hr | exact hr.app _ | exact (hr.app _).app _ | exact ((hr.app _).app _).app _) hrl) ?_
 rintro v _ ⟨hv, rfl⟩; rw [hlr] at hv; subst hv
 refine Le u77 ?_
 refine Lo u77 (rfl) ?_
 refine Lo u77 (v_move (.inl rfl) rfl) ?_
 refine Lo u77 (v_move (.inl rfl) rfl) ?_
 refine Lo u77 (rfl) ?_
 refine Lo u77 (W26 rfl rfl rfl rfl) ?_
 refine Lo u77 (rfl) ?_
 refine L_call rfl rfl rfl (by exact cwithin_spec _ _ ss p.who.length (by first | exact hs | exact hs.app _ | exact (hs.app _).app _ | exact ((hs.app _).app _).app _) hsl) ?_
 rintro v _ ⟨hv, rfl⟩; rw [hls] at hv; subst hv
 refine Le u77 ?_
 refine Lo u77 (rfl) ?_
 refine Lo u77 (v_pickF rfl rfl rfl) ?_
 refine L_nil (K_seq ?_)
 refine B_false rfl rfl ?_
 refine B_skip (K_seq (B_seq (B_region ?_)))
 refine Lo u77 (W24 rfl rfl rfl rfl rfl) ?_
 refine L_call rfl rfl rfl (by exact Copy_F _ p hp) ?_
 rintro _ _ ⟨rfl, rfl⟩
 refine Le u77 ?_
 refine Lo u77 (v_alloc rfl rfl) ?_
 refine Lo u77 (W13 rfl rfl rfl rfl rfl rfl rfl) ?_
 refine L_nil (K_seq (B_seq (B_region ?_)))
 refine Lo u77 (rfl) ?_
 refine Lo u77 (v_storeC (VVal.slice none 0 0 true 0) rfl rfl rfl rfl rfl rfl rfl (by first | exact get_app rfl rfl | exact get_out (by assumption) | exact getE0 rfl rfl | exact get_out (get_app rfl rfl) | exact get_app rfl (by assumption) | assumption | (simp only [List.append_assoc, List.singleton_append, List.cons_append, List.nil_append]; refine getE (i := 0) rfl ?_ rfl; simp; done) | (simp only [List.append_assoc, List.singleton_append, List.cons_append, List.nil_append]; refine getE (i := 1) rfl ?_ rfl; simp; done) | (simp only [List.append_assoc, List.singleton_append, List.cons_append, List.nil_append]; refine getE (i := 2) rfl ?_ rfl; simp; done) | (simp only [List.append_assoc, List.singleton_append, List.cons_append, List.nil_append]; refine getE (i := 3) rfl ?_ rfl; simp; done) | (simp [*]; done)) (by first | exact Nat.le_of_ble_eq_true rfl | (simp only [List.length_map, List.length_cons, List.length_nil]; omega) | omega | (simp; done) | (simp; omega)) (by first | exact setE0 rfl rfl | (simp only [List.append_assoc, List.singleton_append, List.cons_append, List.nil_append]; refine setE (i := 0) rfl ?_; simp; done) | (simp only [List.append_assoc, List.singleton_append, List.cons_append, List.nil_append]; refine setE (i := 1) rfl ?_; simp; done) | (simp only [List.append_assoc, List.singleton_append, List.cons_append, List.nil_append]; refine setE (i := 2) rfl ?_; simp; done) | (simp only [List.append_assoc, List.singleton_append, List.cons_append, List.nil_append]; refine setE (i := 3) rfl ?_; simp; done) | (refine setB rfl ?_; simp; done) | exact set_app rfl | exact set_out (lt_of_get (by assumption)) | rfl)) ?_
 refine L_nil (K_seq (B_seq (B_seq ?_)))
 refine B_gh (Gh.cellNilL 2 3 (es' := 3) rfl rfl) ?_
 refine B_region ?_
 refine Lo u77 (W24 rfl rfl rfl rfl rfl) ?_
 refine L_call rfl rfl rfl (by exact Copy_F _ p hp) ?_
 rintro _ _ ⟨rfl, rfl⟩
 refine Le u77 ?_
 refine Lo u77 (rfl) ?_
 refine Lo u77 (rfl) ?_
 refine Lo u77 (v_const (VVal.int .i64 0) (.inl rfl) rfl) ?_
 refine L_nil (K_seq (B_block ?_))
 refine B_clear (mk 77 151115727444132065443249) (env' := u77) rfl ?_
 refine B_loopE (fun (i : Nat) => p.rules.length - i) (fun (i : Nat) => [(42, iI (i : Nat))]) (fun (i : Nat) G => (i ≤ p.rules.length) ∧ G = H ++ [.dead, t6c, .cells [iI p.users, fzW p.who, fzI p.fixed, .fsl [] 0 3 false] true]) 0 rfl ?_ ?_
 ·refine ⟨?_, rfl⟩
  exact Nat.zero_le _
 rintro i _ ⟨hi, rfl⟩
 refine B_env (env' := u77) rfl ?_
 refine B_seq (B_region ?_)
 refine Lo u77 (rfl) ?_
 refine L_nil (K_seq (B_seq ?_))
 refine B_cond _ rfl (fun hc1 => ?_) (fun hc1 => ?_)
 ·try simp only [qB, qN] at hc1
  exfalso
  rw [h2] at hc1; simp at hc1; omega
 ·try simp only [qB, qN] at hc1
  refine B_exit (K_seqX (K_loopX (K_blkX (K_seq (B_seq (B_seq (B_region ?_)))))))
  refine Lo u77 (v_move (.inl rfl) rfl) ?_
  refine Lo u77 (v_lenD rfl rfl rfl rfl hs) ?_
  refine Lo u77 (v_const (VVal.int .i64 0) (.inl rfl) rfl) ?_
  refine L_nil (K_seq (B_block ?_))
  refine B_clear (mk 77 151113709839195584855479) (env' := u77) rfl ?_
  refine B_loopE (fun (s : Nat) => ss.length - s) (fun (s : Nat) => [(60, iI (s : Nat))]) (fun (s : Nat) G => (s ≤ ss.length) ∧ G = H ++ [.dead, t6c, .cells [iI p.users, fzW p.who, fzI p.fixed, .fsl [] 0 3 false] true]) 0 rfl ?_ ?_
  ·refine ⟨?_, rfl⟩
   exact Nat.zero_le _
  rintro s _ ⟨hs9, rfl⟩
  refine B_env (env' := u77) rfl ?_
  refine B_seq (B_region ?_)
  refine Lo u77 (rfl) ?_
  refine L_nil (K_seq (B_seq ?_))
  refine B_cond _ rfl (fun hc2 => ?_) (fun hc2 => ?_)
  ·try simp only [qB, qN] at hc2
   exfalso
   rw [h3] at hc2; simp at hc2; omega
  ·try simp only [qB, qN] at hc2
   refine B_exit (K_seqX (K_loopX (K_blkX (K_seq (B_seq (B_region ?_))))))
   refine Lo u77 (W24 rfl rfl rfl rfl rfl) ?_
   refine Lo u77 (W13 rfl rfl rfl rfl rfl rfl rfl) ?_
   refine Lo u77 (v_const (VVal.int .i64 0) (.inr rfl) rfl) ?_
   refine L_nil (K_seq (B_ret ?_))
   refine W5m (.inr rfl) (vres_cAt rfl rfl rfl rfl (by first | exact get_app rfl rfl | exact getB rfl rfl) (by first | rfl | assumption | exact fgetN (α := BitVec 64) 0 (by omega) | exact fgetN (α := Int) 0 (by omega) | exact rul_at (by omega) | exact rul_f2 (by omega) | exact rul_f0 (by omega) | exact rul_f1 (by omega)) rfl) ?_
   exact ⟨by rw [he, woP_ok he, woQ_0 g h0]; rfl, rfl⟩
theorem Without_spec {x : SW} (H : VHeap) (p : Pb) (rv sv : VVal) (rs ss : List Int) (hp : PbL p) (hr : RD H rv rs) (hs : RD H sv ss) (hrl : rs.length ≤ 1000000) (hsl : ss.length ≤ 1000000) : F (psys x) 27 [.agg (pbB p), rv, sv] H fun v G => v = .tuple [.agg (pbB (woP p rs ss)), iI (woE p rs ss)] ∧ G = H := by
  by_cases he : woE p rs ss = 0
  · by_cases h0 : p.who.length = 0
    · exact Without_0 H p rv sv rs ss hp hr hs hrl hsl he (List.eq_nil_of_length_eq_zero h0)
    · exact Without_F H p rv sv rs ss hp hr hs hrl hsl he (by omega)
  · exact Without_e H p rv sv rs ss hp hr hs hrl hsl he
end Go.Proofs.YtgbahioegcpjiaaDoor.VT

set_option autoImplicit false
set_option linter.unusedVariables false
set_option linter.unusedSimpArgs false
set_option maxHeartbeats 4000000
set_option maxRecDepth 100000
namespace Go.Proofs.YtgbahioegcpjiaaDoor.VT
open Go Go.V Go.RowKit
abbrev u49 {a0 a1 a2 a3 a4 a5 a6 a7 a8 a9 a10 a11 a12 a13 a14 a15 a16 a17 a18 a19 a20 a21 a22 a23 a24 a25 a26 a27 a28 a29 a30 a31 a32 a33 a34 a35 a36 a37 a38 a39 a40 a41 a42 a43 a44 a45 a46 a47 a48 : VVal} : VEnv := a0 :: a1 :: a2 :: a3 :: a4 :: a5 :: a6 :: a7 :: a8 :: a9 :: a10 :: a11 :: a12 :: a13 :: a14 :: a15 :: a16 :: a17 :: a18 :: a19 :: a20 :: a21 :: a22 :: a23 :: a24 :: a25 :: a26 :: a27 :: a28 :: a29 :: a30 :: a31 :: a32 :: a33 :: a34 :: a35 :: a36 :: a37 :: a38 :: a39 :: a40 :: a41 :: a42 :: a43 :: a44 :: a45 :: a46 :: a47 :: a48 :: []
theorem W5o {T : TypeId → Option VTy} {H : VHeap} {op : Op} {ρ : Operand → VVal} {t : TypeId} {a : Operand} {y : VTy} {p v : VVal} (ho : op = .load t a) (ha : ρ a = p) (hy : T t = some y) (hd : isAggDesc y.desc = false) (h : LdOk H p v := by first | exact .inl ⟨_, _, rfl, by first | rfl | assumption⟩ | exact .inr ⟨_, _, _, _, rfl, by exact get_append (wh_at (n := 3) rfl), by first | rfl | assumption⟩) : vop T ρ H op = some (v, H) := v_ld ho ha hy hd h
theorem W5p {T : TypeId → Option VTy} {H : VHeap} {op : Op} {ρ : Operand → VVal} {t : TypeId} {a : Operand} {y : VTy} {p v : VVal} (ho : op = .load t a) (ha : ρ a = p) (hy : T t = some y) (hd : isAggDesc y.desc = false) (h : LdOk H p v := by first | exact .inl ⟨_, _, rfl, by first | rfl | assumption⟩ | exact .inr ⟨_, _, _, _, rfl, by exact get_append (wh_at (n := 4) rfl), by first | rfl | assumption⟩) : vop T ρ H op = some (v, H) := v_ld ho ha hy hd h
theorem W5r {T : TypeId → Option VTy} {H : VHeap} {op : Op} {ρ : Operand → VVal} {t : TypeId} {a : Operand} {y : VTy} {p v : VVal} (ho : op = .load t a) (ha : ρ a = p) (hy : T t = some y) (hd : isAggDesc y.desc = false) (h : LdOk H p v := by first | exact .inl ⟨_, _, rfl, by first | rfl | assumption⟩ | exact .inr ⟨_, _, _, _, rfl, by exact get_append (wh_at (n := 2) rfl), by first | rfl | assumption⟩) : vop T ρ H op = some (v, H) := v_ld ho ha hy hd h
theorem W5s {S : V.Sys} {H : VHeap} {fn : Func} {ex : Exit} {env : VEnv} {B L : VHeap} {v : VVal} {R : VVal → VHeap → Prop} (hx : ex = .normal ∨ ex = .ret) (hv : vresults S.C.T env (B ++ L) fn.results = some v) (h : R v B) (hB : BaseOk H B := by exact wh_base) (hu : v.under H.length = true := by first | rfl | simp [VVal.under, VVal.underL, *]) : fnK S fn H R ex env (B ++ L) := E_app hx hv hB hu h
theorem W5t {T : TypeId → Option VTy} {H : VHeap} {op : Op} {ρ : Operand → VVal} {t : TypeId} {a : Operand} {y : VTy} {p v : VVal} (ho : op = .load t a) (ha : ρ a = p) (hy : T t = some y) (hd : isAggDesc y.desc = false) (h : LdOk H p v := by first | exact .inl ⟨_, _, rfl, by first | rfl | assumption⟩ | exact .inr ⟨_, _, _, _, rfl, by first | exact wh_at (n := 3) rfl | exact get_append (wh_at (n := 3) rfl), by first | rfl | assumption⟩) : vop T ρ H op = some (v, H) := v_ld ho ha hy hd h
theorem W5u {T : TypeId → Option VTy} {H : VHeap} {op : Op} {ρ : Operand → VVal} {t : TypeId} {a : Operand} {y : VTy} {p v : VVal} (ho : op = .load t a) (ha : ρ a = p) (hy : T t = some y) (hd : isAggDesc y.desc = false) (h : LdOk H p v := by first | exact .inl ⟨_, _, rfl, by first | rfl | assumption⟩ | exact .inr ⟨_, _, _, _, rfl, by exact wh_at (n := 3) rfl, by first | rfl | assumption⟩) : vop T ρ H op = some (v, H) := v_ld ho ha hy hd h
theorem W5x {T : TypeId → Option VTy} {H : VHeap} {op : Op} {ρ : Operand → VVal} {t : TypeId} {a : Operand} {y : VTy} {p v : VVal} (ho : op = .load t a) (ha : ρ a = p) (hy : T t = some y) (hd : isAggDesc y.desc = false) (h : LdOk H p v := by first | exact .inl ⟨_, _, rfl, by first | rfl | assumption⟩ | exact .inr ⟨_, _, _, _, rfl, by first | exact wh_at (n := 4) rfl | exact get_append (wh_at (n := 4) rfl), by first | rfl | assumption⟩) : vop T ρ H op = some (v, H) := v_ld ho ha hy hd h
theorem W5y {T : TypeId → Option VTy} {H : VHeap} {op : Op} {ρ : Operand → VVal} {t : TypeId} {a : Operand} {y : VTy} {p v : VVal} (ho : op = .load t a) (ha : ρ a = p) (hy : T t = some y) (hd : isAggDesc y.desc = false) (h : LdOk H p v := by first | exact .inl ⟨_, _, rfl, by first | rfl | assumption⟩ | exact .inr ⟨_, _, _, _, rfl, by exact wh_at (n := 4) rfl, by first | rfl | assumption⟩) : vop T ρ H op = some (v, H) := v_ld ho ha hy hd h
def stW (p : Pb) (a c : List Nat) : Bool := !(leA (woP p (zI a) (zI c))).isSome
def whA (p : Pb) : List Nat × List Nat := gr (fun l => stW p l []) p.rules.length
def whC (p : Pb) : List Nat × List Nat := gr (fun l => stW p (whA p).1 l) p.who.length
def whB (p : Pb) : Bool := decide (pck p = 0) && !(leA p).isSome
def whV (p : Pb) : VVal := if whB p = true then .tuple [fzN (whA p).2, fzN (whC p).2, .bool true] else .tuple [fzN [], fzN [], .bool false]
def whH (H : VHeap) (g : Gz) (a b c d : VVal) : VHeap := H ++ [.dead, gaB g, .cells [.ptr (some (H.length + 1, 0))] true, .cells [a, b] true, .cells [c, d] true]
abbrev stV (H : VHeap) (p : Pb) : VVal := .func 66 [] [.fptr (pbB p) 0, .ptr (some (H.length + 3, 0)), .ptr (some (H.length + 4, 0)), .ptr (some (H.length + 2, 0))]
section
variable {H X : VHeap} {g : Gz} {a b c d w : VVal}
theorem wh_len : (whH H g a b c d).length = H.length + 5 := by unfold whH; rw [List.length_append]; rfl
theorem wh_at {n : Nat} {k : VBlk} (hk : [VBlk.dead, gaB g, .cells [.ptr (some (H.length + 1, 0))] true, .cells [a, b] true, .cells [c, d] true][n]? = some k) : (whH H g a b c d ++ X)[H.length + n]? = some k := by
  unfold whH; rw [List.append_assoc]; exact get_app rfl (get_append hk)
theorem wh_setg {g' : Gz} : (whH H g a b c d ++ X).set (H.length + 1) (gaB g') = whH H g' a b c d ++ X := by
  unfold whH; rw [List.append_assoc, set_app rfl, List.append_assoc]; rfl
theorem wh_set0 : (whH H g a b c d ++ X).set (H.length + 3) (.cells (splice [a, b] (0 + 0) [w]) true) = whH H g w b c d ++ X := by
  unfold whH; rw [List.append_assoc, set_app rfl, List.append_assoc]; rfl
theorem wh_set1 : (whH H g a b c d ++ X).set (H.length + 3) (.cells (splice [a, b] (0 + 1) [w]) true) = whH H g a w c d ++ X := by
  unfold whH; rw [List.append_assoc, set_app rfl, List.append_assoc]; rfl
theorem wh_set2 : (whH H g a b c d ++ X).set (H.length + 4) (.cells (splice [c, d] (0 + 0) [w]) true) = whH H g a b w d ++ X := by
  unfold whH; rw [List.append_assoc, set_app rfl, List.append_assoc]; rfl
theorem wh_set3 : (whH H g a b c d ++ X).set (H.length + 4) (.cells (splice [c, d] (0 + 1) [w]) true) = whH H g a b c w ++ X := by
  unfold whH; rw [List.append_assoc, set_app rfl, List.append_assoc]; rfl
theorem wh_rd {l : List Nat} (r : RV (H.length + 5) X w (rcN l)) : RD (whH H g a b c d ++ X) w (zI l) := RD.of_rv (by rw [wh_len]; exact r)
end
theorem gr_yes {st : List Nat → Bool} {n : Nat} (h : st ((gr st n).1 ++ [n]) = true) : gr st (n + 1) = ((gr st n).1 ++ [n], (gr st n).2) := by rw [gr_succ, if_pos h]
theorem gr_no {st : List Nat → Bool} {n : Nat} (h : st ((gr st n).1 ++ [n]) = false) : gr st (n + 1) = ((gr st n).1, (gr st n).2 ++ [n]) := by rw [gr_succ, if_neg (by rw [h]; decide)]
theorem LV.pushN {h : Nat} {X : VHeap} {v : VVal} {l : List Nat} {n : Nat} (r : LV h 1 X v (rcN l ++ [iI (n : Nat)]) (l.length + 1)) : LV h 1 X v (rcN (l ++ [n])) (l ++ [n]).length := by
  rw [rcN_snoc, List.length_append]; exact r
theorem wh_base {H X : VHeap} {g g1 : Gz} {a b c d : VVal} : BaseOk (whH H g a b c d ++ X) (whH H g1 a b c d ++ X) := by
  have := BaseOk.set (BaseOk.refl (whH H g a b c d ++ X)) (H.length + 1) (k := gaB g1) rfl
  rw [wh_setg] at this; exact this
theorem fzI_N {l : List Nat} : fzN l = fzI (zI l) := fzN_is l
theorem Why1_spec {x : SW} (H X : VHeap) (g : Gz) (a b c d : VVal) (p : Pb) (hp : PbL p) (l m : List Nat) (hl : RD (whH H g a b c d ++ X) a (zI l)) (hm : RD (whH H g a b c d ++ X) c (zI m)) (h1 : l.length ≤ 1000) (h2 : m.length ≤ 1000) : F (psys x) 66 [.fptr (pbB p) 0, .ptr (some (H.length + 3, 0)), .ptr (some (H.length + 4, 0)), .ptr (some (H.length + 2, 0))] (whH H g a b c d ++ X) fun v G => v = .bool (stW p l m) ∧ ∃ g1, G = whH H g1 a b c d ++ X := by
 refine F_body Tryd.func66 rfl u20 rfl ?_
 refine B_seq (B_region ?_)
 refine Lo u20 (v_const (VVal.bool false) (.inr rfl) rfl) ?_
 refine L_nil (K_seq (B_seq (B_region ?_)))
 refine Lo u20 (W4h rfl rfl rfl rfl rfl) ?_
 refine Lo u20 (rfl) ?_
 refine Lo u20 (W5o rfl rfl rfl rfl) ?_
 refine Lo u20 (rfl) ?_
 refine Lo u20 (W5p rfl rfl rfl rfl) ?_
 refine L_call rfl rfl rfl (by exact Without_spec _ p a c (zI l) (zI m) hp (by first | exact hl | exact hl.app _) (by first | exact hm | exact hm.app _) (by rw [zI_len]; omega) (by rw [zI_len]; omega)) ?_
 rintro _ _ ⟨rfl, rfl⟩
 refine Le u20 ?_
 refine Lo u20 (v_move (.inl rfl) rfl) ?_
 refine Lo u20 (rfl) ?_
 refine Lo u20 (rfl) ?_
 refine Lo u20 (v_alloc rfl rfl) ?_
 refine Lo u20 (W13 rfl rfl rfl rfl rfl rfl rfl) ?_
 refine Lo u20 (v_move (.inr rfl) rfl) ?_
 refine L_nil (K_seq (B_seq (B_region ?_)))
 refine Lo u20 (W5r rfl rfl rfl rfl) ?_
 refine Lo u20 (W4h rfl rfl rfl rfl rfl) ?_
 refine L_call rfl rfl rfl (by exact Can_spec _ (H.length + 1) g (get_append (wh_at (n := 1) rfl)) (woP p (zI l) (zI m)) (woP_L hp)) ?_
 rintro _ _ ⟨rfl, rfl⟩; rw [set_out (by rw [List.length_append, wh_len]; omega), wh_setg]
 refine Le u20 ?_
 refine Lo u20 (rfl) ?_
 refine Lo u20 (v_move (.inr rfl) rfl) ?_
 refine L_nil (K_seq (B_ret ?_))
 refine W5s (.inr rfl) (vres_tmp rfl rfl) ?_
 exact ⟨rfl, _, rfl⟩
theorem tryR_spec {x : SW} (H : VHeap) (g : Gz) (p : Pb) (hp : PbL p) (X : VHeap) (n : Nat) (hn : n ≤ 900) (st : List Nat → Bool) (hst : st = fun l => stW p l []) : F (psys x) 67 [.ptr (some (H.length + 3, 0)), iI (n : Nat), stV H p] (whH H g niS niS niS niS ++ X) fun v G => ∃ X g1 rv lv, G = whH H g1 rv lv niS niS ++ X ∧ RV (H.length + 5) X rv (rcN (gr st n).1) ∧ LV (H.length + 5) 1 X lv (rcN (gr st n).2) (gr st n).2.length ∧ Dj lv rv := by
 refine F_body Tryd.func67 rfl u49 rfl ?_
 refine B_seq (B_region ?_)
 refine Lo u49 (v_move (.inl rfl) rfl) ?_
 refine Lo u49 (v_const (VVal.int .i64 0) (.inl rfl) rfl) ?_
 refine L_nil (K_seq (B_block ?_))
 refine B_clear (mk 49 562949953420922) (env' := u49) rfl ?_
 refine B_loopE (fun (i : Nat) => n - i) (fun (i : Nat) => [(8, iI (i : Nat))]) (fun (i : Nat) G => (i ≤ n) ∧ ∃ X g1 rv lv, G = whH H g1 rv lv niS niS ++ X ∧ RV (H.length + 5) X rv (rcN (gr st i).1) ∧ LV (H.length + 5) 1 X lv (rcN (gr st i).2) (gr st i).2.length ∧ Dj lv rv) 0 rfl ?_ ?_
 ·refine ⟨?_, ⟨X, g, niS, niS, List.append_nil _, RV.nil _ _, LV.nil _ _ _, fun n h => by cases h⟩⟩
  exact Nat.zero_le _
 rintro i _ ⟨hi, ⟨X, g, rv, lv, rfl, hR, hL, hD⟩⟩
 refine B_env (env' := u49) rfl ?_
 have hgl := @gr_len st i
 have hRl := hR.lt
 refine B_seq (B_region ?_)
 refine Lo u49 (rfl) ?_
 refine L_nil (K_seq (B_seq ?_))
 refine B_cond _ rfl (fun hc1 => ?_) (fun hc1 => ?_)
 ·try simp only [qB, qN] at hc1
  refine B_skip (K_seq (B_seq (B_block (B_seq (B_region ?_)))))
  refine Lo u49 (v_move (.inl rfl) rfl) ?_
  refine Lo u49 (v_move (.inr rfl) rfl) ?_
  refine L_nil (K_seq (B_seq (B_region ?_)))
  refine Lo u49 (v_move (.inl rfl) rfl) ?_
  refine Lo u49 (v_move (.inl rfl) rfl) ?_
  refine Lo u49 (rfl) ?_
  refine Lo u49 (rfl) ?_
  refine Lo u49 (W5t rfl rfl rfl rfl) ?_
  refine Lo u49 (v_move (.inl rfl) rfl) ?_
  refine Lo u49 (v_buildSlice rfl rfl (by decide) rfl) ?_
  refine L_opX rfl rfl (v_rvAppK rfl rfl rfl rfl rfl rfl rfl rfl (by rw [wh_len]; exact hR) rfl (by rw [List.length_map]; show ((gr st i).1.length + 1) * 8 ≤ _ ∧ _; omega)) ?_
  rintro v2 _ ⟨Y2, rfl, hR1, hF⟩; rw [wh_len] at hR1 hF; have hR2 : RV (H.length + 5) Y2 v2 (rcN ((gr st i).1 ++ [i])) := by rw [rcN_snoc]; exact hR1
  obtain ⟨hL2, hD2⟩ := hF.keep hL hD
  refine Le u49 ?_
  refine Lo u49 (rfl) ?_
  refine Lo u49 (rfl) ?_
  refine Lo u49 (v_storeT rfl rfl rfl rfl hR2.cells rfl (by simp [hR2.one]) (wh_at (n := 3) rfl) (Nat.le_of_ble_eq_true rfl) wh_set0) ?_
  refine L_nil (K_seq (B_seq (B_region ?_)))
  refine Lo u49 (v_move (.inl rfl) rfl) ?_
  refine L_call rfl rfl rfl (by exact Why1_spec H Y2 _ _ _ _ _ p hp ((gr st i).1 ++ [i]) [] (wh_rd hR2) (RD.nil _) (by first | (rw [List.length_append]; show _ + 1 ≤ _; omega) | omega | exact Nat.zero_le _) (by first | (rw [List.length_append]; show _ + 1 ≤ _; omega) | omega | exact Nat.zero_le _)) ?_
  rintro _ _ ⟨rfl, g2, rfl⟩
  refine Le u49 ?_
  refine Lo u49 (rfl) ?_
  refine L_nil (K_seq ?_)
  refine B_cond _ rfl (fun hc2 => ?_) (fun hc2 => ?_)
  ·try simp only [qB, qN] at hc2
   have hs1 : st ((gr st i).1 ++ [i]) = false := (congrFun hst _).trans (by simpa using hc2)
   refine B_seq ?_
   refine B_draw [0, 1, 2, 3, 4, 5, 6, 7, 8, 9, 10, 11, 12, 13, 14] #[0, 0, 2, 6, 14, 0, 32, 96, 224, 480, 992, 2046, 4095, 8191, 16383] (by kernel_rfl) (by kernel_rfl) (by kernel_rfl) ?_
   refine Oo u49 .calm rfl (v_move (.inl rfl) rfl) ?_
   refine Oo u49 .calm rfl (v_move (.inl rfl) rfl) ?_
   refine Oo u49 .calm rfl (rfl) ?_
   refine Oo u49 .calm rfl (rfl) ?_
   refine Oo u49 .look rfl (W5u rfl rfl rfl rfl) ?_
   refine Oo u49 .calm rfl (v_move (.inl rfl) rfl) ?_
   refine Oo u49 .calm rfl (rfl) ?_
   refine Oo u49 .calm rfl (rfl) ?_
   refine Oo u49 .look rfl (W5u rfl rfl rfl rfl) ?_
   refine Oo u49 .look rfl (v_lenN rfl rfl rfl rfl hR2) ?_
   refine Oo u49 .calm rfl (W3l rfl rfl rfl) ?_
   refine O_opX .calm rfl rfl rfl (v_rvCutK rfl rfl rfl rfl rfl rfl rfl (by simp) wh_len.symm hR2 _) rfl rfl ?_
   rintro v4 _ ⟨rfl, hR3, hi4⟩; have hD3 : Dj lv v4 := fun n h => by rw [hi4]; exact hD2 n h
   refine O_env (env' := u49) rfl ?_
   refine Oo u49 .calm rfl (rfl) ?_
   refine Oo u49 .calm rfl (rfl) ?_
   refine Oo u49 .turn rfl (v_storeT rfl rfl rfl rfl hR3.cells rfl (by simp [hR3.one]) (wh_at (n := 3) rfl) (Nat.le_of_ble_eq_true rfl) wh_set0) ?_
   refine O_nil [] (by kernel_rfl) (trivial) ?_
   refine K_seq (B_region ?_)
   refine Lo u49 (v_move (.inl rfl) rfl) ?_
   refine Lo u49 (v_move (.inl rfl) rfl) ?_
   refine Lo u49 (rfl) ?_
   refine Lo u49 (rfl) ?_
   refine Lo u49 (W5u rfl rfl rfl rfl) ?_
   refine Lo u49 (v_move (.inl rfl) rfl) ?_
   refine Lo u49 (v_buildSlice rfl rfl (by decide) rfl) ?_
   refine L_opX rfl rfl (v_appXh rfl rfl rfl rfl rfl rfl rfl wh_len hL2 rfl rfl (by decide) (by show ((gr st i).2.length + 1) * 8 ≤ _ ∧ _; omega) (by decide)) ?_
   rintro _ _ ⟨Y3, rfl, rfl, hY1, hY2, hL3⟩; have hR4 := hR3.keepL (Z := [.cells [iI (i : Nat)] true, .cells (rcN (gr st i).2 ++ [iI (i : Nat)]) true]) hL2 hD3 hY1 hY2; have hD4 := RV.far (m := Y2.length + 1) (n := (gr st i).2.length + 1) (c := (gr st i).2.length + 1) (e2 := 1) (o := 0) (ex := false) hR3 (Nat.le_succ _)
   refine Le u49 ?_
   refine Lo u49 (rfl) ?_
   refine Lo u49 (rfl) ?_
   refine Lo u49 (v_storeT rfl rfl rfl rfl hL3.cells rfl (by simp [hL3.one]) (wh_at (n := 3) rfl) (Nat.le_of_ble_eq_true rfl) wh_set1) ?_
   refine L_nil (K_blk (K_seq (B_region ?_)))
   refine Lo u49 (W14 rfl rfl rfl) ?_
   refine Lo u49 (v_move (.inl rfl) rfl) ?_
   refine L_nil ?_
   refine K_loop (mk 49 562949953420922) (env' := u49) rfl ⟨i + 1, ?_, rfl, ?_⟩
   ·first | omega | (simp only []; omega)
   ·first | exact ⟨by omega, _, _, _, _, rfl, by rw [gr_yes hs1]; exact hR2, by rw [gr_yes hs1]; exact hL2, hD2⟩ | exact ⟨by omega, _, _, _, _, rfl, by rw [gr_no hs1]; exact hR4, by rw [gr_no hs1]; exact LV.pushN hL3, hD4⟩
  ·try simp only [qB, qN] at hc2
   have hs1 : st ((gr st i).1 ++ [i]) = true := (congrFun hst _).trans (by simpa using hc2)
   refine B_skip (K_blk (K_seq (B_region ?_)))
   refine Lo u49 (W14 rfl rfl rfl) ?_
   refine Lo u49 (v_move (.inl rfl) rfl) ?_
   refine L_nil ?_
   refine K_loop (mk 49 562949953420922) (env' := u49) rfl ⟨i + 1, ?_, rfl, ?_⟩
   ·first | omega | (simp only []; omega)
   ·first | exact ⟨by omega, _, _, _, _, rfl, by rw [gr_yes hs1]; exact hR2, by rw [gr_yes hs1]; exact hL2, hD2⟩ | exact ⟨by omega, _, _, _, _, rfl, by rw [gr_no hs1]; exact hR4, by rw [gr_no hs1]; exact LV.pushN hL3, hD4⟩
 ·try simp only [qB, qN] at hc1
  refine B_exit (K_seqX (K_loopX (K_blkX ?_)))
  refine E_keep (.inl rfl) (vres_none rfl) ?_
  obtain rfl : i = n := by omega
  exact ⟨_, _, _, _, rfl, hR, hL, hD⟩
theorem tryT_spec {x : SW} (H : VHeap) (g : Gz) (p : Pb) (hp : PbL p) (a b : VVal) (l : List Nat) (ha : a = fzN l) (hl9 : l.length ≤ 900) (X : VHeap) (n : Nat) (hn : n ≤ 900) (st : List Nat → Bool) (hst : st = fun m => stW p l m) : F (psys x) 67 [.ptr (some (H.length + 4, 0)), iI (n : Nat), stV H p] (whH H g a b niS niS ++ X) fun v G => ∃ X g1 rv lv, G = whH H g1 a b rv lv ++ X ∧ RV (H.length + 5) X rv (rcN (gr st n).1) ∧ LV (H.length + 5) 1 X lv (rcN (gr st n).2) (gr st n).2.length ∧ Dj lv rv := by
 refine F_body Tryd.func67 rfl u49 rfl ?_
 refine B_seq (B_region ?_)
 refine Lo u49 (v_move (.inl rfl) rfl) ?_
 refine Lo u49 (v_const (VVal.int .i64 0) (.inl rfl) rfl) ?_
 refine L_nil (K_seq (B_block ?_))
 refine B_clear (mk 49 562949953420922) (env' := u49) rfl ?_
 refine B_loopE (fun (i : Nat) => n - i) (fun (i : Nat) => [(8, iI (i : Nat))]) (fun (i : Nat) G => (i ≤ n) ∧ ∃ X g1 rv lv, G = whH H g1 a b rv lv ++ X ∧ RV (H.length + 5) X rv (rcN (gr st i).1) ∧ LV (H.length + 5) 1 X lv (rcN (gr st i).2) (gr st i).2.length ∧ Dj lv rv) 0 rfl ?_ ?_
 ·refine ⟨?_, ⟨X, g, niS, niS, List.append_nil _, RV.nil _ _, LV.nil _ _ _, fun n h => by cases h⟩⟩
  exact Nat.zero_le _
 rintro i _ ⟨hi, ⟨X, g, rv, lv, rfl, hR, hL, hD⟩⟩
 refine B_env (env' := u49) rfl ?_
 have hgl := @gr_len st i
 have hRl := hR.lt
 refine B_seq (B_region ?_)
 refine Lo u49 (rfl) ?_
 refine L_nil (K_seq (B_seq ?_))
 refine B_cond _ rfl (fun hc1 => ?_) (fun hc1 => ?_)
 ·try simp only [qB, qN] at hc1
  refine B_skip (K_seq (B_seq (B_block (B_seq (B_region ?_)))))
  refine Lo u49 (v_move (.inl rfl) rfl) ?_
  refine Lo u49 (v_move (.inr rfl) rfl) ?_
  refine L_nil (K_seq (B_seq (B_region ?_)))
  refine Lo u49 (v_move (.inl rfl) rfl) ?_
  refine Lo u49 (v_move (.inl rfl) rfl) ?_
  refine Lo u49 (rfl) ?_
  refine Lo u49 (rfl) ?_
  refine Lo u49 (W5x rfl rfl rfl rfl) ?_
  refine Lo u49 (v_move (.inl rfl) rfl) ?_
  refine Lo u49 (v_buildSlice rfl rfl (by decide) rfl) ?_
  refine L_opX rfl rfl (v_rvAppK rfl rfl rfl rfl rfl rfl rfl rfl (by rw [wh_len]; exact hR) rfl (by rw [List.length_map]; show ((gr st i).1.length + 1) * 8 ≤ _ ∧ _; omega)) ?_
  rintro v2 _ ⟨Y2, rfl, hR1, hF⟩; rw [wh_len] at hR1 hF; have hR2 : RV (H.length + 5) Y2 v2 (rcN ((gr st i).1 ++ [i])) := by rw [rcN_snoc]; exact hR1
  obtain ⟨hL2, hD2⟩ := hF.keep hL hD
  refine Le u49 ?_
  refine Lo u49 (rfl) ?_
  refine Lo u49 (rfl) ?_
  refine Lo u49 (v_storeT rfl rfl rfl rfl hR2.cells rfl (by simp [hR2.one]) (wh_at (n := 4) rfl) (Nat.le_of_ble_eq_true rfl) wh_set2) ?_
  refine L_nil (K_seq (B_seq (B_region ?_)))
  refine Lo u49 (v_move (.inl rfl) rfl) ?_
  refine L_call rfl rfl rfl (by exact Why1_spec H Y2 _ _ _ _ _ p hp l ((gr st i).1 ++ [i]) (by rw [ha, fzI_N]; exact RD.fz _ _) (wh_rd hR2) (by first | (rw [List.length_append]; show _ + 1 ≤ _; omega) | omega | exact Nat.zero_le _) (by first | (rw [List.length_append]; show _ + 1 ≤ _; omega) | omega | exact Nat.zero_le _)) ?_
  rintro _ _ ⟨rfl, g2, rfl⟩
  refine Le u49 ?_
  refine Lo u49 (rfl) ?_
  refine L_nil (K_seq ?_)
  refine B_cond _ rfl (fun hc2 => ?_) (fun hc2 => ?_)
  ·try simp only [qB, qN] at hc2
   have hs1 : st ((gr st i).1 ++ [i]) = false := (congrFun hst _).trans (by simpa using hc2)
   refine B_seq ?_
   refine B_draw [0, 1, 2, 3, 4, 5, 6, 7, 8, 9, 10, 11, 12, 13, 14] #[0, 0, 2, 6, 14, 0, 32, 96, 224, 480, 992, 2046, 4095, 8191, 16383] (by kernel_rfl) (by kernel_rfl) (by kernel_rfl) ?_
   refine Oo u49 .calm rfl (v_move (.inl rfl) rfl) ?_
   refine Oo u49 .calm rfl (v_move (.inl rfl) rfl) ?_
   refine Oo u49 .calm rfl (rfl) ?_
   refine Oo u49 .calm rfl (rfl) ?_
   refine Oo u49 .look rfl (W5y rfl rfl rfl rfl) ?_
   refine Oo u49 .calm rfl (v_move (.inl rfl) rfl) ?_
   refine Oo u49 .calm rfl (rfl) ?_
   refine Oo u49 .calm rfl (rfl) ?_
   refine Oo u49 .look rfl (W5y rfl rfl rfl rfl) ?_
   refine Oo u49 .look rfl (v_lenN rfl rfl rfl rfl hR2) ?_
   refine Oo u49 .calm rfl (W3l rfl rfl rfl) ?_
   refine O_opX .calm rfl rfl rfl (v_rvCutK rfl rfl rfl rfl rfl rfl rfl (by simp) wh_len.symm hR2 _) rfl rfl ?_
   rintro v4 _ ⟨rfl, hR3, hi4⟩; have hD3 : Dj lv v4 := fun n h => by rw [hi4]; exact hD2 n h
   refine O_env (env' := u49) rfl ?_
   refine Oo u49 .calm rfl (rfl) ?_
   refine Oo u49 .calm rfl (rfl) ?_
   refine Oo u49 .turn rfl (v_storeT rfl rfl rfl rfl hR3.cells rfl (by simp [hR3.one]) (wh_at (n := 4) rfl) (Nat.le_of_ble_eq_true rfl) wh_set2) ?_
   refine O_nil [] (by kernel_rfl) (trivial) ?_
   refine K_seq (B_region ?_)
   refine Lo u49 (v_move (.inl rfl) rfl) ?_
   refine Lo u49 (v_move (.inl rfl) rfl) ?_
   refine Lo u49 (rfl) ?_
   refine Lo u49 (rfl) ?_
   refine Lo u49 (W5y rfl rfl rfl rfl) ?_
   refine Lo u49 (v_move (.inl rfl) rfl) ?_
   refine Lo u49 (v_buildSlice rfl rfl (by decide) rfl) ?_
   refine L_opX rfl rfl (v_appXh rfl rfl rfl rfl rfl rfl rfl wh_len hL2 rfl rfl (by decide) (by show ((gr st i).2.length + 1) * 8 ≤ _ ∧ _; omega) (by decide)) ?_
   rintro _ _ ⟨Y3, rfl, rfl, hY1, hY2, hL3⟩; have hR4 := hR3.keepL (Z := [.cells [iI (i : Nat)] true, .cells (rcN (gr st i).2 ++ [iI (i : Nat)]) true]) hL2 hD3 hY1 hY2; have hD4 := RV.far (m := Y2.length + 1) (n := (gr st i).2.length + 1) (c := (gr st i).2.length + 1) (e2 := 1) (o := 0) (ex := false) hR3 (Nat.le_succ _)
   refine Le u49 ?_
   refine Lo u49 (rfl) ?_
   refine Lo u49 (rfl) ?_
   refine Lo u49 (v_storeT rfl rfl rfl rfl hL3.cells rfl (by simp [hL3.one]) (wh_at (n := 4) rfl) (Nat.le_of_ble_eq_true rfl) wh_set3) ?_
   refine L_nil (K_blk (K_seq (B_region ?_)))
   refine Lo u49 (W14 rfl rfl rfl) ?_
   refine Lo u49 (v_move (.inl rfl) rfl) ?_
   refine L_nil ?_
   refine K_loop (mk 49 562949953420922) (env' := u49) rfl ⟨i + 1, ?_, rfl, ?_⟩
   ·first | omega | (simp only []; omega)
   ·first | exact ⟨by omega, _, _, _, _, rfl, by rw [gr_yes hs1]; exact hR2, by rw [gr_yes hs1]; exact hL2, hD2⟩ | exact ⟨by omega, _, _, _, _, rfl, by rw [gr_no hs1]; exact hR4, by rw [gr_no hs1]; exact LV.pushN hL3, hD4⟩
  ·try simp only [qB, qN] at hc2
   have hs1 : st ((gr st i).1 ++ [i]) = true := (congrFun hst _).trans (by simpa using hc2)
   refine B_skip (K_blk (K_seq (B_region ?_)))
   refine Lo u49 (W14 rfl rfl rfl) ?_
   refine Lo u49 (v_move (.inl rfl) rfl) ?_
   refine L_nil ?_
   refine K_loop (mk 49 562949953420922) (env' := u49) rfl ⟨i + 1, ?_, rfl, ?_⟩
   ·first | omega | (simp only []; omega)
   ·first | exact ⟨by omega, _, _, _, _, rfl, by rw [gr_yes hs1]; exact hR2, by rw [gr_yes hs1]; exact hL2, hD2⟩ | exact ⟨by omega, _, _, _, _, rfl, by rw [gr_no hs1]; exact hR4, by rw [gr_no hs1]; exact LV.pushN hL3, hD4⟩
 ·try simp only [qB, qN] at hc1
  refine B_exit (K_seqX (K_loopX (K_blkX ?_)))
  refine E_keep (.inl rfl) (vres_none rfl) ?_
  obtain rfl : i = n := by omega
  exact ⟨_, _, _, _, rfl, hR, hL, hD⟩
end Go.Proofs.YtgbahioegcpjiaaDoor.VT

set_option autoImplicit false
set_option linter.unusedVariables false
set_option linter.unusedSimpArgs false
set_option maxHeartbeats 4000000
set_option maxRecDepth 100000
namespace Go.Proofs.YtgbahioegcpjiaaDoor.VT
open Go Go.V Go.RowKit
abbrev u28 {a0 a1 a2 a3 a4 a5 a6 a7 a8 a9 a10 a11 a12 a13 a14 a15 a16 a17 a18 a19 a20 a21 a22 a23 a24 a25 a26 a27 : VVal} : VEnv := a0 :: a1 :: a2 :: a3 :: a4 :: a5 :: a6 :: a7 :: a8 :: a9 :: a10 :: a11 :: a12 :: a13 :: a14 :: a15 :: a16 :: a17 :: a18 :: a19 :: a20 :: a21 :: a22 :: a23 :: a24 :: a25 :: a26 :: a27 :: []
abbrev u33 {a0 a1 a2 a3 a4 a5 a6 a7 a8 a9 a10 a11 a12 a13 a14 a15 a16 a17 a18 a19 a20 a21 a22 a23 a24 a25 a26 a27 a28 a29 a30 a31 a32 : VVal} : VEnv := a0 :: a1 :: a2 :: a3 :: a4 :: a5 :: a6 :: a7 :: a8 :: a9 :: a10 :: a11 :: a12 :: a13 :: a14 :: a15 :: a16 :: a17 :: a18 :: a19 :: a20 :: a21 :: a22 :: a23 :: a24 :: a25 :: a26 :: a27 :: a28 :: a29 :: a30 :: a31 :: a32 :: []
theorem W61 {S : V.Sys} {H : VHeap} {fn : Func} {ex : Exit} {env : VEnv} {B L : VHeap} {v : VVal} {R : VVal → VHeap → Prop} (hx : ex = .normal ∨ ex = .ret) (hv : vresults S.C.T env (B ++ L) fn.results = some v) (h : R v B) (hB : BaseOk H B := by first | exact BaseOk.refl _ | exact BaseOk.set (BaseOk.refl _) _ rfl) (hu : v.under H.length = true := by first | rfl | exact (show ((fzN (whA p).2).under H.length && ((fzN (whC p).2).under H.length && (true && true))) = true by rw [show (fzN (whA p).2).under H.length = true from mapN_under _ _, show (fzN (whC p).2).under H.length = true from mapN_under _ _]; rfl)) : fnK S fn H R ex env (B ++ L) := E_app hx hv hB hu h
theorem W62 {P : Prop} (h : P := by first | exact ⟨by rw [whV_y hwb]; rfl, rfl⟩ | exact ⟨by rw [whV_n (whB_no1 (by assumption))]; rfl, rfl⟩ | exact ⟨by rw [whV_n (whB_no2 (by simpa using hc2))]; rfl, rfl⟩) : P := h
theorem W64 {T : TypeId → Option VTy} {H : VHeap} {op : Op} {ρ : Operand → VVal} {t : TypeId} {a : Operand} {y : VTy} {p v : VVal} (ho : op = .load t a) (ha : ρ a = p) (hy : T t = some y) (hd : isAggDesc y.desc = false) (h : LdOk H p v := by first | exact .inl ⟨_, _, rfl, by first | rfl | assumption | exact fgetN (α := BitVec 64) 0 (by omega) | exact fgetN (α := Int) 0 (by omega) | exact rul_at (by omega) | exact rul_f2 (by omega) | exact rul_f0 (by omega) | exact rul_f1 (by omega)⟩ | exact .inr ⟨_, _, _, _, rfl, by exact getB rfl rfl, by first | rfl | assumption | exact fgetN (α := BitVec 64) 0 (by omega) | exact fgetN (α := Int) 0 (by omega) | exact rul_at (by omega) | exact rul_f2 (by omega) | exact rul_f0 (by omega) | exact rul_f1 (by omega)⟩) : vop T ρ H op = some (v, H) := v_ld ho ha hy hd h
theorem whB_yes {p : Pb} (h1 : pck p = 0) (h2 : (leA p).isSome = false) : whB p = true := by unfold whB; rw [decide_eq_true h1, h2]; rfl
theorem whB_no1 {p : Pb} (h1 : ¬ pck p = 0) : whB p = false := by unfold whB; rw [decide_eq_false h1]; rfl
theorem whB_no2 {p : Pb} (h2 : (leA p).isSome = true) : whB p = false := by unfold whB; rw [h2, Bool.not_true, Bool.and_false]
theorem whV_y {p : Pb} (h : whB p = true) : whV p = .tuple [fzN (whA p).2, fzN (whC p).2, .bool true] := if_pos h
theorem whV_n {p : Pb} (h : whB p = false) : whV p = .tuple [fzN [], fzN [], .bool false] := if_neg (by rw [h]; decide)
theorem whA_len {p : Pb} : (whA p).1.length + (whA p).2.length = p.rules.length := gr_len _
theorem whC_len {p : Pb} : (whC p).1.length + (whC p).2.length = p.who.length := gr_len _
theorem Why_spec {x : SW} (H : VHeap) (p : Pb) (hp : PbL p) : F (psys x) 23 [.agg (pbB p)] H fun v G => v = whV p ∧ G = H := by
 refine F_body Tryd.func23 rfl u33 rfl ?_
 refine B_seq (B_region ?_)
 refine Lo u33 (v_boxT rfl rfl rfl) ?_
 refine Lo u33 (v_const (VVal.slice none 0 0 true 0) (.inr rfl) rfl) ?_
 refine Lo u33 (v_const (VVal.slice none 0 0 true 0) (.inr rfl) rfl) ?_
 refine Lo u33 (v_const (VVal.bool false) (.inr rfl) rfl) ?_
 refine L_nil (K_seq (B_seq ?_))
 refine B_gh (Gh.freezePtrL (cs := pbB p) 1 0 rfl rfl rfl) ?_
 refine B_region ?_
 refine L_call rfl rfl rfl (by exact sNew_spec _) ?_
 rintro _ _ ⟨rfl, rfl⟩; rw [List.append_assoc, List.length_append]
 refine Le u33 ?_
 refine Lo u33 (v_alloc rfl rfl) ?_
 refine Lo u33 (W13 rfl rfl rfl rfl rfl rfl rfl) ?_
 refine L_nil (K_seq (B_seq (B_seq (B_region ?_))))
 refine Lo u33 (W24 rfl rfl rfl rfl rfl) ?_
 refine L_call rfl rfl rfl (by exact sCheck_spec _ p hp) ?_
 rintro _ _ ⟨rfl, rfl⟩
 refine Le u33 ?_
 refine Lo u33 (rfl) ?_
 refine Lo u33 (v_move (.inl rfl) rfl) ?_
 refine L_split 13 (env1 := u33) (env2 := u33) rfl rfl rfl (fun hg1 => ?_) (fun hg1 => ?_)
 ·try simp only [qB, qN] at hg1
  refine Lf u33 ?_
  refine Lf u33 ?_
  refine L_heap (H' := H ++ [.dead, gaB 0, .cells [.ptr (some (H.length + 1, 0))] true]) (by simp; rfl) ?_
  refine Lf u33 ?_
  refine Lo u33 (v_pickTC (VVal.bool true) rfl rfl rfl) ?_
  refine L_nil (K_seq ?_)
  refine B_true rfl rfl ?_
  refine B_seq (B_region ?_)
  refine Lo u33 (v_const (VVal.slice none 0 0 true 0) (.inr rfl) rfl) ?_
  refine Lo u33 (v_const (VVal.slice none 0 0 true 0) (.inr rfl) rfl) ?_
  refine Lo u33 (v_const (VVal.bool false) (.inr rfl) rfl) ?_
  refine L_nil (K_seq ?_)
  refine B_gh (Gh.freezeNil 2 (es' := 1) rfl rfl) ?_
  refine B_gh (Gh.freezeNil 3 (es' := 1) rfl rfl) ?_
  refine B_ret (K_seqR ?_)
  refine W61 (.inr rfl) (vres_tmp3 rfl rfl rfl rfl) ?_
  exact W62
 ·try simp only [qB, qN] at hg1
  refine Lo u33 (W26 rfl rfl rfl rfl) ?_
  refine Lo u33 (W24 rfl rfl rfl rfl rfl) ?_
  refine L_heap (H' := H ++ [.dead, gaB 0, .cells [.ptr (some (H.length + 1, 0))] true]) (by simp; rfl) ?_
  refine L_call rfl rfl rfl (by exact Can_spec (H ++ [.dead, gaB 0, .cells [.ptr (some (H.length + 1, 0))] true]) (H.length + 1) 0 (get_app rfl rfl) p hp) ?_
  rintro _ _ ⟨rfl, rfl⟩; rw [set_app rfl]
  refine Le u33 ?_
  refine Lo u33 (v_pickF rfl rfl rfl) ?_
  refine L_nil (K_seq ?_)
  refine B_cond _ rfl (fun hc2 => ?_) (fun hc2 => ?_)
  ·try simp only [qB, qN] at hc2
   refine B_seq (B_region ?_)
   refine Lo u33 (v_const (VVal.slice none 0 0 true 0) (.inr rfl) rfl) ?_
   refine Lo u33 (v_const (VVal.slice none 0 0 true 0) (.inr rfl) rfl) ?_
   refine Lo u33 (v_const (VVal.bool false) (.inr rfl) rfl) ?_
   refine L_nil (K_seq ?_)
   refine B_gh (Gh.freezeNil 2 (es' := 1) rfl rfl) ?_
   refine B_gh (Gh.freezeNil 3 (es' := 1) rfl rfl) ?_
   refine B_ret (K_seqR ?_)
   refine W61 (.inr rfl) (vres_tmp3 rfl rfl rfl rfl) ?_
   exact W62
  ·try simp only [qB, qN] at hc2
   refine B_skip (K_seq (B_seq ?_))
   have g : Go.V.Good p := pck_good.1 (by assumption)
   have hwb : whB p = true := whB_yes (by assumption) (by simpa using hc2)
   have g1 := g.n12; have g3 := g.r32
   have hA := @whA_len p; have hC := @whC_len p
   refine B_region ?_
   refine Lo u33 (v_alloc rfl rfl) ?_
   refine Lo u33 (v_alloc rfl rfl) ?_
   refine L_nil (K_seq (B_seq (B_region ?_)))
   refine Lo u33 (v_func [_, _, _, _] rfl rfl) ?_
   refine Lo u33 (v_move (.inr rfl) rfl) ?_
   refine L_nil (K_seq (B_seq (B_region ?_)))
   refine Lo u33 (rfl) ?_
   refine Lo u33 (W26 rfl rfl rfl rfl) ?_
   refine Lo u33 (rfl) ?_
   refine Lo u33 (v_move (.inl rfl) rfl) ?_
   refine L_heap (H' := whH H (0 + leG p) niS niS niS niS ++ []) (by rw [List.append_nil]; rfl) ?_
   refine L_call rfl rfl rfl (by exact tryR_spec H _ p hp [] p.rules.length (by omega) _ rfl) ?_
   rintro v _ ⟨X, g1, rv, lv, rfl, hR, hL, hD⟩
   refine Le u33 ?_
   refine L_nil (K_seq (B_seq ?_))
   refine B_heap (H' := (H ++ [VBlk.dead, gaB g1, .cells [.ptr (some (H.length + 1, 0))] true, .cells [rv, lv] true, .cells [niS, niS] true]) ++ X) rfl ?_
   refine B_ghCellR 3 0 hR rfl rfl (by simp) fun X1 hX1 hF1 => ?_
   refine B_ghCell 3 1 (LV.frame hL fun i hi => hF1 i (hD _ hi)) rfl rfl (by simp) fun X2 _ _ => ?_
   refine B_heap (H' := whH H g1 (fzN (whA p).1) (fzN (whA p).2) niS niS ++ X2) rfl ?_
   refine B_region ?_
   refine Lo u33 (rfl) ?_
   refine Lo u33 (W26 rfl rfl rfl rfl) ?_
   refine Lo u33 (rfl) ?_
   refine Lo u33 (v_move (.inl rfl) rfl) ?_
   refine L_call rfl rfl rfl (by exact tryT_spec H _ p hp (fzN (whA p).1) (fzN (whA p).2) (whA p).1 rfl (by omega) X2 p.who.length (by omega) _ rfl) ?_
   rintro v _ ⟨X, g2, rv, lv, rfl, hR, hL, hD⟩
   refine Le u33 ?_
   refine L_nil (K_seq (B_seq ?_))
   refine B_heap (H' := (H ++ [VBlk.dead, gaB g2, .cells [.ptr (some (H.length + 1, 0))] true, .cells [(fzN (whA p).1), (fzN (whA p).2)] true, .cells [rv, lv] true]) ++ X) rfl ?_
   refine B_ghCell 4 1 hL rfl rfl (by simp) fun X3 _ _ => ?_
   refine B_draw [0, 1, 2, 3, 4, 5, 6] #[0, 1, 0, 4, 3, 31, 63] (by kernel_rfl) (by kernel_rfl) (by kernel_rfl) ?_
   refine Oo u33 .calm rfl (rfl) ?_
   refine Oo u33 .look rfl (W64 rfl rfl rfl rfl) ?_
   refine Oo u33 .calm rfl (rfl) ?_
   refine Oo u33 .look rfl (W64 rfl rfl rfl rfl) ?_
   refine Oo u33 .calm rfl (v_move (.inr rfl) rfl) ?_
   refine Oo u33 .calm rfl (v_move (.inr rfl) rfl) ?_
   refine Oo u33 .calm rfl (v_const (VVal.bool true) (.inr rfl) rfl) ?_
   refine O_nil [] (by kernel_rfl) (trivial) ?_
   refine K_seq ?_
   refine B_heap (List.append_assoc _ _ _) ?_
   refine B_ret ?_
   refine W61 (.inr rfl) (vres_tmp3 rfl rfl rfl rfl) ?_
   exact W62
def pc : Pb := (2, [1#64, 1#64], [-1, -1], [(1, 0, [0, 1], ())], ())
theorem pc_L : PbL pc := ⟨by decide, by decide, by decide, by decide, fun r hr => by
  have hr : r ∈ [((1 : Int), (0 : Int), [(0 : Int), 1], ())] := hr
  rw [List.mem_singleton] at hr; subst hr; decide⟩
theorem pc_b : whB pc = true := by decide +kernel
theorem pc_r : (whA pc).2 = [0] := by decide +kernel
theorem pc_s : (whC pc).2 = [0, 1] := by decide +kernel
theorem pc_v : whV pc = .tuple [fzI [0], fzI [0, 1], .bool true] := by rw [whV_y pc_b, pc_r, pc_s]; rfl
theorem cwakes_spec {x : SW} (H : VHeap) : F (psys x) 26 [] H fun v G => v = .bool true ∧ G = H := by
 refine F_body Tryd.func26 rfl u28 rfl ?_
 refine B_seq (B_region ?_)
 refine Lo u28 (v_const (VVal.bool false) (.inr rfl) rfl) ?_
 refine L_nil (K_seq (B_seq (B_region ?_)))
 refine Lo u28 (v_buildSlice rfl rfl (by decide) rfl) ?_
 refine Lo u28 (v_buildSlice rfl rfl (by decide) rfl) ?_
 refine Lo u28 (v_buildSlice rfl rfl (by decide) rfl) ?_
 refine Lo u28 (rfl) ?_
 refine Lo u28 (v_buildSlice rfl rfl (by decide) rfl) ?_
 refine Lo u28 (rfl) ?_
 refine Lo u28 (v_alloc rfl rfl) ?_
 refine Lo u28 (W13 rfl rfl rfl rfl rfl rfl rfl) ?_
 refine L_nil (K_seq (B_seq (B_region ?_)))
 refine L_gh (Gh.cellL (l := [iI 0, iI 1]) 3 2 2 rfl rfl (by decide) rfl rfl (Nat.le_refl _)) ?_
 refine L_gh (Gh.cellL (l := [iW 1#64, iW 1#64]) 4 1 0 rfl rfl (by decide) rfl rfl (Nat.le_refl _)) ?_
 refine L_gh (Gh.cellL (l := [iI (-1), iI (-1)]) 4 2 1 rfl rfl (by decide) rfl rfl (Nat.le_refl _)) ?_
 refine L_gh (Gh.cellL (l := rlB (1, 0, [0, 1], ())) 4 3 3 rfl rfl (by decide) rfl rfl (Nat.le_refl _)) ?_
 refine Lo u28 (W11 rfl rfl rfl rfl rfl) ?_
 refine L_call rfl rfl rfl (by exact Why_spec _ pc pc_L) ?_
 rintro v _ ⟨hv, rfl⟩; rw [pc_v] at hv; subst hv
 refine Le u28 ?_
 refine Lo u28 (v_move (.inl rfl) rfl) ?_
 refine Lo u28 (rfl) ?_
 refine Lo u28 (rfl) ?_
 refine Lo u28 (rfl) ?_
 refine Lo u28 (v_move (.inr rfl) rfl) ?_
 refine Lo u28 (v_move (.inr rfl) rfl) ?_
 refine Lo u28 (v_move (.inr rfl) rfl) ?_
 refine L_nil (K_seq (B_seq (B_region ?_)))
 refine Lo u28 (v_move (.inl rfl) rfl) ?_
 refine Lo u28 (v_move (.inl rfl) rfl) ?_
 refine Lo u28 (v_move (.inl rfl) rfl) ?_
 refine Lo u28 (v_buildSlice rfl rfl (by decide) rfl) ?_
 refine L_gh (Gh.freezeL (l := [iI 0]) 20 5 rfl rfl rfl (Nat.le_refl _) rfl) ?_
 refine L_call rfl rfl rfl (by exact kInts_spec _ [0] [0] (by decide)) ?_
 rintro v _ ⟨hv, rfl⟩; obtain rfl : v = .bool true := hv.trans (congrArg VVal.bool (by decide))
 refine Le u28 ?_
 refine Lo u28 (v_pickT rfl rfl rfl) ?_
 refine Lo u28 (v_move (.inl rfl) rfl) ?_
 refine Lo u28 (v_move (.inl rfl) rfl) ?_
 refine Lo u28 (v_buildSlice rfl rfl (by decide) rfl) ?_
 refine L_gh (Gh.freezeL (l := [iI 0, iI 1]) 25 6 rfl rfl rfl (Nat.le_refl _) rfl) ?_
 refine L_call rfl rfl rfl (by exact kInts_spec _ [0, 1] [0, 1] (by decide)) ?_
 rintro v _ ⟨hv, rfl⟩; obtain rfl : v = .bool true := hv.trans (congrArg VVal.bool (by decide))
 refine Le u28 ?_
 refine Lo u28 (v_pickT rfl rfl rfl) ?_
 refine Lo u28 (v_move (.inr rfl) rfl) ?_
 refine L_nil (K_seq (B_ret ?_))
 refine W10 (.inr rfl) (vres_tmp rfl rfl) ?_
 exact ⟨rfl, rfl⟩
end Go.Proofs.YtgbahioegcpjiaaDoor.VT

set_option autoImplicit false
set_option linter.unusedVariables false
set_option linter.unusedSimpArgs false
set_option maxHeartbeats 4000000
set_option maxRecDepth 100000
namespace Go.Proofs.YtgbahioegcpjiaaDoor.VT
open Go Go.V Go.RowKit
theorem W68 {T : TypeId → Option VTy} {H : VHeap} {op : Op} {ρ : Operand → VVal} {t : TypeId} {a : Operand} {y : VTy} {p v : VVal} (ho : op = .load t a) (ha : ρ a = p) (hy : T t = some y) (hd : isAggDesc y.desc = false) (h : LdOk H p v := by first | exact .inl ⟨_, _, rfl, by first | rfl | exact fgetN (α := Nat) 0 (by omega)⟩ | exact .inr ⟨_, _, _, _, rfl, by first | exact get_app rfl rfl | exact get_out (by assumption) | exact getE0 rfl rfl | exact get_out (get_app rfl rfl) | exact get_app rfl (by assumption) | assumption | (simp only [List.append_assoc, List.singleton_append, List.cons_append, List.nil_append]; refine getE (i := 0) rfl ?_ rfl; simp; done) | (simp only [List.append_assoc, List.singleton_append, List.cons_append, List.nil_append]; refine getE (i := 1) rfl ?_ rfl; simp; done) | (simp only [List.append_assoc, List.singleton_append, List.cons_append, List.nil_append]; refine getE (i := 2) rfl ?_ rfl; simp; done) | (simp only [List.append_assoc, List.singleton_append, List.cons_append, List.nil_append]; refine getE (i := 3) rfl ?_ rfl; simp; done) | (simp [*]; done), by first | rfl | exact fgetN (α := Nat) 0 (by omega)⟩) : vop T ρ H op = some (v, H) := v_ld ho ha hy hd h
def rsN (n : Nat) (l : List Nat) : List Nat := (List.range n).filter fun i => decide (i ∉ l)
theorem rsN_step {n : Nat} {l : List Nat} : rsN (n + 1) l = rsN n l ++ if n ∈ l then [] else [n] := by
  unfold rsN
  rw [List.range_succ, List.filter_append]
  congr 1
  by_cases h : n ∈ l <;> simp [h]
theorem rsN_len {n : Nat} {l : List Nat} : (rsN n l).length ≤ n := Nat.le_trans (List.length_filter_le _ _) (by simp)
theorem memT {l : List Nat} {k n : Nat} (h : k < l.length) : (!decide (n ∈ l.take (k + 1))) = (!decide (n ∈ l.take k) && (((l.getD k 0 : Nat) : Int) != (n : Int))) := by
  rw [take_at (d := 0) h, Bool.eq_iff_iff]
  simp only [Bool.not_eq_true', Bool.and_eq_true, decide_eq_false_iff_not, bne_iff_ne, ne_eq, List.mem_append, List.mem_singleton]
  constructor
  · intro h1; exact ⟨fun h2 => h1 (.inl h2), fun h2 => h1 (.inr (by omega))⟩
  · rintro ⟨h1, h2⟩ (h3 | h3)
    · exact h1 h3
    · exact h2 (by omega)
theorem rest_L {x : SW} (H : VHeap) (n : Nat) (l : List Nat) (hn : n ≤ 1000000) (hm : l.length ≤ 1000000) : F (psys x) 34 [iI (n : Nat), fzN l] H fun v G => ∃ X, G = H ++ X ∧ LV H.length 1 X v (rcN (rsN n l)) (rsN n l).length := by
 refine F_body Tryd.func34 rfl u35 rfl ?_
 refine B_seq (B_region ?_)
 refine Lo u35 (v_const (VVal.slice none 0 0 true 0) (.inr rfl) rfl) ?_
 refine L_nil (K_seq (B_seq (B_region ?_)))
 refine Lo u35 (v_const (VVal.slice none 0 0 true 0) (.inr rfl) rfl) ?_
 refine L_nil (K_seq (B_seq (B_seq (B_region ?_))))
 refine Lo u35 (v_const (VVal.int .i64 0) (.inr rfl) rfl) ?_
 refine L_nil (K_seq (B_block ?_))
 refine B_clear (mk 35 34359738268) (env' := u35) rfl ?_
 refine B_loopE (fun (⟨i, lv⟩ : Nat × VVal) => n - i) (fun (⟨i, lv⟩ : Nat × VVal) => [(5, lv), (6, iI (i : Nat))]) (fun (⟨i, lv⟩ : Nat × VVal) G => (i ≤ n) ∧ ∃ X, G = H ++ X ∧ LV H.length 1 X lv (rcN (rsN i l)) (rsN i l).length) ⟨0, _⟩ rfl ?_ ?_
 ·refine ⟨?_, ⟨[], rfl, LV.nil _ _ _⟩⟩
  exact Nat.zero_le _
 rintro ⟨i, lv⟩ _ ⟨hi, ⟨X, rfl, hl⟩⟩
 refine B_env (env' := u35) rfl ?_
 have hrl := @rsN_len i l
 refine B_seq (B_seq (B_region ?_))
 refine Lo u35 (v_move (.inl rfl) rfl) ?_
 refine Lo u35 (v_move (.inl rfl) rfl) ?_
 refine Lo u35 (rfl) ?_
 refine L_nil (K_seq ?_)
 refine B_cond _ rfl (fun hc1 => ?_) (fun hc1 => ?_)
 ·try simp only [qB, qN] at hc1
  refine B_skip (K_seq (B_seq (B_block (B_seq (B_region ?_)))))
  refine Lo u35 (v_const (VVal.bool true) (.inr rfl) rfl) ?_
  refine L_nil (K_seq (B_seq (B_seq (B_region ?_))))
  refine Lo u35 (v_const (VVal.int .i64 0) (.inr rfl) rfl) ?_
  refine L_nil (K_seq (B_block ?_))
  refine B_clear (mk 35 34359737884) (env' := u35) rfl ?_
  refine B_loopE (fun (⟨k, b⟩ : Nat × Bool) => l.length - k) (fun (⟨k, b⟩ : Nat × Bool) => [(7, .bool b), (8, iI (k : Nat))]) (fun (⟨k, b⟩ : Nat × Bool) G => (k ≤ l.length ∧ b = !decide (i ∈ l.take k)) ∧ G = H ++ X) ⟨0, true⟩ rfl ?_ ?_
  ·refine ⟨?_, rfl⟩
   exact ⟨Nat.zero_le _, rfl⟩
  rintro ⟨k, b⟩ _ ⟨⟨hk, hb⟩, rfl⟩
  refine B_env (env' := u35) rfl ?_
  refine B_seq (B_seq (B_region ?_))
  refine Lo u35 (v_move (.inl rfl) rfl) ?_
  refine Lo u35 (v_move (.inl rfl) rfl) ?_
  refine Lo u35 (rfl) ?_
  refine Lo u35 (rfl) ?_
  refine L_nil (K_seq ?_)
  refine B_cond _ rfl (fun hc2 => ?_) (fun hc2 => ?_)
  ·try simp only [qB, qN] at hc2
   refine B_skip (K_seq (B_seq (B_block (B_region ?_))))
   refine Lo u35 (v_move (.inl rfl) rfl) ?_
   refine Lo u35 (v_move (.inl rfl) rfl) ?_
   refine L_split 21 (env1 := u35) (env2 := u35) rfl rfl rfl (fun hg3 => ?_) (fun hg3 => ?_)
   ·try simp only [qB, qN] at hg3
    refine Lo u35 (v_move (.inl rfl) rfl) ?_
    refine Lo u35 (v_move (.inl rfl) rfl) ?_
    refine Lo u35 (W18 rfl rfl rfl rfl rfl rfl rfl) ?_
    refine Lo u35 (W68 rfl rfl rfl rfl) ?_
    refine Lo u35 (v_move (.inl rfl) rfl) ?_
    refine Lo u35 (rfl) ?_
    refine Lo u35 (v_pickT rfl rfl rfl) ?_
    refine Lo u35 (v_move (.inr rfl) rfl) ?_
    refine L_nil (K_blk (K_seq (B_region ?_)))
    refine Lo u35 (v_move (.inl rfl) rfl) ?_
    refine Lo u35 (W14 rfl rfl rfl) ?_
    refine Lo u35 (v_move (.inr rfl) rfl) ?_
    refine L_nil ?_
    refine K_loop (mk 35 34359737884) (env' := u35) rfl ⟨⟨k + 1, _⟩, ?_, rfl, ?_⟩
    ·first | omega | (simp only []; omega)
    ·first | exact ⟨⟨by omega, by rw [memT (by omega), ← hb, (show b = true by assumption), Bool.true_and]⟩, rfl⟩ | exact ⟨⟨by omega, by rw [memT (by omega), ← hb, (show b = false by simp_all), Bool.false_and]⟩, rfl⟩
   ·try simp only [qB, qN] at hg3
    refine Lf u35 ?_
    refine Lf u35 ?_
    refine Lf u35 ?_
    refine Lf u35 ?_
    refine Lf u35 ?_
    refine Lf u35 ?_
    refine Lo u35 (v_pickFC (VVal.bool false) rfl rfl rfl) ?_
    refine Lo u35 (v_move (.inr rfl) rfl) ?_
    refine L_nil (K_blk (K_seq (B_region ?_)))
    refine Lo u35 (v_move (.inl rfl) rfl) ?_
    refine Lo u35 (W14 rfl rfl rfl) ?_
    refine Lo u35 (v_move (.inr rfl) rfl) ?_
    refine L_nil ?_
    refine K_loop (mk 35 34359737884) (env' := u35) rfl ⟨⟨k + 1, _⟩, ?_, rfl, ?_⟩
    ·first | omega | (simp only []; omega)
    ·first | exact ⟨⟨by omega, by rw [memT (by omega), ← hb, (show b = true by assumption), Bool.true_and]⟩, rfl⟩ | exact ⟨⟨by omega, by rw [memT (by omega), ← hb, (show b = false by simp_all), Bool.false_and]⟩, rfl⟩
  ·try simp only [qB, qN] at hc2
   refine B_exit (K_seqX (K_loopX (K_blkX (K_seq (B_seq (B_region ?_))))))
   refine Lo u35 (v_move (.inl rfl) rfl) ?_
   refine L_nil (K_seq ?_)
   refine B_cond _ rfl (fun hc4 => ?_) (fun hc4 => ?_)
   ·try simp only [qB, qN] at hc4
    refine B_region ?_
    refine Lo u35 (v_move (.inl rfl) rfl) ?_
    refine Lo u35 (v_move (.inl rfl) rfl) ?_
    refine Lo u35 (v_buildSlice rfl rfl (by decide) rfl) ?_
    refine L_opX rfl rfl (v_appXh rfl rfl rfl rfl rfl rfl rfl rfl hl rfl rfl (by decide) (by show ((rsN i l).length + 1) * 8 ≤ _ ∧ _; omega) (by decide)) ?_
    rintro _ _ ⟨Y3, rfl, rfl, hY1, hY2, hY3⟩
    refine Le u35 ?_
    refine Lo u35 (v_move (.inr rfl) rfl) ?_
    refine L_nil (K_blk (K_seq (B_region ?_)))
    refine Lo u35 (v_move (.inl rfl) rfl) ?_
    refine Lo u35 (W14 rfl rfl rfl) ?_
    refine Lo u35 (v_move (.inr rfl) rfl) ?_
    refine L_nil ?_
    obtain rfl : k = l.length := by omega
    rw [List.take_length] at hb
    refine K_loop (mk 35 34359738268) (env' := u35) rfl ⟨⟨i + 1, _⟩, ?_, rfl, ?_⟩
    ·first | omega | (simp only []; omega)
    ·first | exact ⟨by omega, _, rfl, by rw [rsN_step, if_neg (by rw [(by assumption : b = true)] at hb; simpa using hb.symm)]; exact LV.pushN hY3⟩ | exact ⟨by omega, _, rfl, by rw [rsN_step, if_pos (by rw [(by simp_all : b = false)] at hb; simpa using hb.symm), List.append_nil]; exact hl⟩
   ·try simp only [qB, qN] at hc4
    refine B_skip (K_blk (K_seq (B_region ?_)))
    refine Lo u35 (v_move (.inl rfl) rfl) ?_
    refine Lo u35 (W14 rfl rfl rfl) ?_
    refine Lo u35 (v_move (.inr rfl) rfl) ?_
    refine L_nil ?_
    obtain rfl : k = l.length := by omega
    rw [List.take_length] at hb
    refine K_loop (mk 35 34359738268) (env' := u35) rfl ⟨⟨i + 1, _⟩, ?_, rfl, ?_⟩
    ·first | omega | (simp only []; omega)
    ·first | exact ⟨by omega, _, rfl, by rw [rsN_step, if_neg (by rw [(by assumption : b = true)] at hb; simpa using hb.symm)]; exact LV.pushN hY3⟩ | exact ⟨by omega, _, rfl, by rw [rsN_step, if_pos (by rw [(by simp_all : b = false)] at hb; simpa using hb.symm), List.append_nil]; exact hl⟩
 ·try simp only [qB, qN] at hc1
  refine B_exit (K_seqX (K_loopX (K_blkX (K_seq (B_seq (B_region ?_))))))
  refine Lo u35 (v_move (.inl rfl) rfl) ?_
  refine Lo u35 (v_move (.inr rfl) rfl) ?_
  refine L_nil (K_seq (B_ret ?_))
  refine E_keep (.inr rfl) (vres_tmp rfl rfl) ?_
  obtain rfl : i = n := by omega
  exact ⟨_, rfl, hl⟩
theorem rest_F {x : SW} (H : VHeap) (n : Nat) (l : List Nat) (hn : n ≤ 1000000) (hm : l.length ≤ 1000000) : F (psys x) 34 [iI (n : Nat), fzN l] H fun v G => v = fzN (rsN n l) ∧ G = H :=
  F.gh (rest_L H n l hn hm) fun v G h => by
    obtain ⟨X, rfl, hl⟩ := h
    exact ⟨_, _, Gh.ansLV (BaseOk.refl _) hl (mapN_under _ _), rfl, rfl⟩
theorem RD.fzN (H : VHeap) (l : List Nat) : RD H (fzN l) (zI l) := by rw [fzN_is]; exact RD.fz _ _
theorem setBB {H L X Y : VHeap} {n j : Nat} {k : VBlk} (hn : H.length = n) (hj : j < L.length) : (((H ++ L) ++ X) ++ Y).set (n + j) k = ((H ++ L.set j k) ++ X) ++ Y := by
  rw [set_out (by rw [List.length_append, List.length_append]; omega), setB hn hj]
theorem spl4 {xs : List VVal} {q : Pb} (h : xs.length = 4) : splice xs 0 (pbB q) = pbB q := by
  unfold splice
  rw [List.take_zero, List.nil_append, List.drop_of_length_le (by show xs.length ≤ 4; omega), List.append_nil]
theorem not_f {b : Bool} (h : (!b) = false) : b = true := by cases b <;> simp_all
theorem inB_zI {l : List Nat} {i : Nat} : inB (zI l) i = decide (i ∈ l) := by
  rw [Bool.eq_iff_iff, inB_mem, decide_eq_true_eq]
  unfold zI
  rw [List.mem_map]
  constructor
  · rintro ⟨x, h1, h2⟩; obtain rfl : x = i := by omega
    exact h1
  · intro h; exact ⟨i, h, rfl⟩
theorem ltB_zI {l : List Nat} {n : Nat} (h : ∀ x, x ∈ l → x < n) : ltB (zI l) n = true := ltB_mem.2 fun x hx => by
  unfold zI at hx
  obtain ⟨y, h1, rfl⟩ := List.mem_map.1 hx
  have := h y h1; omega
theorem wo_E0 {q : Pb} {a c : List Nat} (g : Go.V.Good q) (h1 : ∀ x, x ∈ a → x < q.rules.length) (h2 : ∀ x, x ∈ c → x < q.who.length) : woE q (zI a) (zI c) = 0 := woE_ok.2 ⟨g, ltB_zI h1, ltB_zI h2⟩
theorem whB_ok {q : Pb} (h : whB q = true) : Go.V.Good q ∧ (leA q).isSome = false := by
  unfold whB at h
  rw [Bool.and_eq_true, decide_eq_true_eq] at h
  exact ⟨pck_good.1 h.1, by simpa using h.2⟩
theorem whA_lt {q : Pb} (x : Nat) : (x ∈ (whA q).1 → x < q.rules.length) ∧ (x ∈ (whA q).2 → x < q.rules.length) := gr_lt x
theorem whC_lt {q : Pb} (x : Nat) : (x ∈ (whC q).1 → x < q.who.length) ∧ (x ∈ (whC q).2 → x < q.who.length) := gr_lt x
theorem need_0 {q : Pb} (h : whB q = true) : stW q [] [] = true := by
  obtain ⟨g, h2⟩ := whB_ok h
  unfold stW
  rw [show woP q (zI []) (zI []) = q by rw [woP_ok (wo_E0 g (fun x hx => by cases hx) (fun x hx => by cases hx))]; exact wo_nil g, h2]; rfl
theorem need_st {q : Pb} (h : whB q = true) : (leA (woP q (zI (whA q).1) (zI (whC q).1))).isSome = false := by
  have h1 : stW q (whA q).1 [] = true := gr_stuck (st := fun l => stW q l []) (need_0 h) _
  have h2 : stW q (whA q).1 (whC q).1 = true := gr_stuck (st := fun l => stW q (whA q).1 l) h1 _
  unfold stW at h2; simpa using h2
theorem wo_canN {q : Pb} {a c a' c' : List Nat} (g : Go.V.Good q) (h1 : ∀ x, x ∈ a → x ∈ a') (h2 : ∀ x, x ∈ c → x ∈ c') (h3 : ∀ x, x ∈ a' → x < q.rules.length) (h4 : ∀ x, x ∈ c' → x < q.who.length) (h : (leA (woP q (zI a) (zI c))).isSome = true) : (leA (woP q (zI a') (zI c'))).isSome = true := by
  rw [woP_ok (wo_E0 g (fun x hx => h3 x (h1 x hx)) (fun x hx => h4 x (h2 x hx)))] at h
  rw [woP_ok (wo_E0 g h3 h4)]
  refine wo_can g (fun i hi => ?_) (fun i hi => ?_) h
  · rw [inB_zI, decide_eq_true_eq] at hi ⊢; exact h1 i hi
  · rw [inB_zI, decide_eq_true_eq] at hi ⊢; exact h2 i hi
theorem need_A {q : Pb} (h : whB q = true) {x : Nat} (hx : x ∈ (whA q).2) : woE q (zI ((whA q).1 ++ [x])) (zI (whC q).1) = 0 ∧ (leA (woP q (zI ((whA q).1 ++ [x])) (zI (whC q).1))).isSome = true := by
  obtain ⟨g, _⟩ := whB_ok h
  have hl := gr_left (st := fun l => stW q l []) hx
  have h1 : stW q ((gr (fun l => stW q l []) x).1 ++ [x]) [] = false := hl.2
  unfold stW at h1
  have h3 : ∀ y, y ∈ (whA q).1 ++ [x] → y < q.rules.length := fun y hy => by
    rcases List.mem_append.1 hy with hy | hy
    · exact (whA_lt y).1 hy
    · rw [List.mem_singleton] at hy; subst hy; exact (whA_lt y).2 hx
  refine ⟨wo_E0 g h3 (fun y hy => (whC_lt y).1 hy), ?_⟩
  refine wo_canN g (a := (gr (fun l => stW q l []) x).1 ++ [x]) (c := []) (fun y hy => ?_) (fun y hy => by cases hy) h3 (fun y hy => (whC_lt y).1 hy) (not_f h1)
  rcases List.mem_append.1 hy with hy | hy
  · exact List.mem_append_left _ (gr_sub (by omega) hy)
  · exact List.mem_append_right _ hy
theorem need_C {q : Pb} (h : whB q = true) {x : Nat} (hx : x ∈ (whC q).2) : woE q (zI (whA q).1) (zI ((whC q).1 ++ [x])) = 0 ∧ (leA (woP q (zI (whA q).1) (zI ((whC q).1 ++ [x])))).isSome = true := by
  obtain ⟨g, _⟩ := whB_ok h
  have hl := gr_left (st := fun l => stW q (whA q).1 l) hx
  have h1 : stW q (whA q).1 ((gr (fun l => stW q (whA q).1 l) x).1 ++ [x]) = false := hl.2
  unfold stW at h1
  have h3 : ∀ y, y ∈ (whC q).1 ++ [x] → y < q.who.length := fun y hy => by
    rcases List.mem_append.1 hy with hy | hy
    · exact (whC_lt y).1 hy
    · rw [List.mem_singleton] at hy; subst hy; exact (whC_lt y).2 hx
  refine ⟨wo_E0 g (fun y hy => (whA_lt y).1 hy) h3, ?_⟩
  refine wo_canN g (a := (whA q).1) (c := (gr (fun l => stW q (whA q).1 l) x).1 ++ [x]) (fun y hy => hy) (fun y hy => ?_) (fun y hy => (whA_lt y).1 hy) h3 (not_f h1)
  rcases List.mem_append.1 hy with hy | hy
  · exact List.mem_append_left _ (gr_sub (by omega) hy)
  · exact List.mem_append_right _ hy
theorem rsA {q : Pb} : rsN q.rules.length (whA q).2 = (whA q).1 := (gr_rest _).symm
theorem rsC {q : Pb} : rsN q.who.length (whC q).2 = (whC q).1 := (gr_rest _).symm
theorem whV_eq (q : Pb) : ∃ a c ok, whV q = .tuple [fzN a, fzN c, .bool ok] ∧ (ok = true → whB q = true ∧ a = (whA q).2 ∧ c = (whC q).2) ∧ (ok = false → whB q = false ∧ a = [] ∧ c = []) := by
  cases h : whB q with
  | true => exact ⟨_, _, true, whV_y h, fun _ => ⟨rfl, rfl, rfl⟩, fun e => by cases e⟩
  | false => exact ⟨_, _, false, whV_n h, fun e => (by cases e), fun _ => ⟨rfl, rfl, rfl⟩⟩
theorem whB_not {q : Pb} (h : whB q = false) (h1 : pck q = 0) : (leA q).isSome = true := by
  unfold whB at h
  rw [decide_eq_true h1, Bool.true_and] at h
  simpa using h
def pkV (h : Nat) (l : List Nat) : VVal := if l.length = 0 then niS else .slice (some (h, 0)) l.length l.length false 1
def pkB (l : List Nat) : VHeap := if l.length = 0 then [] else [.cells (rcN l) true]
theorem pk_LV {h : Nat} {l : List Nat} : LV h 1 (pkB l) (pkV h l) (rcN l) l.length := by
  refine ⟨by rw [List.length_map]; omega, ?_⟩
  unfold pkB pkV
  by_cases e : l.length = 0
  · exact .inl ⟨e, if_pos e⟩
  · refine .inr ⟨by omega, 0, by rw [if_neg e]; rfl, by rw [if_neg e]; rfl⟩
theorem rest_P {x : SW} (H : VHeap) (n : Nat) (l : List Nat) (hn : n ≤ 1000000) (hm : l.length ≤ 1000000) : F (psys x) 34 [iI (n : Nat), fzN l] H fun v G => v = pkV H.length (rsN n l) ∧ G = H ++ pkB (rsN n l) :=
  F.gh (rest_L H n l hn hm) fun v G h => by
    obtain ⟨X, rfl, hl⟩ := h
    unfold pkB pkV
    rcases hl.2 with ⟨h1, rfl⟩ | ⟨h1, b, rfl, h2⟩
    · rw [if_pos h1, if_pos h1, List.append_nil]
      exact ⟨_, _, Gh.back (BaseOk.refl _) rfl, rfl, rfl⟩
    · rw [if_neg (by omega), if_neg (by omega)]
      exact ⟨_, _, Gh.pack (BaseOk.refl _) h2 (mapN_under _ _), rfl, rfl⟩
theorem restA_P {x : SW} (H : VHeap) (q : Pb) (h : q.rules.length ≤ 1000000) : F (psys x) 34 [iI (q.rules.length : Nat), fzN (whA q).2] H fun v G => v = pkV H.length (whA q).1 ∧ G = H ++ pkB (whA q).1 := by
  have := rest_P (x := x) H q.rules.length (whA q).2 h (by have := @whA_len q; omega)
  rw [rsA] at this; exact this
theorem restC_P {x : SW} (H : VHeap) (q : Pb) (h : q.who.length ≤ 1000000) : F (psys x) 34 [iI (q.who.length : Nat), fzN (whC q).2] H fun v G => v = pkV H.length (whC q).1 ∧ G = H ++ pkB (whC q).1 := by
  have := rest_P (x := x) H q.who.length (whC q).2 h (by have := @whC_len q; omega)
  rw [rsC] at this; exact this
theorem restA_F {x : SW} (H : VHeap) (q : Pb) (h : q.rules.length ≤ 1000000) : F (psys x) 34 [iI (q.rules.length : Nat), fzN (whA q).2] H fun v G => v = fzN (whA q).1 ∧ G = H := by
  have := rest_F (x := x) H q.rules.length (whA q).2 h (by have := @whA_len q; omega)
  rw [rsA] at this; exact this
theorem restC_F {x : SW} (H : VHeap) (q : Pb) (h : q.who.length ≤ 1000000) : F (psys x) 34 [iI (q.who.length : Nat), fzN (whC q).2] H fun v G => v = fzN (whC q).1 ∧ G = H := by
  have := rest_F (x := x) H q.who.length (whC q).2 h (by have := @whC_len q; omega)
  rw [rsC] at this; exact this
end Go.Proofs.YtgbahioegcpjiaaDoor.VT
