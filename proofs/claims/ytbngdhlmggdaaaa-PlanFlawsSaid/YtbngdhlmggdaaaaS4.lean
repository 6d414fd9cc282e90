/- rules: which are broken; walk -/
import Derived.Test.YtbngdhlmggdaaaaS3
set_option autoImplicit false
set_option linter.unusedVariables false
set_option linter.unusedSimpArgs false
set_option maxHeartbeats 4000000
set_option maxRecDepth 100000
namespace Go.Proofs.Ytbngdhlmggdaaaa.VT
open Go Go.V Go.RowKit

abbrev uS4n25 {a0 a1 a2 a3 a4 a5 a6 a7 a8 a9 a10 a11 a12 a13 a14 a15 a16 a17 a18 a19 a20 a21 a22 a23 a24 : VVal} : VEnv := a0 :: a1 :: a2 :: a3 :: a4 :: a5 :: a6 :: a7 :: a8 :: a9 :: a10 :: a11 :: a12 :: a13 :: a14 :: a15 :: a16 :: a17 :: a18 :: a19 :: a20 :: a21 :: a22 :: a23 :: a24 :: []

theorem wS4n0 {T : TypeId → Option VTy} {H : VHeap} {op : Op} {ρ : Operand → VVal} {t e : TypeId} {x i : Operand} {y z : VTy} {k : IntKind} {n : Int} {p v : VVal} {es : Nat} (ho : op = .indexAddr t x i) (hx : ρ x = p) (hi : ρ i = .int k n) (hy : T t = some y) (hd : y.desc = .slice e) (hz : T e = some z) (hs : z.size = es) (h : IxOk p es n v := by first | exact .inl ⟨_, _, _, rfl, by first | assumption | omega | (simp [*]; done) | (simp at *; omega), rfl⟩ | exact .inr ⟨_, _, _, _, _, rfl, by first | assumption | omega | (simp [*]; done) | (simp at *; omega), rfl⟩) : vop T ρ H op = some (v, H) := v_ix ho hx hi hy hd hz hs h
theorem wS4n1 {T : TypeId → Option VTy} {H : VHeap} {op : Op} {ρ : Operand → VVal} {t : TypeId} {a : Operand} {y : VTy} {p : VVal} {n : Nat} {vs : List VVal} (ho : op = .load t a) (ha : ρ a = p) (hy : T t = some y) (hd : isAggDesc y.desc = true) (hn : y.size = n) (h : LdOkA H p n vs := by first | exact .inl ⟨_, _, rfl, by first | rfl | assumption | exact rul_at (by omega)⟩ | exact .inr ⟨_, _, _, _, rfl, by first | exact get_app rfl rfl | exact get_out (by assumption) | exact getE0 rfl rfl | exact get_out (get_app rfl rfl) | exact get_app rfl (by assumption) | assumption | (simp only [List.append_assoc, List.singleton_append, List.cons_append, List.nil_append]; refine getE (i := 0) rfl ?_ rfl; simp; done) | (simp only [List.append_assoc, List.singleton_append, List.cons_append, List.nil_append]; refine getE (i := 1) rfl ?_ rfl; simp; done) | (simp only [List.append_assoc, List.singleton_append, List.cons_append, List.nil_append]; refine getE (i := 2) rfl ?_ rfl; simp; done) | (simp only [List.append_assoc, List.singleton_append, List.cons_append, List.nil_append]; refine getE (i := 3) rfl ?_ rfl; simp; done) | (simp [*]; done), by first | rfl | assumption | exact rul_at (by omega)⟩) : vop T ρ H op = some (.agg vs, H) := v_ldA ho ha hy hd hn h
theorem wS4n2 {T : TypeId → Option VTy} {H : VHeap} {op : Op} {ρ : VEnv} {H' : VHeap} {t : TypeId} {a : Operand} {i : Nat} {v : VVal} {y : VTy} {b off : Nat} {cs new : List VVal} (ho : op = .store t a (.tmp i)) (hv : ρ[i]? = some v) (ha : ρ.eval a = .ptr (some (b, off))) (hy : T t = some y) (hx : v.cells = some new) (hn : new.length = y.size) (h1 : new.all VVal.one = true) (hb : H[b]? = some (.cells cs true) := by first | exact get_app rfl rfl | exact get_out (by assumption) | exact getE0 rfl rfl | exact get_out (get_app rfl rfl) | exact get_app rfl (by assumption) | assumption | (simp only [List.append_assoc, List.singleton_append, List.cons_append, List.nil_append]; refine getE (i := 0) rfl ?_ rfl; simp; done) | (simp only [List.append_assoc, List.singleton_append, List.cons_append, List.nil_append]; refine getE (i := 1) rfl ?_ rfl; simp; done) | (simp only [List.append_assoc, List.singleton_append, List.cons_append, List.nil_append]; refine getE (i := 2) rfl ?_ rfl; simp; done) | (simp only [List.append_assoc, List.singleton_append, List.cons_append, List.nil_append]; refine getE (i := 3) rfl ?_ rfl; simp; done) | (simp [*]; done)) (hl : off + new.length ≤ cs.length := by first | exact Nat.le_of_ble_eq_true rfl | (simp only [List.length_map, List.length_cons, List.length_nil]; omega) | omega | (simp; done) | (simp; omega)) (hH : H.set b (.cells (splice cs off new) true) = H' := by first | exact setE0 rfl rfl | (simp only [List.append_assoc, List.singleton_append, List.cons_append, List.nil_append]; refine setE (i := 0) rfl ?_; simp; done) | (simp only [List.append_assoc, List.singleton_append, List.cons_append, List.nil_append]; refine setE (i := 1) rfl ?_; simp; done) | (simp only [List.append_assoc, List.singleton_append, List.cons_append, List.nil_append]; refine setE (i := 2) rfl ?_; simp; done) | (simp only [List.append_assoc, List.singleton_append, List.cons_append, List.nil_append]; refine setE (i := 3) rfl ?_; simp; done) | (refine setB rfl ?_; simp; done) | exact set_app rfl | exact set_out (lt_of_get (by assumption)) | rfl) : vop T ρ.eval H op = some (.skip, H') := v_storeT ho hv ha hy hx hn h1 hb hl hH
theorem wS4n3 {T : TypeId → Option VTy} {H : VHeap} {op : Op} {ρ : Operand → VVal} {t ty : TypeId} {x y : Operand} {n m : Int} (ho : op = .binOp .add t x y ty) (hx : ρ x = .int .i64 n) (hy : ρ y = .int .i64 m) (h : -9223372036854775808 ≤ n + m ∧ n + m < 9223372036854775808 := by first | assumption | omega | (simp [*]; done) | (simp at *; omega)) : vop T ρ H op = some (.int .i64 (n + m), H) := v_addI ho hx hy h

theorem Broken_spec {x : SW} (H : VHeap) (rs : List Rul) (l : List Int) (hR : ∀ r, r ∈ rs → r.steps.length ≤ 1000000) (hn : rs.length ≤ 1000000) : F (psys x) 34 [fzR rs, fzI l] H fun v G => v = fzI (brk rs l) ∧ G = H := by
 refine F_body Try.func34 rfl uS4n25 rfl ?_
 refine B_seq (B_region ?_)
 refine L_op (env' := uS4n25) rfl rfl (v_const (VVal.slice none 0 0 true 0) (.inr rfl) rfl) rfl ?_
 refine L_nil (K_seq (B_seq (B_region ?_)))
 refine L_op (env' := uS4n25) rfl rfl (v_const (VVal.slice none 0 0 true 0) (.inr rfl) rfl) rfl ?_
 refine L_nil (K_seq (B_seq (B_seq (B_region ?_))))
 refine L_op (env' := uS4n25) rfl rfl (v_move (.inl rfl) rfl) rfl ?_
 refine L_op (env' := uS4n25) rfl rfl (rfl) rfl ?_
 refine L_op (env' := uS4n25) rfl rfl (v_const (VVal.int .i64 0) (.inl rfl) rfl) rfl ?_
 refine L_nil (K_seq (B_block ?_))
 refine B_clear (mk 25 33552605) (env' := uS4n25) rfl ?_
 refine B_loopE (fun (⟨k, lv⟩ : Nat × VVal) => rs.length - k) (fun (⟨k, lv⟩ : Nat × VVal) => [(5, lv), (10, iI (k : Nat))]) (fun (⟨k, lv⟩ : Nat × VVal) G => (k ≤ rs.length) ∧ ∃ X, G = H ++ X ∧ LV H.length 1 X lv ((brk (rs.take k) l).map iI) (brk (rs.take k) l).length) ⟨0, _⟩ rfl ?_ ?_
 ·refine ⟨?_, ⟨_, rfl, LV.nil _ _ _⟩⟩
  exact Nat.zero_le _
 rintro ⟨k, lv⟩ _ ⟨hk, ⟨X, rfl, hl⟩⟩
 refine B_env (env' := uS4n25) rfl ?_
 refine B_seq (B_region ?_)
 refine L_op (env' := uS4n25) rfl rfl (rfl) rfl ?_
 refine L_nil (K_seq (B_seq ?_))
 refine B_cond _ rfl (fun hc1 => ?_) (fun hc1 => ?_)
 ·try simp only [qB, qN] at hc1
  refine B_skip (K_seq (B_seq (B_block (B_seq (B_region ?_)))))
  refine L_op (env' := uS4n25) rfl rfl (v_move (.inl rfl) rfl) rfl ?_
  refine L_op (env' := uS4n25) rfl rfl (wS4n0 rfl rfl rfl rfl rfl rfl rfl) rfl ?_
  refine L_op (env' := uS4n25) rfl rfl (wS4n1 rfl rfl rfl rfl rfl) rfl ?_
  refine L_op (env' := uS4n25) rfl rfl (v_alloc rfl rfl) rfl ?_
  refine L_op (env' := uS4n25) rfl rfl (v_move (.inr rfl) rfl) rfl ?_
  refine L_op (env' := uS4n25) rfl rfl (wS4n2 rfl rfl rfl rfl rfl rfl rfl) rfl ?_
  refine L_nil (K_seq (B_seq (B_region ?_)))
  refine L_op (env' := uS4n25) rfl rfl (wS4n1 rfl rfl rfl rfl rfl) rfl ?_
  refine L_op (env' := uS4n25) rfl rfl (v_move (.inl rfl) rfl) rfl ?_
  refine L_call rfl rfl rfl (by exact rHolds_spec _ _ _ (hR _ (rul_mem (by omega)))) ?_
  rintro _ _ ⟨rfl, rfl⟩
  refine L_env (env' := uS4n25) rfl ?_
  refine L_op (env' := uS4n25) rfl rfl (rfl) rfl ?_
  refine L_nil (K_seq ?_)
  refine B_cond _ rfl (fun hc2 => ?_) (fun hc2 => ?_)
  ·try simp only [qB, qN] at hc2
   refine B_region ?_
   refine L_op (env' := uS4n25) rfl rfl (v_move (.inl rfl) rfl) rfl ?_
   refine L_op (env' := uS4n25) rfl rfl (v_move (.inl rfl) rfl) rfl ?_
   refine L_op (env' := uS4n25) rfl rfl (v_buildSlice rfl rfl (by decide) rfl) rfl ?_
   refine L_opX rfl rfl (v_appX rfl rfl rfl rfl rfl rfl rfl (LV.app hl _) rfl rfl (by decide) (by have := brk_lenK (rs := rs) (l := l) (k := k); show (_ + 1) * 8 ≤ _ ∧ _ + 1 ≤ _; omega) (by decide)) ?_
   rintro _ _ ⟨Y1, rfl, rfl, hY1, hY2, hY3⟩
   refine L_env (env' := uS4n25) rfl ?_
   refine L_op (env' := uS4n25) rfl rfl (v_move (.inr rfl) rfl) rfl ?_
   refine L_nil (K_blk (K_seq (B_region ?_)))
   refine L_op (env' := uS4n25) rfl rfl (wS4n3 rfl rfl rfl) rfl ?_
   refine L_op (env' := uS4n25) rfl rfl (v_move (.inl rfl) rfl) rfl ?_
   refine L_nil ?_
   refine K_loop (mk 25 33552605) (env' := uS4n25) rfl ⟨⟨k + 1, _⟩, ?_, rfl, ?_⟩
   ·first | omega | (simp only []; omega)
   ·first | exact ⟨by omega, _, rfl, by rw [brk_yes (by omega) (by simpa using ‹_›)]; exact LV.app hl _⟩ | exact ⟨by omega, _, rfl, by rw [brk_yes (by omega) (by simpa using ‹_›)]; exact hl⟩ | exact ⟨by omega, _, rfl, by rw [brk_no (by omega) (by simpa using ‹_›)]; exact LV.pushI hY3⟩
  ·try simp only [qB, qN] at hc2
   refine B_skip (K_blk (K_seq (B_region ?_)))
   refine L_op (env' := uS4n25) rfl rfl (wS4n3 rfl rfl rfl) rfl ?_
   refine L_op (env' := uS4n25) rfl rfl (v_move (.inl rfl) rfl) rfl ?_
   refine L_nil ?_
   refine K_loop (mk 25 33552605) (env' := uS4n25) rfl ⟨⟨k + 1, _⟩, ?_, rfl, ?_⟩
   ·first | omega | (simp only []; omega)
   ·first | exact ⟨by omega, _, rfl, by rw [brk_yes (by omega) (by simpa using ‹_›)]; exact LV.app hl _⟩ | exact ⟨by omega, _, rfl, by rw [brk_yes (by omega) (by simpa using ‹_›)]; exact hl⟩ | exact ⟨by omega, _, rfl, by rw [brk_no (by omega) (by simpa using ‹_›)]; exact LV.pushI hY3⟩
 ·try simp only [qB, qN] at hc1
  refine B_exit (K_seqX (K_loopX (K_blkX (K_seq (B_seq (B_region ?_))))))
  refine L_op (env' := uS4n25) rfl rfl (v_move (.inl rfl) rfl) rfl ?_
  refine L_op (env' := uS4n25) rfl rfl (v_move (.inr rfl) rfl) rfl ?_
  refine L_nil (K_seq (B_ret ?_))
  refine E_gh (.inr rfl) (vres_tmp rfl rfl) (Gh.ansLV (BaseOk.refl _) hl (mapI_under _ _)) ?_
  obtain rfl : k = rs.length := by omega
  rw [List.take_of_length_le (Nat.le_refl _)]
  exact ⟨rfl, rfl⟩
end Go.Proofs.Ytbngdhlmggdaaaa.VT
