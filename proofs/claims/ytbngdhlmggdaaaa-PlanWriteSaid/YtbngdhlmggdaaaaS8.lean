/- problems and plans, cut: walks -/
import Derived.Test.YtbngdhlmggdaaaaS5
set_option autoImplicit false
set_option linter.unusedVariables false
set_option linter.unusedSimpArgs false
set_option maxHeartbeats 4000000
set_option maxRecDepth 100000
namespace Go.Proofs.Ytbngdhlmggdaaaa.VT
open Go Go.V Go.RowKit

abbrev uS8n11 {a0 a1 a2 a3 a4 a5 a6 a7 a8 a9 a10 : VVal} : VEnv := a0 :: a1 :: a2 :: a3 :: a4 :: a5 :: a6 :: a7 :: a8 :: a9 :: a10 :: []
abbrev uS8n102 {a0 a1 a2 a3 a4 a5 a6 a7 a8 a9 a10 a11 a12 a13 a14 a15 a16 a17 a18 a19 a20 a21 a22 a23 a24 a25 a26 a27 a28 a29 a30 a31 a32 a33 a34 a35 a36 a37 a38 a39 a40 a41 a42 a43 a44 a45 a46 a47 a48 a49 a50 a51 a52 a53 a54 a55 a56 a57 a58 a59 a60 a61 a62 a63 a64 a65 a66 a67 a68 a69 a70 a71 a72 a73 a74 a75 a76 a77 a78 a79 a80 a81 a82 a83 a84 a85 a86 a87 a88 a89 a90 a91 a92 a93 a94 a95 a96 a97 a98 a99 a100 a101 : VVal} : VEnv := a0 :: a1 :: a2 :: a3 :: a4 :: a5 :: a6 :: a7 :: a8 :: a9 :: a10 :: a11 :: a12 :: a13 :: a14 :: a15 :: a16 :: a17 :: a18 :: a19 :: a20 :: a21 :: a22 :: a23 :: a24 :: a25 :: a26 :: a27 :: a28 :: a29 :: a30 :: a31 :: a32 :: a33 :: a34 :: a35 :: a36 :: a37 :: a38 :: a39 :: a40 :: a41 :: a42 :: a43 :: a44 :: a45 :: a46 :: a47 :: a48 :: a49 :: a50 :: a51 :: a52 :: a53 :: a54 :: a55 :: a56 :: a57 :: a58 :: a59 :: a60 :: a61 :: a62 :: a63 :: a64 :: a65 :: a66 :: a67 :: a68 :: a69 :: a70 :: a71 :: a72 :: a73 :: a74 :: a75 :: a76 :: a77 :: a78 :: a79 :: a80 :: a81 :: a82 :: a83 :: a84 :: a85 :: a86 :: a87 :: a88 :: a89 :: a90 :: a91 :: a92 :: a93 :: a94 :: a95 :: a96 :: a97 :: a98 :: a99 :: a100 :: a101 :: []

theorem wS8n0 {T : TypeId → Option VTy} {H : VHeap} {op : Op} {ρ : Operand → VVal} {t : TypeId} {a : Operand} {y : VTy} {p v : VVal} (ho : op = .load t a) (ha : ρ a = p) (hy : T t = some y) (hd : isAggDesc y.desc = false) (h : LdOk H p v := by first | exact .inl ⟨_, _, rfl, by first | rfl | assumption | exact fgetN (α := BitVec 64) 0 (by omega) | exact fgetN (α := Int) 0 (by omega) | exact rul_at (by omega)⟩ | exact .inr ⟨_, _, _, _, rfl, by first | exact get_app rfl rfl | exact get_out (by assumption) | exact getE0 rfl rfl | exact get_out (get_app rfl rfl) | exact get_app rfl (by assumption) | assumption | (simp only [List.append_assoc, List.singleton_append, List.cons_append, List.nil_append]; refine getE (i := 0) rfl ?_ rfl; simp; done) | (simp only [List.append_assoc, List.singleton_append, List.cons_append, List.nil_append]; refine getE (i := 1) rfl ?_ rfl; simp; done) | (simp only [List.append_assoc, List.singleton_append, List.cons_append, List.nil_append]; refine getE (i := 2) rfl ?_ rfl; simp; done) | (simp only [List.append_assoc, List.singleton_append, List.cons_append, List.nil_append]; refine getE (i := 3) rfl ?_ rfl; simp; done) | (simp [*]; done), by first | rfl | assumption | exact fgetN (α := BitVec 64) 0 (by omega) | exact fgetN (α := Int) 0 (by omega) | exact rul_at (by omega)⟩) : vop T ρ H op = some (v, H) := v_ld ho ha hy hd h
theorem wS8n1 {T : TypeId → Option VTy} {H : VHeap} {op : Op} {ρ : VEnv} {H' : VHeap} {t : TypeId} {a : Operand} {i : Nat} {v : VVal} {y : VTy} {b off : Nat} {cs new : List VVal} (ho : op = .store t a (.tmp i)) (hv : ρ[i]? = some v) (ha : ρ.eval a = .ptr (some (b, off))) (hy : T t = some y) (hx : v.cells = some new) (hn : new.length = y.size) (h1 : new.all VVal.one = true) (hb : H[b]? = some (.cells cs true) := by first | exact get_app rfl rfl | exact get_out (by assumption) | exact getE0 rfl rfl | exact get_out (get_app rfl rfl) | exact get_app rfl (by assumption) | assumption | (simp only [List.append_assoc, List.singleton_append, List.cons_append, List.nil_append]; refine getE (i := 0) rfl ?_ rfl; simp; done) | (simp only [List.append_assoc, List.singleton_append, List.cons_append, List.nil_append]; refine getE (i := 1) rfl ?_ rfl; simp; done) | (simp only [List.append_assoc, List.singleton_append, List.cons_append, List.nil_append]; refine getE (i := 2) rfl ?_ rfl; simp; done) | (simp only [List.append_assoc, List.singleton_append, List.cons_append, List.nil_append]; refine getE (i := 3) rfl ?_ rfl; simp; done) | (simp [*]; done)) (hl : off + new.length ≤ cs.length := by first | exact Nat.le_of_ble_eq_true rfl | (simp only [List.length_map, List.length_cons, List.length_nil]; omega) | omega | (simp; done) | (simp; omega)) (hH : H.set b (.cells (splice cs off new) true) = H' := by first | exact setE0 rfl rfl | (simp only [List.append_assoc, List.singleton_append, List.cons_append, List.nil_append]; refine setE (i := 0) rfl ?_; simp; done) | (simp only [List.append_assoc, List.singleton_append, List.cons_append, List.nil_append]; refine setE (i := 1) rfl ?_; simp; done) | (simp only [List.append_assoc, List.singleton_append, List.cons_append, List.nil_append]; refine setE (i := 2) rfl ?_; simp; done) | (simp only [List.append_assoc, List.singleton_append, List.cons_append, List.nil_append]; refine setE (i := 3) rfl ?_; simp; done) | (refine setB rfl ?_; simp; done) | exact set_app rfl | exact set_out (lt_of_get (by assumption)) | rfl) : vop T ρ.eval H op = some (.skip, H') := v_storeT ho hv ha hy hx hn h1 hb hl hH
theorem wS8n2 {T : TypeId → Option VTy} {H : VHeap} {op : Op} {ρ : Operand → VVal} {t e : TypeId} {x i : Operand} {y z : VTy} {k : IntKind} {n : Int} {p v : VVal} {es : Nat} (ho : op = .indexAddr t x i) (hx : ρ x = p) (hi : ρ i = .int k n) (hy : T t = some y) (hd : y.desc = .slice e) (hz : T e = some z) (hs : z.size = es) (h : IxOk p es n v := by first | exact .inl ⟨_, _, _, rfl, by first | assumption | omega | (simp [*]; done) | (simp at *; omega), rfl⟩ | exact .inr ⟨_, _, _, _, _, rfl, by first | assumption | omega | (simp [*]; done) | (simp at *; omega), rfl⟩) : vop T ρ H op = some (v, H) := v_ix ho hx hi hy hd hz hs h
theorem wS8n3 {T : TypeId → Option VTy} {H : VHeap} {op : Op} {ρ : Operand → VVal} {t ty : TypeId} {x y : Operand} {n m : Int} (ho : op = .binOp .add t x y ty) (hx : ρ x = .int .i64 n) (hy : ρ y = .int .i64 m) (h : -9223372036854775808 ≤ n + m ∧ n + m < 9223372036854775808 := by first | assumption | omega | (simp [*]; done) | (simp at *; omega)) : vop T ρ H op = some (.int .i64 (n + m), H) := v_addI ho hx hy h
theorem wS8n4 {T : TypeId → Option VTy} {H : VHeap} {op : Op} {ρ : Operand → VVal} {t : TypeId} {a : Operand} {y : VTy} {p : VVal} {n : Nat} {vs : List VVal} (ho : op = .load t a) (ha : ρ a = p) (hy : T t = some y) (hd : isAggDesc y.desc = true) (hn : y.size = n) (h : LdOkA H p n vs := by first | exact .inl ⟨_, _, rfl, by first | rfl | assumption | exact fgetN (α := BitVec 64) 0 (by omega) | exact fgetN (α := Int) 0 (by omega) | exact rul_at (by omega)⟩ | exact .inr ⟨_, _, _, _, rfl, by first | exact get_app rfl rfl | exact get_out (by assumption) | exact getE0 rfl rfl | exact get_out (get_app rfl rfl) | exact get_app rfl (by assumption) | assumption | (simp only [List.append_assoc, List.singleton_append, List.cons_append, List.nil_append]; refine getE (i := 0) rfl ?_ rfl; simp; done) | (simp only [List.append_assoc, List.singleton_append, List.cons_append, List.nil_append]; refine getE (i := 1) rfl ?_ rfl; simp; done) | (simp only [List.append_assoc, List.singleton_append, List.cons_append, List.nil_append]; refine getE (i := 2) rfl ?_ rfl; simp; done) | (simp only [List.append_assoc, List.singleton_append, List.cons_append, List.nil_append]; refine getE (i := 3) rfl ?_ rfl; simp; done) | (simp [*]; done), by first | rfl | assumption | exact fgetN (α := BitVec 64) 0 (by omega) | exact fgetN (α := Int) 0 (by omega) | exact rul_at (by omega)⟩) : vop T ρ H op = some (.agg vs, H) := v_ldA ho ha hy hd hn h

/-! problems, cut -/
abbrev nilS : VVal := .slice none 0 0 true 0
abbrev pqB (u : Int) (a b c : VVal) : VBlk := .cells [iI u, a, b, c] true
def cutR (r : Rul) : Rul := (r.kind, r.k, r.steps.take 20, ())
def cutP (p : Pb) : Pb := (p.users, p.who.take 20, p.fixed.take 20, (p.rules.take 40).map cutR, ())
theorem take_end {α : Type} {l : List α} {k m : Nat} (h1 : k ≤ m) (h2 : ¬ (k < l.length ∧ k < m)) : l.take k = l.take m := by
  by_cases h : k = m
  · rw [h]
  · rw [List.take_of_length_le (by omega), List.take_of_length_le (by omega)]
theorem cutR_step {l : List Rul} {m : Nat} (h : m < l.length) : (l.take (m + 1)).map cutR = (l.take m).map cutR ++ [cutR (l.getD m r0)] := by rw [take_at (d := r0) h, List.map_append]; rfl
theorem cutP_L {p : Pb} (h : -9223372036854775808 ≤ p.users ∧ p.users < 9223372036854775808) : PbL (cutP p) :=
  ⟨h, by show (List.take 20 _).length ≤ _; rw [List.length_take]; omega, by show (List.take 20 _).length ≤ _; rw [List.length_take]; omega, by show ((List.take 40 _).map cutR).length ≤ _; rw [List.length_map, List.length_take]; omega,
    fun r hr => by
      obtain ⟨r1, _, rfl⟩ := List.mem_map.1 hr
      show (List.take 20 _).length ≤ _
      rw [List.length_take]; omega⟩
theorem cutP_2 {p : Pb} : cutP (cutP p) = cutP p := by
  unfold cutP
  show (p.users, (p.who.take 20).take 20, (p.fixed.take 20).take 20, ((((p.rules.take 40).map cutR)).take 40).map cutR, ()) = _
  rw [List.take_take, List.take_take, ← List.map_take, List.take_take, List.map_map]
  congr 1; congr 1; congr 1; congr 1
  apply List.map_congr_left
  intro r _
  show cutR (cutR r) = cutR r
  unfold cutR
  show (r.kind, r.k, (r.steps.take 20).take 20, ()) = _
  rw [List.take_take]; rfl

theorem Cut_spec {x : SW} (H : VHeap) (p : Pb) : F (psys x) 8 [.agg (pbB p)] H fun v G => v = .agg (pbB (cutP p)) ∧ G = H := by
 refine F_body Try.func8 rfl uS8n102 rfl ?_
 refine B_seq (B_region ?_)
 refine L_op (env' := uS8n102) rfl rfl (v_boxT rfl rfl rfl) rfl ?_
 refine L_op (env' := uS8n102) rfl rfl (v_alloc rfl rfl) rfl ?_
 refine L_nil (K_seq (B_seq (B_region ?_)))
 refine L_gh (Gh.freezePtrL (cs := pbB p) 1 0 rfl rfl rfl) ?_
 refine L_op (env' := uS8n102) rfl rfl (rfl) rfl ?_
 refine L_op (env' := uS8n102) rfl rfl (wS8n0 rfl rfl rfl rfl) rfl ?_
 refine L_op (env' := uS8n102) rfl rfl (rfl) rfl ?_
 refine L_op (env' := uS8n102) rfl rfl (v_alloc rfl rfl) rfl ?_
 refine L_op (env' := uS8n102) rfl rfl (wS8n1 rfl rfl rfl rfl rfl rfl rfl) rfl ?_
 refine L_nil (K_seq ?_)
 refine B_seqJ (mk 102 5070602400912917605986812821489) (fun (u0 : Unit) => []) (fun (u0 : Unit) G => (True) ∧ ∃ lv X, G = (H ++ [VBlk.dead, pqB 0 nilS nilS nilS, pqB p.users lv nilS nilS]) ++ X ∧ LV (H.length + 3) 1 X lv ((p.who.take 20).map iW) (p.who.take 20).length) ?_ ?_
 ·skip
  refine B_seq (B_region ?_)
  refine L_op (env' := uS8n102) rfl rfl (v_const (VVal.int .i64 0) (.inr rfl) rfl) rfl ?_
  refine L_nil (K_seq (B_block ?_))
  refine B_clear (mk 102 5070602400912917605986812821473) (env' := uS8n102) rfl ?_
  refine B_loopE (fun (k : Nat) => p.who.length - k) (fun (k : Nat) => [(4, iI (k : Nat))]) (fun (k : Nat) G => (k ≤ p.who.length ∧ k ≤ 20) ∧ ∃ lv X, G = (H ++ [VBlk.dead, pqB 0 nilS nilS nilS, pqB p.users lv nilS nilS]) ++ X ∧ LV (H.length + 3) 1 X lv (((p.who).take k).map iW) ((p.who).take k).length) 0 rfl ?_ ?_
  ·refine ⟨?_, ⟨_, [], (List.append_nil _).symm, LV.nil _ _ _⟩⟩
   exact ⟨Nat.zero_le _, Nat.zero_le _⟩
  rintro k _ ⟨⟨hk1, hk2⟩, ⟨lv, X, rfl, hl⟩⟩
  refine B_env (env' := uS8n102) rfl ?_
  refine B_seq (B_seq (B_region ?_))
  refine L_op (env' := uS8n102) rfl rfl (v_move (.inl rfl) rfl) rfl ?_
  refine L_op (env' := uS8n102) rfl rfl (rfl) rfl ?_
  refine L_op (env' := uS8n102) rfl rfl (wS8n0 rfl rfl rfl rfl) rfl ?_
  refine L_op (env' := uS8n102) rfl rfl (rfl) rfl ?_
  refine L_op (env' := uS8n102) rfl rfl (rfl) rfl ?_
  refine L_op (env' := uS8n102) rfl rfl (v_move (.inl rfl) rfl) rfl ?_
  refine L_split 18 (env1 := uS8n102) (env2 := uS8n102) rfl rfl rfl (fun hg1 => ?_) (fun hg1 => ?_)
  ·try simp only [qB, qN] at hg1
   refine L_op (env' := uS8n102) rfl rfl (v_move (.inl rfl) rfl) rfl ?_
   refine L_op (env' := uS8n102) rfl rfl (rfl) rfl ?_
   refine L_op (env' := uS8n102) rfl rfl (v_pickT rfl rfl rfl) rfl ?_
   refine L_nil (K_seq ?_)
   refine B_cond _ rfl (fun hc2 => ?_) (fun hc2 => ?_)
   ·try simp only [qB, qN] at hc2
    refine B_skip (K_seq (B_seq (B_block ?_)))
    refine B_draw [0, 1, 2, 3, 4, 5, 6, 7, 8, 9, 10] #[0, 1, 0, 4, 0, 28, 60, 124, 255, 511, 1023] (by kernel_rfl) (by kernel_rfl) (by kernel_rfl) ?_
    refine O_op (env' := uS8n102) (c := .calm) rfl rfl rfl (rfl) rfl rfl rfl ?_
    refine O_op (env' := uS8n102) (c := .look) rfl rfl rfl (wS8n0 rfl rfl rfl rfl) rfl rfl rfl ?_
    refine O_op (env' := uS8n102) (c := .calm) rfl rfl rfl (rfl) rfl rfl rfl ?_
    refine O_op (env' := uS8n102) (c := .look) rfl rfl rfl (wS8n0 rfl rfl rfl rfl) rfl rfl rfl ?_
    refine O_op (env' := uS8n102) (c := .calm) rfl rfl rfl (v_move (.inl rfl) rfl) rfl rfl rfl ?_
    refine O_op (env' := uS8n102) (c := .calm) rfl rfl rfl (wS8n2 rfl rfl rfl rfl rfl rfl rfl) rfl rfl rfl ?_
    refine O_op (env' := uS8n102) (c := .look) rfl rfl rfl (wS8n0 rfl rfl rfl rfl) rfl rfl rfl ?_
    refine O_op (env' := uS8n102) (c := .grow) rfl rfl rfl (v_buildSlice rfl rfl (by decide) rfl) rfl rfl rfl ?_
    refine O_opX .turn rfl rfl rfl (v_appXh rfl rfl rfl rfl rfl rfl rfl (by simp) hl rfl rfl (by decide) (by rw [List.length_take]; show (_ + 1) * 8 ≤ _ ∧ _ + 1 ≤ _; omega) (by decide)) rfl rfl ?_
    rintro _ _ ⟨Y1, rfl, rfl, hY1, hY2, hY3⟩
    refine O_env (env' := uS8n102) rfl ?_
    refine O_op (env' := uS8n102) (c := .calm) rfl rfl rfl (rfl) rfl rfl rfl ?_
    refine O_op (env' := uS8n102) (c := .turn) rfl rfl rfl (wS8n1 rfl rfl rfl rfl rfl rfl rfl) rfl rfl rfl ?_
    refine O_nil [] (by kernel_rfl) (trivial) ?_
    refine K_blk (K_seq (B_region ?_))
    refine L_op (env' := uS8n102) rfl rfl (v_move (.inl rfl) rfl) rfl ?_
    refine L_op (env' := uS8n102) rfl rfl (wS8n3 rfl rfl rfl) rfl ?_
    refine L_op (env' := uS8n102) rfl rfl (v_move (.inr rfl) rfl) rfl ?_
    refine L_nil ?_
    refine K_loop (mk 102 5070602400912917605986812821473) (env' := uS8n102) rfl ⟨k + 1, ?_, rfl, ?_⟩
    ·first | omega | (simp only []; omega)
    ·exact ⟨⟨by omega, by omega⟩, _, _, rfl, by rw [take_at (d := 0) (by omega)]; exact LV.pushW hY3⟩
   ·try simp only [qB, qN] at hc2
    refine B_exit (K_seqX (K_loopX (K_blkX ?_)))
    refine K_loop (mk 102 5070602400912917605986812821489) (env' := uS8n102) rfl ⟨(), rfl, ?_⟩
    exact ⟨trivial, _, _, rfl, by rw [← take_end (m := 20) hk2 (by omega)]; exact hl⟩
  ·try simp only [qB, qN] at hg1
   refine L_off (env' := uS8n102) rfl rfl ?_
   refine L_off (env' := uS8n102) rfl rfl ?_
   refine L_op (env' := uS8n102) rfl rfl (v_pickFC (VVal.bool false) rfl rfl rfl) rfl ?_
   refine L_nil (K_seq ?_)
   refine B_false rfl rfl ?_
   refine B_exit (K_seqX (K_loopX (K_blkX ?_)))
   refine K_loop (mk 102 5070602400912917605986812821489) (env' := uS8n102) rfl ⟨(), rfl, ?_⟩
   exact ⟨trivial, _, _, rfl, by rw [← take_end (m := 20) hk2 (by omega)]; exact hl⟩
 ·rintro u0 _ ⟨_, ⟨lv, X, rfl, hl⟩⟩
  refine B_env (env' := uS8n102) rfl ?_
  refine B_seqJ (mk 102 5070602400912917605986812821489) (fun (u0 : Unit) => []) (fun (u0 : Unit) G => (True) ∧ ∃ lv X, G = (H ++ [VBlk.dead, pqB 0 nilS nilS nilS, pqB p.users (fzW (p.who.take 20)) lv nilS]) ++ X ∧ LV (H.length + 3) 1 X lv ((p.fixed.take 20).map iI) (p.fixed.take 20).length) ?_ ?_
  ·skip
   refine B_seq ?_
   refine B_ghCell 2 1 hl rfl rfl (by simp) fun X1 _ _ => ?_
   refine B_region ?_
   refine L_op (env' := uS8n102) rfl rfl (v_const (VVal.int .i64 0) (.inr rfl) rfl) rfl ?_
   refine L_nil (K_seq (B_block ?_))
   refine B_clear (mk 102 5070602400912917605986812821457) (env' := uS8n102) rfl ?_
   refine B_loopE (fun (j : Nat) => p.fixed.length - j) (fun (j : Nat) => [(5, iI (j : Nat))]) (fun (j : Nat) G => (j ≤ p.fixed.length ∧ j ≤ 20) ∧ ∃ lv X, G = (H ++ [VBlk.dead, pqB 0 nilS nilS nilS, pqB p.users (fzW (p.who.take 20)) lv nilS]) ++ X ∧ LV (H.length + 3) 1 X lv (((p.fixed).take j).map iI) ((p.fixed).take j).length) 0 rfl ?_ ?_
   ·refine ⟨?_, ⟨_, X1, rfl, LV.nil _ _ _⟩⟩
    exact ⟨Nat.zero_le _, Nat.zero_le _⟩
   rintro j _ ⟨⟨hj1, hj2⟩, ⟨lv, X, rfl, hl⟩⟩
   refine B_env (env' := uS8n102) rfl ?_
   refine B_seq (B_seq (B_region ?_))
   refine L_op (env' := uS8n102) rfl rfl (v_move (.inl rfl) rfl) rfl ?_
   refine L_op (env' := uS8n102) rfl rfl (rfl) rfl ?_
   refine L_op (env' := uS8n102) rfl rfl (wS8n0 rfl rfl rfl rfl) rfl ?_
   refine L_op (env' := uS8n102) rfl rfl (rfl) rfl ?_
   refine L_op (env' := uS8n102) rfl rfl (rfl) rfl ?_
   refine L_op (env' := uS8n102) rfl rfl (v_move (.inl rfl) rfl) rfl ?_
   refine L_split 39 (env1 := uS8n102) (env2 := uS8n102) rfl rfl rfl (fun hg3 => ?_) (fun hg3 => ?_)
   ·try simp only [qB, qN] at hg3
    refine L_op (env' := uS8n102) rfl rfl (v_move (.inl rfl) rfl) rfl ?_
    refine L_op (env' := uS8n102) rfl rfl (rfl) rfl ?_
    refine L_op (env' := uS8n102) rfl rfl (v_pickT rfl rfl rfl) rfl ?_
    refine L_nil (K_seq ?_)
    refine B_cond _ rfl (fun hc4 => ?_) (fun hc4 => ?_)
    ·try simp only [qB, qN] at hc4
     refine B_skip (K_seq (B_seq (B_block ?_)))
     refine B_draw [0, 1, 2, 3, 4, 5, 6, 7, 8, 9, 10] #[0, 1, 0, 4, 0, 28, 60, 124, 255, 511, 1023] (by kernel_rfl) (by kernel_rfl) (by kernel_rfl) ?_
     refine O_op (env' := uS8n102) (c := .calm) rfl rfl rfl (rfl) rfl rfl rfl ?_
     refine O_op (env' := uS8n102) (c := .look) rfl rfl rfl (wS8n0 rfl rfl rfl rfl) rfl rfl rfl ?_
     refine O_op (env' := uS8n102) (c := .calm) rfl rfl rfl (rfl) rfl rfl rfl ?_
     refine O_op (env' := uS8n102) (c := .look) rfl rfl rfl (wS8n0 rfl rfl rfl rfl) rfl rfl rfl ?_
     refine O_op (env' := uS8n102) (c := .calm) rfl rfl rfl (v_move (.inl rfl) rfl) rfl rfl rfl ?_
     refine O_op (env' := uS8n102) (c := .calm) rfl rfl rfl (wS8n2 rfl rfl rfl rfl rfl rfl rfl) rfl rfl rfl ?_
     refine O_op (env' := uS8n102) (c := .look) rfl rfl rfl (wS8n0 rfl rfl rfl rfl) rfl rfl rfl ?_
     refine O_op (env' := uS8n102) (c := .grow) rfl rfl rfl (v_buildSlice rfl rfl (by decide) rfl) rfl rfl rfl ?_
     refine O_opX .turn rfl rfl rfl (v_appXh rfl rfl rfl rfl rfl rfl rfl (by simp) hl rfl rfl (by decide) (by rw [List.length_take]; show (_ + 1) * 8 ≤ _ ∧ _ + 1 ≤ _; omega) (by decide)) rfl rfl ?_
     rintro _ _ ⟨Y1, rfl, rfl, hY1, hY2, hY3⟩
     refine O_env (env' := uS8n102) rfl ?_
     refine O_op (env' := uS8n102) (c := .calm) rfl rfl rfl (rfl) rfl rfl rfl ?_
     refine O_op (env' := uS8n102) (c := .turn) rfl rfl rfl (wS8n1 rfl rfl rfl rfl rfl rfl rfl) rfl rfl rfl ?_
     refine O_nil [] (by kernel_rfl) (trivial) ?_
     refine K_blk (K_seq (B_region ?_))
     refine L_op (env' := uS8n102) rfl rfl (v_move (.inl rfl) rfl) rfl ?_
     refine L_op (env' := uS8n102) rfl rfl (wS8n3 rfl rfl rfl) rfl ?_
     refine L_op (env' := uS8n102) rfl rfl (v_move (.inr rfl) rfl) rfl ?_
     refine L_nil ?_
     refine K_loop (mk 102 5070602400912917605986812821457) (env' := uS8n102) rfl ⟨j + 1, ?_, rfl, ?_⟩
     ·first | omega | (simp only []; omega)
     ·exact ⟨⟨by omega, by omega⟩, _, _, rfl, by rw [take_at (d := 0) (by omega)]; exact LV.pushI hY3⟩
    ·try simp only [qB, qN] at hc4
     refine B_exit (K_seqX (K_loopX (K_blkX ?_)))
     refine K_loop (mk 102 5070602400912917605986812821489) (env' := uS8n102) rfl ⟨(), rfl, ?_⟩
     exact ⟨trivial, _, _, rfl, by rw [← take_end (m := 20) hj2 (by omega)]; exact hl⟩
   ·try simp only [qB, qN] at hg3
    refine L_off (env' := uS8n102) rfl rfl ?_
    refine L_off (env' := uS8n102) rfl rfl ?_
    refine L_op (env' := uS8n102) rfl rfl (v_pickFC (VVal.bool false) rfl rfl rfl) rfl ?_
    refine L_nil (K_seq ?_)
    refine B_false rfl rfl ?_
    refine B_exit (K_seqX (K_loopX (K_blkX ?_)))
    refine K_loop (mk 102 5070602400912917605986812821489) (env' := uS8n102) rfl ⟨(), rfl, ?_⟩
    exact ⟨trivial, _, _, rfl, by rw [← take_end (m := 20) hj2 (by omega)]; exact hl⟩
  ·rintro u0 _ ⟨_, ⟨lv, X, rfl, hl⟩⟩
   refine B_env (env' := uS8n102) rfl ?_
   refine B_seqJ (mk 102 5070602400912917605986812821491) (fun (u0 : Unit) => []) (fun (u0 : Unit) G => (True) ∧ ∃ lv X, G = (H ++ [VBlk.dead, pqB 0 nilS nilS nilS, pqB p.users (fzW (p.who.take 20)) (fzI (p.fixed.take 20)) lv]) ++ X ∧ LV (H.length + 3) 3 X lv (((p.rules.take 40).map cutR).flatMap rlB) ((p.rules.take 40).map cutR).length) ?_ ?_
   ·skip
    refine B_seq ?_
    refine B_ghCell 2 2 hl rfl rfl (by simp) fun X2 _ _ => ?_
    refine B_region ?_
    refine L_op (env' := uS8n102) rfl rfl (v_const (VVal.int .i64 0) (.inr rfl) rfl) rfl ?_
    refine L_nil (K_seq (B_block ?_))
    refine B_clear (mk 102 5070602400912917605986812821425) (env' := uS8n102) rfl ?_
    refine B_loopE (fun (m : Nat) => p.rules.length - m) (fun (m : Nat) => [(6, iI (m : Nat))]) (fun (m : Nat) G => (m ≤ p.rules.length ∧ m ≤ 40) ∧ ∃ lv X, G = (H ++ [VBlk.dead, pqB 0 nilS nilS nilS, pqB p.users (fzW (p.who.take 20)) (fzI (p.fixed.take 20)) lv]) ++ X ∧ LV (H.length + 3) 3 X lv (((p.rules.take m).map cutR).flatMap rlB) ((p.rules.take m).map cutR).length) 0 rfl ?_ ?_
    ·refine ⟨?_, ⟨_, X2, rfl, LV.nil _ _ _⟩⟩
     exact ⟨Nat.zero_le _, Nat.zero_le _⟩
    rintro m _ ⟨⟨hm1, hm2⟩, ⟨lv, X, rfl, hl⟩⟩
    refine B_env (env' := uS8n102) rfl ?_
    refine B_seq (B_seq (B_region ?_))
    refine L_op (env' := uS8n102) rfl rfl (v_move (.inl rfl) rfl) rfl ?_
    refine L_op (env' := uS8n102) rfl rfl (rfl) rfl ?_
    refine L_op (env' := uS8n102) rfl rfl (wS8n0 rfl rfl rfl rfl) rfl ?_
    refine L_op (env' := uS8n102) rfl rfl (rfl) rfl ?_
    refine L_op (env' := uS8n102) rfl rfl (rfl) rfl ?_
    refine L_op (env' := uS8n102) rfl rfl (v_move (.inl rfl) rfl) rfl ?_
    refine L_split 60 (env1 := uS8n102) (env2 := uS8n102) rfl rfl rfl (fun hg5 => ?_) (fun hg5 => ?_)
    ·try simp only [qB, qN] at hg5
     refine L_op (env' := uS8n102) rfl rfl (v_move (.inl rfl) rfl) rfl ?_
     refine L_op (env' := uS8n102) rfl rfl (rfl) rfl ?_
     refine L_op (env' := uS8n102) rfl rfl (v_pickT rfl rfl rfl) rfl ?_
     refine L_nil (K_seq ?_)
     refine B_cond _ rfl (fun hc6 => ?_) (fun hc6 => ?_)
     ·try simp only [qB, qN] at hc6
      refine B_skip (K_seq (B_seq (B_block (B_seq (B_region ?_)))))
      refine L_op (env' := uS8n102) rfl rfl (rfl) rfl ?_
      refine L_op (env' := uS8n102) rfl rfl (wS8n0 rfl rfl rfl rfl) rfl ?_
      refine L_op (env' := uS8n102) rfl rfl (v_move (.inl rfl) rfl) rfl ?_
      refine L_op (env' := uS8n102) rfl rfl (wS8n2 rfl rfl rfl rfl rfl rfl rfl) rfl ?_
      refine L_op (env' := uS8n102) rfl rfl (wS8n4 rfl rfl rfl rfl rfl) rfl ?_
      refine L_op (env' := uS8n102) rfl rfl (v_alloc rfl rfl) rfl ?_
      refine L_op (env' := uS8n102) rfl rfl (wS8n1 rfl rfl rfl rfl rfl rfl rfl) rfl ?_
      refine L_nil (K_seq (B_seq ?_))
      refine B_gh (Gh.freezeEnd (cs := rlB (p.rules.getD m r0)) 7 rfl rfl) ?_
      refine B_region ?_
      refine L_op (env' := uS8n102) rfl rfl (v_const (VVal.slice none 0 0 true 0) (.inr rfl) rfl) rfl ?_
      refine L_nil (K_seq (B_seq (B_seq (B_region ?_))))
      refine L_op (env' := uS8n102) rfl rfl (v_const (VVal.int .i64 0) (.inr rfl) rfl) rfl ?_
      refine L_nil (K_seq (B_block ?_))
      refine B_clear (mk 102 5070602400912917605986812820529) (env' := uS8n102) rfl ?_
      refine B_loopE (fun (⟨k, sv⟩ : Nat × VVal) => (p.rules.getD m r0).steps.length - k) (fun (⟨k, sv⟩ : Nat × VVal) => [(8, sv), (9, iI (k : Nat))]) (fun (⟨k, sv⟩ : Nat × VVal) G => (k ≤ (p.rules.getD m r0).steps.length ∧ k ≤ 20) ∧ ∃ X, G = (H ++ [VBlk.dead, pqB 0 nilS nilS nilS, pqB p.users (fzW (p.who.take 20)) (fzI (p.fixed.take 20)) lv]) ++ X ∧ LV (H.length + 3) 3 X lv (((p.rules.take m).map cutR).flatMap rlB) ((p.rules.take m).map cutR).length ∧ LV (H.length + 3) 1 X sv (((p.rules.getD m r0).steps.take k).map iI) ((p.rules.getD m r0).steps.take k).length ∧ ∀ n, vidx lv = some n → vidx sv ≠ some n) ⟨0, _⟩ rfl ?_ ?_
      ·refine ⟨?_, ⟨X ++ [.dead], rfl, LV.app hl _, LV.nil _ _ _, fun n _ e => by cases e⟩⟩
       exact ⟨Nat.zero_le _, Nat.zero_le _⟩
      rintro ⟨k, sv⟩ _ ⟨⟨hk1, hk2⟩, ⟨X3, rfl, hl3, hs, hd⟩⟩
      refine B_env (env' := uS8n102) rfl ?_
      refine B_seq (B_seq (B_region ?_))
      refine L_op (env' := uS8n102) rfl rfl (v_move (.inl rfl) rfl) rfl ?_
      refine L_op (env' := uS8n102) rfl rfl (rfl) rfl ?_
      refine L_op (env' := uS8n102) rfl rfl (wS8n0 rfl rfl rfl rfl) rfl ?_
      refine L_op (env' := uS8n102) rfl rfl (rfl) rfl ?_
      refine L_op (env' := uS8n102) rfl rfl (rfl) rfl ?_
      refine L_op (env' := uS8n102) rfl rfl (v_move (.inl rfl) rfl) rfl ?_
      refine L_split 76 (env1 := uS8n102) (env2 := uS8n102) rfl rfl rfl (fun hg7 => ?_) (fun hg7 => ?_)
      ·try simp only [qB, qN] at hg7
       refine L_op (env' := uS8n102) rfl rfl (v_move (.inl rfl) rfl) rfl ?_
       refine L_op (env' := uS8n102) rfl rfl (rfl) rfl ?_
       refine L_op (env' := uS8n102) rfl rfl (v_pickT rfl rfl rfl) rfl ?_
       refine L_nil (K_seq ?_)
       refine B_cond _ rfl (fun hc8 => ?_) (fun hc8 => ?_)
       ·try simp only [qB, qN] at hc8
        refine B_skip (K_seq (B_seq (B_block (B_region ?_))))
        refine L_op (env' := uS8n102) rfl rfl (v_move (.inl rfl) rfl) rfl ?_
        refine L_op (env' := uS8n102) rfl rfl (rfl) rfl ?_
        refine L_op (env' := uS8n102) rfl rfl (wS8n0 rfl rfl rfl rfl) rfl ?_
        refine L_op (env' := uS8n102) rfl rfl (v_move (.inl rfl) rfl) rfl ?_
        refine L_op (env' := uS8n102) rfl rfl (wS8n2 rfl rfl rfl rfl rfl rfl rfl) rfl ?_
        refine L_op (env' := uS8n102) rfl rfl (wS8n0 rfl rfl rfl rfl) rfl ?_
        refine L_op (env' := uS8n102) rfl rfl (v_buildSlice rfl rfl (by decide) rfl) rfl ?_
        refine L_opX rfl rfl (v_appXh rfl rfl rfl rfl rfl rfl rfl (by simp) hs rfl rfl (by decide) (by rw [List.length_take]; show (_ + 1) * 8 ≤ _ ∧ _ + 1 ≤ _; omega) (by decide)) ?_
        rintro _ _ ⟨Y1, rfl, rfl, hY1, hY2, hY3⟩
        refine L_env (env' := uS8n102) rfl ?_
        refine L_op (env' := uS8n102) rfl rfl (v_move (.inr rfl) rfl) rfl ?_
        refine L_nil (K_blk (K_seq (B_region ?_)))
        refine L_op (env' := uS8n102) rfl rfl (v_move (.inl rfl) rfl) rfl ?_
        refine L_op (env' := uS8n102) rfl rfl (wS8n3 rfl rfl rfl) rfl ?_
        refine L_op (env' := uS8n102) rfl rfl (v_move (.inr rfl) rfl) rfl ?_
        refine L_nil ?_
        refine K_loop (mk 102 5070602400912917605986812820529) (env' := uS8n102) rfl ⟨⟨k + 1, _⟩, ?_, rfl, ?_⟩
        ·first | omega | (simp only []; omega)
        ·exact ⟨⟨by omega, by omega⟩, _, rfl, LV.app (LV.keep hl3 hd hY2) _, by rw [take_at (d := 0) (by omega)]; exact LV.pushI hY3, LV.far hl3 (Nat.le_succ _)⟩
       ·try simp only [qB, qN] at hc8
        refine B_exit (K_seqX (K_loopX (K_blkX (K_seq ?_))))
        rw [take_end (m := 20) hk2 (by omega)] at hs
        refine B_ghLVh (env' := uS8n102) 8 hs (by simp) rfl rfl fun X4 hX4 hF4 => ?_
        have hl4 := LV.keep hl3 hd hF4
        refine B_region ?_
        refine L_op (env' := uS8n102) rfl rfl (rfl) rfl ?_
        refine L_op (env' := uS8n102) rfl rfl (wS8n0 rfl rfl rfl rfl) rfl ?_
        refine L_op (env' := uS8n102) rfl rfl (rfl) rfl ?_
        refine L_op (env' := uS8n102) rfl rfl (wS8n0 rfl rfl rfl rfl) rfl ?_
        refine L_op (env' := uS8n102) rfl rfl (rfl) rfl ?_
        refine L_op (env' := uS8n102) rfl rfl (wS8n0 rfl rfl rfl rfl) rfl ?_
        refine L_op (env' := uS8n102) rfl rfl (v_move (.inl rfl) rfl) rfl ?_
        refine L_op (env' := uS8n102) rfl rfl (rfl) rfl ?_
        refine L_op (env' := uS8n102) rfl rfl (v_buildSlice rfl rfl (by decide) rfl) rfl ?_
        refine L_opX rfl rfl (v_appXh rfl rfl rfl rfl rfl rfl rfl (by simp) hl4 rfl rfl (by decide) (by rw [List.length_map, List.length_take]; show (_ + 1) * 40 ≤ _ ∧ _ + 1 ≤ _; omega) (by decide)) ?_
        rintro _ _ ⟨Y1, rfl, rfl, hY1, hY2, hY3⟩
        refine L_env (env' := uS8n102) rfl ?_
        refine L_op (env' := uS8n102) rfl rfl (rfl) rfl ?_
        refine L_op (env' := uS8n102) rfl rfl (wS8n1 rfl rfl rfl rfl rfl rfl rfl) rfl ?_
        refine L_nil (K_blk (K_seq (B_region ?_)))
        refine L_op (env' := uS8n102) rfl rfl (v_move (.inl rfl) rfl) rfl ?_
        refine L_op (env' := uS8n102) rfl rfl (wS8n3 rfl rfl rfl) rfl ?_
        refine L_op (env' := uS8n102) rfl rfl (v_move (.inr rfl) rfl) rfl ?_
        refine L_nil ?_
        refine K_loop (mk 102 5070602400912917605986812821425) (env' := uS8n102) rfl ⟨m + 1, ?_, rfl, ?_⟩
        ·first | omega | (simp only []; omega)
        ·exact ⟨⟨by omega, by omega⟩, _, _, rfl, by rw [cutR_step (by omega)]; exact LV.pushF hY3⟩
      ·try simp only [qB, qN] at hg7
       refine L_off (env' := uS8n102) rfl rfl ?_
       refine L_off (env' := uS8n102) rfl rfl ?_
       refine L_op (env' := uS8n102) rfl rfl (v_pickFC (VVal.bool false) rfl rfl rfl) rfl ?_
       refine L_nil (K_seq ?_)
       refine B_false rfl rfl ?_
       refine B_exit (K_seqX (K_loopX (K_blkX (K_seq ?_))))
       rw [take_end (m := 20) hk2 (by omega)] at hs
       refine B_ghLVh (env' := uS8n102) 8 hs (by simp) rfl rfl fun X4 hX4 hF4 => ?_
       have hl4 := LV.keep hl3 hd hF4
       refine B_region ?_
       refine L_op (env' := uS8n102) rfl rfl (rfl) rfl ?_
       refine L_op (env' := uS8n102) rfl rfl (wS8n0 rfl rfl rfl rfl) rfl ?_
       refine L_op (env' := uS8n102) rfl rfl (rfl) rfl ?_
       refine L_op (env' := uS8n102) rfl rfl (wS8n0 rfl rfl rfl rfl) rfl ?_
       refine L_op (env' := uS8n102) rfl rfl (rfl) rfl ?_
       refine L_op (env' := uS8n102) rfl rfl (wS8n0 rfl rfl rfl rfl) rfl ?_
       refine L_op (env' := uS8n102) rfl rfl (v_move (.inl rfl) rfl) rfl ?_
       refine L_op (env' := uS8n102) rfl rfl (rfl) rfl ?_
       refine L_op (env' := uS8n102) rfl rfl (v_buildSlice rfl rfl (by decide) rfl) rfl ?_
       refine L_opX rfl rfl (v_appXh rfl rfl rfl rfl rfl rfl rfl (by simp) hl4 rfl rfl (by decide) (by rw [List.length_map, List.length_take]; show (_ + 1) * 40 ≤ _ ∧ _ + 1 ≤ _; omega) (by decide)) ?_
       rintro _ _ ⟨Y1, rfl, rfl, hY1, hY2, hY3⟩
       refine L_env (env' := uS8n102) rfl ?_
       refine L_op (env' := uS8n102) rfl rfl (rfl) rfl ?_
       refine L_op (env' := uS8n102) rfl rfl (wS8n1 rfl rfl rfl rfl rfl rfl rfl) rfl ?_
       refine L_nil (K_blk (K_seq (B_region ?_)))
       refine L_op (env' := uS8n102) rfl rfl (v_move (.inl rfl) rfl) rfl ?_
       refine L_op (env' := uS8n102) rfl rfl (wS8n3 rfl rfl rfl) rfl ?_
       refine L_op (env' := uS8n102) rfl rfl (v_move (.inr rfl) rfl) rfl ?_
       refine L_nil ?_
       refine K_loop (mk 102 5070602400912917605986812821425) (env' := uS8n102) rfl ⟨m + 1, ?_, rfl, ?_⟩
       ·first | omega | (simp only []; omega)
       ·exact ⟨⟨by omega, by omega⟩, _, _, rfl, by rw [cutR_step (by omega)]; exact LV.pushF hY3⟩
     ·try simp only [qB, qN] at hc6
      refine B_exit (K_seqX (K_loopX (K_blkX ?_)))
      refine K_loop (mk 102 5070602400912917605986812821491) (env' := uS8n102) rfl ⟨(), rfl, ?_⟩
      exact ⟨trivial, _, _, rfl, by rw [← take_end (m := 40) hm2 (by omega)]; exact hl⟩
    ·try simp only [qB, qN] at hg5
     refine L_off (env' := uS8n102) rfl rfl ?_
     refine L_off (env' := uS8n102) rfl rfl ?_
     refine L_op (env' := uS8n102) rfl rfl (v_pickFC (VVal.bool false) rfl rfl rfl) rfl ?_
     refine L_nil (K_seq ?_)
     refine B_false rfl rfl ?_
     refine B_exit (K_seqX (K_loopX (K_blkX ?_)))
     refine K_loop (mk 102 5070602400912917605986812821491) (env' := uS8n102) rfl ⟨(), rfl, ?_⟩
     exact ⟨trivial, _, _, rfl, by rw [← take_end (m := 40) hm2 (by omega)]; exact hl⟩
   ·rintro u0 _ ⟨_, ⟨lv, X, rfl, hl⟩⟩
    refine B_env (env' := uS8n102) rfl ?_
    refine B_seq ?_
    refine B_ghCell 2 3 hl rfl rfl (by simp) fun X5 _ _ => ?_
    refine B_heap (List.append_assoc _ _ _) ?_
    refine B_region ?_
    refine L_op (env' := uS8n102) rfl rfl (wS8n4 rfl rfl rfl rfl rfl) rfl ?_
    refine L_op (env' := uS8n102) rfl rfl (wS8n1 rfl rfl rfl rfl rfl rfl rfl) rfl ?_
    refine L_nil (K_seq (B_ret ?_))
    refine E_app (.inr rfl) (vres_cellA rfl rfl rfl rfl (by first | exact get_app rfl rfl | exact get_out (by assumption) | exact getE0 rfl rfl | exact get_out (get_app rfl rfl) | exact get_app rfl (by assumption) | assumption | (simp only [List.append_assoc, List.singleton_append, List.cons_append, List.nil_append]; refine getE (i := 0) rfl ?_ rfl; simp; done) | (simp only [List.append_assoc, List.singleton_append, List.cons_append, List.nil_append]; refine getE (i := 1) rfl ?_ rfl; simp; done) | (simp only [List.append_assoc, List.singleton_append, List.cons_append, List.nil_append]; refine getE (i := 2) rfl ?_ rfl; simp; done) | (simp only [List.append_assoc, List.singleton_append, List.cons_append, List.nil_append]; refine getE (i := 3) rfl ?_ rfl; simp; done) | (simp [*]; done)) (by first | rfl | assumption | exact fgetN (α := BitVec 64) 0 (by omega) | exact fgetN (α := Int) 0 (by omega) | exact rul_at (by omega))) (by first | exact BaseOk.refl _ | exact BaseOk.set (BaseOk.refl _) _ rfl) (by first | rfl | exact pb_under (p := cutP p)) ?_
    exact ⟨rfl, rfl⟩

theorem rowP_spec {x : SW} (H : VHeap) (l : List Int) : F (psys x) 10 [fzI l] H fun v G => v = .slice (some (H.length, 0)) (l.take 30).length (l.take 30).length (decide ((l.take 30).length = 0)) 1 ∧ G = H ++ [.cells ((l.take 30).map iI) true] := by
 refine F_body Try.func10 rfl uS8n11 rfl ?_
 refine B_seq (B_region ?_)
 refine L_op (env' := uS8n11) rfl rfl (v_const (VVal.slice none 0 0 true 0) (.inr rfl) rfl) rfl ?_
 refine L_nil (K_seq (B_seq (B_seq (B_region ?_))))
 refine L_op (env' := uS8n11) rfl rfl (v_move (.inl rfl) rfl) rfl ?_
 refine L_op (env' := uS8n11) rfl rfl (rfl) rfl ?_
 refine L_op (env' := uS8n11) rfl rfl (rfl) rfl ?_
 refine L_nil (K_seq ?_)
 refine B_cond _ rfl (fun hc1 => ?_) (fun hc1 => ?_)
 ·try simp only [qB] at hc1
  refine B_region ?_
  refine L_op (env' := uS8n11) rfl rfl (v_move (.inl rfl) rfl) rfl ?_
  refine L_op (env' := uS8n11) rfl rfl (v_iHi (k := 30) rfl rfl rfl rfl rfl rfl rfl (by omega)) rfl ?_
  refine L_op (env' := uS8n11) rfl rfl (v_move (.inr rfl) rfl) rfl ?_
  refine L_nil (K_seq (B_seq (B_region ?_)))
  have h30 : (l.take 30).length ≤ 30 := by rw [List.length_take]; omega
  try rw [show fzI l = fzI (l.take 30) by rw [List.take_of_length_le (by omega)]]
  refine L_op (env' := uS8n11) rfl rfl (v_buildSlice rfl rfl (by decide) rfl) rfl ?_
  refine L_op (env' := uS8n11) rfl rfl (v_move (.inl rfl) rfl) rfl ?_
  refine L_opX rfl rfl (v_appE (k := (l.take 30).length) rfl rfl rfl rfl rfl rfl rfl rfl (by rw [List.length_map]; exact (Nat.mul_one _).symm) (mapI_one _) (by decide) (by show (l.take 30).length * 8 ≤ _ ∧ (l.take 30).length ≤ _; omega)) ?_
  rintro _ _ ⟨Z, i, rfl, rfl, hi⟩
  refine L_env (env' := uS8n11) rfl ?_
  refine L_op (env' := uS8n11) rfl rfl (v_move (.inr rfl) rfl) rfl ?_
  refine L_nil (K_seq (B_ret ?_))
  refine E_gh (.inr rfl) (vres_tmp rfl rfl) (Gh.pack (BaseOk.refl _) hi (mapI_under _ _)) ?_
  exact ⟨rfl, rfl⟩
 ·try simp only [qB] at hc1
  refine B_skip (K_seq (B_seq (B_region ?_)))
  have h30 : (l.take 30).length ≤ 30 := by rw [List.length_take]; omega
  try rw [show fzI l = fzI (l.take 30) by rw [List.take_of_length_le (by omega)]]
  refine L_op (env' := uS8n11) rfl rfl (v_buildSlice rfl rfl (by decide) rfl) rfl ?_
  refine L_op (env' := uS8n11) rfl rfl (v_move (.inl rfl) rfl) rfl ?_
  refine L_opX rfl rfl (v_appE (k := (l.take 30).length) rfl rfl rfl rfl rfl rfl rfl rfl (by rw [List.length_map]; exact (Nat.mul_one _).symm) (mapI_one _) (by decide) (by show (l.take 30).length * 8 ≤ _ ∧ (l.take 30).length ≤ _; omega)) ?_
  rintro _ _ ⟨Z, i, rfl, rfl, hi⟩
  refine L_env (env' := uS8n11) rfl ?_
  refine L_op (env' := uS8n11) rfl rfl (v_move (.inr rfl) rfl) rfl ?_
  refine L_nil (K_seq (B_ret ?_))
  refine E_gh (.inr rfl) (vres_tmp rfl rfl) (Gh.pack (BaseOk.refl _) hi (mapI_under _ _)) ?_
  exact ⟨rfl, rfl⟩

theorem row_spec {x : SW} (H : VHeap) (l : List Int) : F (psys x) 10 [fzI l] H fun v G => v = fzI (l.take 30) ∧ G = H :=
  F.gh (rowP_spec H l) fun v G h => by
    obtain ⟨rfl, rfl⟩ := h
    exact ⟨_, _, Gh.fsl (j := 0) (BaseOk.refl H) rfl map_all (Nat.le_refl _) (mapI_under _ _), rfl, rfl⟩
end Go.Proofs.Ytbngdhlmggdaaaa.VT
