/- Proved: Rows.SolveLeastCardSaid, the statement SolveLeast with its card, of the given program at the commit; no conditions beyond those in the statement. -/
import Derived.Test.YtnbihdflnjpinaaDoorC3x13
set_option autoImplicit false
set_option linter.unusedVariables false
set_option linter.unusedSimpArgs false
set_option maxHeartbeats 4000000
set_option maxRecDepth 100000
namespace Go.Proofs.YtnbihdflnjpinaaDoor.VT
open Go Go.V Go.RowKit
abbrev u3 {a0 a1 a2 : VVal} : VEnv := a0 :: a1 :: a2 :: []
abbrev u14 {a0 a1 a2 a3 a4 a5 a6 a7 a8 a9 a10 a11 a12 a13 : VVal} : VEnv := a0 :: a1 :: a2 :: a3 :: a4 :: a5 :: a6 :: a7 :: a8 :: a9 :: a10 :: a11 :: a12 :: a13 :: []
theorem sLeast_spec {x : SW} (H : VHeap) (y : Nat) (g : Gz) (hs : H[y]? = some (gaB g)) (p : Pb) (hp : PbL p) : F (psys x) 22 [.ptr (some (y, 0)), .agg (pbB p)] H fun v G => v = leT (leA p) ∧ G = H.set y (gaB (g + leG p)) := by
  by_cases hg : pck p = 0
  · cases hf : (frm (kpB (wsP p) (rssP p)) (kpG p.users.toNat (wsP p) (rssP p)) (wsP p).length [] 0).2 with
    | none =>
      refine (Least_none H y g hs p hp hg hf).mono ?_
      rintro v G ⟨rfl, rfl⟩
      rw [show leA p = none by unfold leA fdA; rw [if_pos hg, hf]; rfl, show leG p = (frm (kpB (wsP p) (rssP p)) (kpG p.users.toNat (wsP p) (rssP p)) (wsP p).length [] 0).1 by unfold leG fdG; rw [if_pos hg, hf]; exact Gz.add_zero _]
      exact ⟨rfl, rfl⟩
    | some a =>
      obtain ⟨_, _, _, _, hm⟩ := fnd_ok hf
      obtain ⟨d9, z9, hq⟩ := usT_fst hm
      refine (Least_some H y g hs p hp hg a hf d9 z9 hq).mono ?_
      rintro v G ⟨rfl, rfl⟩
      rw [show leA p = some (plN a (lst (blkN (wsP p) a a.length) 0#64)) by unfold leA fdA; rw [if_pos hg, hf]; rfl, show leG p = (frm (kpB (wsP p) (rssP p)) (kpG p.users.toNat (wsP p) (rssP p)) (wsP p).length [] 0).1 + d9 by unfold leG fdG; rw [if_pos hg, hf]; simp only [hq]; rfl]
      exact ⟨rfl, by rw [Gz.assoc]⟩
  · refine (Least_bad H y g hs p hp hg).mono ?_
    rintro v G ⟨rfl, rfl⟩
    rw [show leA p = none from if_neg hg, show leG p = 0 from if_neg hg, Gz.add_zero, ← set_keep hs]
    exact ⟨rfl, rfl⟩
theorem leT_can {o : Option (List Nat)} : ∃ l, leT o = .tuple [fzN l, .bool o.isSome] := by
  cases o with
  | none => exact ⟨[], rfl⟩
  | some l => exact ⟨l, rfl⟩
theorem sLeast_t {x : SW} (H : VHeap) (y : Nat) (g : Gz) (hs : H[y]? = some (gaB g)) (p : Pb) (hp : PbL p) : F (psys x) 22 [.ptr (some (y, 0)), .agg (pbB p)] H fun v G => ∃ l, v = .tuple [fzN l, .bool (leA p).isSome] ∧ G = H.set y (gaB (g + leG p)) := by
  refine (sLeast_spec H y g hs p hp).mono ?_
  rintro v G ⟨rfl, rfl⟩
  obtain ⟨l, h⟩ := @leT_can (leA p)
  exact ⟨l, h, rfl⟩
theorem Can_spec {x : SW} (H : VHeap) (y : Nat) (g : Gz) (hs : H[y]? = some (gaB g)) (p : Pb) (hp : PbL p) : F (psys x) 25 [.ptr (some (y, 0)), .agg (pbB p)] H fun v G => v = .bool (leA p).isSome ∧ G = H.set y (gaB (g + leG p)) := by
 refine F_body Tryd.func25 rfl u14 rfl ?_
 refine B_seq (B_region ?_)
 refine Lo u14 (v_boxT rfl rfl rfl) ?_
 refine Lo u14 (v_const (VVal.bool false) (.inr rfl) rfl) ?_
 refine L_nil (K_seq (B_seq (B_region ?_)))
 refine Lo u14 (v_move (.inl rfl) rfl) ?_
 refine Lo u14 (W11 rfl rfl rfl rfl rfl) ?_
 refine L_call rfl rfl rfl (by exact sLeast_t _ y g (get_append hs) p hp) ?_
 rintro _ _ ⟨l, rfl, rfl⟩; rw [set_out (lt_of_get hs)]
 refine Le u14 ?_
 refine Lo u14 (v_move (.inl rfl) rfl) ?_
 refine Lo u14 (rfl) ?_
 refine Lo u14 (rfl) ?_
 refine Lo u14 (v_move (.inr rfl) rfl) ?_
 refine Lo u14 (v_move (.inr rfl) rfl) ?_
 refine L_nil (K_seq (B_seq (B_region ?_)))
 refine Lo u14 (v_move (.inl rfl) rfl) ?_
 refine Lo u14 (v_move (.inr rfl) rfl) ?_
 refine L_nil (K_seq (B_ret ?_))
 refine W1o (.inr rfl) (vres_tmp rfl rfl) ?_
 exact ⟨rfl, rfl⟩
theorem sNew_spec {x : SW} (H : VHeap) : F (psys x) 21 [] H fun v G => v = .ptr (some (H.length, 0)) ∧ G = H ++ [gaB 0] := by
 refine F_body Tryd.func21 rfl u3 rfl ?_
 refine B_seq (B_region ?_)
 refine Lo u3 (v_const (VVal.ptr none) (.inr rfl) rfl) ?_
 refine L_nil (K_seq (B_seq (B_region ?_)))
 refine Lo u3 (rfl) ?_
 refine Lo u3 (v_boxT rfl rfl rfl) ?_
 refine Lo u3 (v_move (.inr rfl) rfl) ?_
 refine L_nil (K_seq (B_ret ?_))
 refine E_keep (.inr rfl) (vres_tmp rfl rfl) ?_
 exact ⟨rfl, rfl⟩
end Go.Proofs.YtnbihdflnjpinaaDoor.VT

set_option autoImplicit false
set_option linter.unusedVariables false
set_option linter.unusedSimpArgs false
set_option maxHeartbeats 4000000
set_option maxRecDepth 100000
namespace Go.Proofs.YtnbihdflnjpinaaDoor.VT
open Go Go.V Go.RowKit
theorem W58 {T : TypeId → Option VTy} {H : VHeap} {op : Op} {ρ : Operand → VVal} {t : TypeId} {a : Operand} {y : VTy} {p v : VVal} (ho : op = .load t a) (ha : ρ a = p) (hy : T t = some y) (hd : isAggDesc y.desc = false) (h : LdOk H p v := by first | exact .inl ⟨_, _, rfl, by first | rfl | assumption | exact fgetN (α := BitVec 64) 0 (by omega) | exact fgetN (α := Int) 0 (by omega) | exact rul_at (by omega) | exact rul_f2 (by omega) | exact rul_f0 (by omega) | exact rul_f1 (by omega)⟩ | exact .inr ⟨_, _, _, _, rfl, by first | exact get_app rfl rfl | exact get_out (by assumption) | exact getE0 rfl rfl | exact get_out (get_app rfl rfl) | exact get_app rfl (by assumption) | assumption | (simp only [List.append_assoc, List.singleton_append, List.cons_append, List.nil_append]; refine getE (i := 0) rfl ?_ rfl; simp; done) | (simp only [List.append_assoc, List.singleton_append, List.cons_append, List.nil_append]; refine getE (i := 1) rfl ?_ rfl; simp; done) | (simp only [List.append_assoc, List.singleton_append, List.cons_append, List.nil_append]; refine getE (i := 2) rfl ?_ rfl; simp; done) | (simp only [List.append_assoc, List.singleton_append, List.cons_append, List.nil_append]; refine getE (i := 3) rfl ?_ rfl; simp; done) | (simp [*]; done), by first | rfl | assumption | exact fgetN (α := BitVec 64) 0 (by omega) | exact fgetN (α := Int) 0 (by omega) | exact rul_at (by omega) | exact rul_f2 (by omega) | exact rul_f0 (by omega) | exact rul_f1 (by omega)⟩) : vop T ρ H op = some (v, H) := v_ld ho ha hy hd h
theorem W5b {P : Prop} (h : P := by first | exact ⟨by rw [myB_f g hi (by assumption), beq_d], rfl⟩ | exact ⟨by rw [myB_w g hi (by omega), decide_eq_false (by omega)]; rfl, rfl⟩ | exact ⟨by rw [myB_w g hi (by omega), decide_eq_true (by omega), Bool.true_and]; exact congrArg VVal.bool bit_eq, rfl⟩) : P := h
theorem cells_get {l w : List VVal} {off m j : Nat} (h : cellsAt l off m = some w) (hj : j < m) : l[off + j]? = w[j]? := by
  unfold cellsAt at h
  split at h
  · injection h with h; subst h
    rw [List.getElem?_take, if_pos hj, List.getElem?_drop]
  · cases h
theorem rul_f {l : List Rul} {k j : Nat} (h : k < l.length) (hj : j < 3) : (l.flatMap rlB)[((k : Nat) : Int).toNat * 3 + j]? = (rlB (l.getD k r0))[j]? := by
  exact cells_get (fm_nat (f := rlB) (m := 3) (fun _ => rfl) l k r0 h) hj
theorem rul_f0 {l : List Rul} {k : Nat} (h : k < l.length) : (l.flatMap rlB)[((k : Nat) : Int).toNat * 3 + 0]? = some (iI (l.getD k r0).kind) := rul_f h (by decide)
theorem rul_f1 {l : List Rul} {k : Nat} (h : k < l.length) : (l.flatMap rlB)[((k : Nat) : Int).toNat * 3 + 1]? = some (iI (l.getD k r0).k) := rul_f h (by decide)
theorem rul_f2 {l : List Rul} {k : Nat} (h : k < l.length) : (l.flatMap rlB)[((k : Nat) : Int).toNat * 3 + 2]? = some (fzI (l.getD k r0).steps) := rul_f h (by decide)
def myB (p : Pb) (i : Nat) (u : Int) : Bool := decide (0 ≤ u ∧ u < 64) && (wrd p i).getLsbD u.toNat
theorem okW_in {p : Pb} {i : Nat} (g : Go.V.Good p) (hi : i < p.who.length) : (-1 ≤ p.fixed.getD i 0 ∧ p.fixed.getD i 0 < p.users) ∧ (p.who.getD i 0) >>> p.users.toNat = 0#64 := by
  have hok := g.ok i hi
  unfold okW at hok
  rw [Bool.and_eq_true, decide_eq_true_eq, decide_eq_true_eq] at hok
  exact hok
theorem myB_f {p : Pb} {i : Nat} {u : Int} (g : Go.V.Good p) (hi : i < p.who.length) (h : 0 ≤ p.fixed.getD i 0) : myB p i u = decide (u = p.fixed.getD i 0) := by
  have hok := (okW_in g hi).1; have g2 := g.u64
  unfold myB
  rw [wrd_f h, one_shl, Bool.eq_iff_iff, Bool.and_eq_true, Bool.and_eq_true, decide_eq_true_eq, decide_eq_true_eq, decide_eq_true_eq, decide_eq_true_eq]
  omega
theorem myB_w {p : Pb} {i : Nat} {u : Int} (g : Go.V.Good p) (hi : i < p.who.length) (h : p.fixed.getD i 0 < 0) : myB p i u = (decide (0 ≤ u ∧ u < p.users) && (p.who.getD i 0).getLsbD u.toNat) := by
  have hok := (okW_in g hi).2; have g2 := g.u64; have g4 := g.u0
  unfold myB
  rw [wrd_w h]
  by_cases h1 : 0 ≤ u ∧ u < p.users
  · rw [decide_eq_true h1, decide_eq_true (by omega)]
  · rw [decide_eq_false h1, Bool.false_and]
    by_cases h2 : 0 ≤ u ∧ u < 64
    · rw [decide_eq_true h2, Bool.true_and]; exact high_bit hok (by omega)
    · rw [decide_eq_false h2, Bool.false_and]
theorem bit_eq {w : BitVec 64} {k : Nat} : (((w >>> k &&& 1#64).toNat : Int) == ((1#64 : BitVec 64).toNat : Int)) = w.getLsbD k := by
  have h : (w >>> k &&& 1#64) = if w.getLsbD k = true then 1#64 else 0#64 := by
    apply BitVec.eq_of_getLsbD_eq
    intro i hi
    rw [BitVec.getLsbD_and, BitVec.getLsbD_ushiftRight, BitVec.getLsbD_one]
    by_cases e : i = 0
    · subst e; cases hb : w.getLsbD k <;> simp [hb]
    · cases hb : w.getLsbD k <;> simp [e]
  rw [h]
  cases w.getLsbD k <;> rfl
theorem May_spec {x : SW} (H : VHeap) (p : Pb) (g : Go.V.Good p) (i : Nat) (hi : i < p.who.length) (u : Int) : F (psys x) 49 [.agg (pbB p), iI (i : Nat), iI u] H fun v G => v = .bool (myB p i u) ∧ G = H := by
 have g5 := g.fx
 refine F_body Tryd.func49 rfl u39 rfl ?_
 refine B_seq (B_region ?_)
 refine Lo u39 (v_boxT rfl rfl rfl) ?_
 refine Lo u39 (v_const (VVal.bool false) (.inr rfl) rfl) ?_
 refine L_nil (K_seq (B_seq (B_seq (B_region ?_))))
 refine Lo u39 (rfl) ?_
 refine Lo u39 (W58 rfl rfl rfl rfl) ?_
 refine Lo u39 (v_move (.inl rfl) rfl) ?_
 refine Lo u39 (W18 rfl rfl rfl rfl rfl rfl rfl) ?_
 refine Lo u39 (W58 rfl rfl rfl rfl) ?_
 refine Lo u39 (rfl) ?_
 refine L_nil (K_seq ?_)
 refine B_cond _ rfl (fun hc1 => ?_) (fun hc1 => ?_)
 ·try simp only [qB, qN] at hc1
  refine B_seq (B_region ?_)
  refine Lo u39 (v_move (.inl rfl) rfl) ?_
  refine Lo u39 (rfl) ?_
  refine Lo u39 (W58 rfl rfl rfl rfl) ?_
  refine Lo u39 (v_move (.inl rfl) rfl) ?_
  refine Lo u39 (W18 rfl rfl rfl rfl rfl rfl rfl) ?_
  refine Lo u39 (W58 rfl rfl rfl rfl) ?_
  refine Lo u39 (rfl) ?_
  refine Lo u39 (v_move (.inr rfl) rfl) ?_
  refine L_nil (K_seq (B_ret (K_seqR ?_)))
  refine W10 (.inr rfl) (vres_tmp rfl rfl) ?_
  exact W5b
 ·try simp only [qB, qN] at hc1
  refine B_skip (K_seq (B_seq (B_region ?_)))
  refine Lo u39 (v_move (.inl rfl) rfl) ?_
  refine Lo u39 (rfl) ?_
  refine Lo u39 (v_move (.inl rfl) rfl) ?_
  refine L_split 22 (env1 := u39) (env2 := u39) rfl rfl rfl (fun hg2 => ?_) (fun hg2 => ?_)
  ·try simp only [qB, qN] at hg2
   refine Lo u39 (v_move (.inl rfl) rfl) ?_
   refine Lo u39 (rfl) ?_
   refine Lo u39 (W58 rfl rfl rfl rfl) ?_
   refine Lo u39 (rfl) ?_
   refine Lo u39 (v_pickT rfl rfl rfl) ?_
   refine Lo u39 (v_move (.inl rfl) rfl) ?_
   refine L_split 28 (env1 := u39) (env2 := u39) rfl rfl rfl (fun hg3 => ?_) (fun hg3 => ?_)
   ·try simp only [qB, qN] at hg3
    refine Lo u39 (rfl) ?_
    refine Lo u39 (W58 rfl rfl rfl rfl) ?_
    refine Lo u39 (v_move (.inl rfl) rfl) ?_
    refine Lo u39 (W18 rfl rfl rfl rfl rfl rfl rfl) ?_
    refine Lo u39 (W58 rfl rfl rfl rfl) ?_
    refine Lo u39 (v_move (.inl rfl) rfl) ?_
    refine Lo u39 (v_shrW rfl rfl rfl (by first | assumption | omega | (simp [*]; done) | (simp at *; omega))) ?_
    refine Lo u39 (v_andW (b := 1#64) rfl rfl rfl) ?_
    refine Lo u39 (rfl) ?_
    refine Lo u39 (v_pickT rfl rfl rfl) ?_
    refine Lo u39 (v_move (.inr rfl) rfl) ?_
    refine L_nil (K_seq (B_ret ?_))
    refine W10 (.inr rfl) (vres_tmp rfl rfl) ?_
    exact W5b
   ·try simp only [qB, qN] at hg3
    refine Lf u39 ?_
    refine Lf u39 ?_
    refine Lf u39 ?_
    refine Lf u39 ?_
    refine Lf u39 ?_
    refine Lf u39 ?_
    refine Lf u39 ?_
    refine Lf u39 ?_
    refine Lf u39 ?_
    refine Lo u39 (v_pickFC (VVal.bool false) rfl rfl rfl) ?_
    refine Lo u39 (v_move (.inr rfl) rfl) ?_
    refine L_nil (K_seq (B_ret ?_))
    refine W10 (.inr rfl) (vres_tmp rfl rfl) ?_
    exact W5b
  ·try simp only [qB, qN] at hg2
   refine Lf u39 ?_
   refine Lf u39 ?_
   refine Lf u39 ?_
   refine Lf u39 ?_
   refine Lo u39 (v_pickFC (VVal.bool false) rfl rfl rfl) ?_
   refine Lo u39 (v_move (.inl rfl) rfl) ?_
   refine Lf u39 ?_
   refine Lf u39 ?_
   refine Lf u39 ?_
   refine Lf u39 ?_
   refine Lf u39 ?_
   refine Lf u39 ?_
   refine Lf u39 ?_
   refine Lf u39 ?_
   refine Lf u39 ?_
   refine Lo u39 (v_pickFC (VVal.bool false) rfl rfl rfl) ?_
   refine Lo u39 (v_move (.inr rfl) rfl) ?_
   refine L_nil (K_seq (B_ret ?_))
   refine W10 (.inr rfl) (vres_tmp rfl rfl) ?_
   exact W5b
end Go.Proofs.YtnbihdflnjpinaaDoor.VT

set_option autoImplicit false
set_option linter.unusedVariables false
set_option linter.unusedSimpArgs false
set_option maxHeartbeats 4000000
set_option maxRecDepth 100000
namespace Go.Proofs.YtnbihdflnjpinaaDoor.VT
open Go Go.V Go.RowKit
abbrev u26 {a0 a1 a2 a3 a4 a5 a6 a7 a8 a9 a10 a11 a12 a13 a14 a15 a16 a17 a18 a19 a20 a21 a22 a23 a24 a25 : VVal} : VEnv := a0 :: a1 :: a2 :: a3 :: a4 :: a5 :: a6 :: a7 :: a8 :: a9 :: a10 :: a11 :: a12 :: a13 :: a14 :: a15 :: a16 :: a17 :: a18 :: a19 :: a20 :: a21 :: a22 :: a23 :: a24 :: a25 :: []
abbrev u41 {a0 a1 a2 a3 a4 a5 a6 a7 a8 a9 a10 a11 a12 a13 a14 a15 a16 a17 a18 a19 a20 a21 a22 a23 a24 a25 a26 a27 a28 a29 a30 a31 a32 a33 a34 a35 a36 a37 a38 a39 a40 : VVal} : VEnv := a0 :: a1 :: a2 :: a3 :: a4 :: a5 :: a6 :: a7 :: a8 :: a9 :: a10 :: a11 :: a12 :: a13 :: a14 :: a15 :: a16 :: a17 :: a18 :: a19 :: a20 :: a21 :: a22 :: a23 :: a24 :: a25 :: a26 :: a27 :: a28 :: a29 :: a30 :: a31 :: a32 :: a33 :: a34 :: a35 :: a36 :: a37 :: a38 :: a39 :: a40 :: []
theorem kInts_spec {x : SW} (H : VHeap) (l r : List (Int)) (h1 : l.length ≤ 1000000) : F (psys x) 24 [fzI l, fzI r] H fun v G => v = .bool (decide (l = r)) ∧ G = H := by
 refine F_body Tryd.func24 rfl u26 rfl ?_
 refine B_seq (B_region ?_)
 refine Lo u26 (v_const (VVal.bool false) (.inr rfl) rfl) ?_
 refine L_nil (K_seq (B_seq (B_seq (B_region ?_))))
 refine Lo u26 (v_move (.inl rfl) rfl) ?_
 refine Lo u26 (rfl) ?_
 refine Lo u26 (v_move (.inl rfl) rfl) ?_
 refine Lo u26 (rfl) ?_
 refine Lo u26 (rfl) ?_
 refine L_nil (K_seq ?_)
 refine B_cond _ rfl (fun hc1 => ?_) (fun hc1 => ?_)
 ·try simp only [qB, qN] at hc1
  refine B_seq (B_region ?_)
  refine Lo u26 (v_const (VVal.bool false) (.inr rfl) rfl) ?_
  refine L_nil (K_seq (B_ret (K_seqR ?_)))
  refine W10 (.inr rfl) (vres_tmp rfl rfl) ?_
  exact ⟨by rw [decide_eq_false (fun e => by rw [e] at hc1; omega)], rfl⟩
 ·try simp only [qB, qN] at hc1
  refine B_skip (K_seq (B_seq (B_seq (B_region ?_))))
  refine Lo u26 (v_const (VVal.int .i64 0) (.inr rfl) rfl) ?_
  refine L_nil (K_seq (B_block ?_))
  refine B_clear (mk 26 67108828) (env' := u26) rfl ?_
  refine B_loopE (fun (k : Nat) => l.length - k) (fun (k : Nat) => [(5, iI (k : Nat))]) (fun (k : Nat) G => (k ≤ l.length ∧ ∀ j, j < k → l.getD j 0 = r.getD j 0) ∧ G = H ++ []) 0 rfl ?_ ?_
  ·refine ⟨?_, rfl⟩
   exact ⟨Nat.zero_le _, fun j h => by omega⟩
  rintro k _ ⟨⟨hk, hall⟩, rfl⟩
  refine B_env (env' := u26) rfl ?_
  refine B_seq (B_seq (B_region ?_))
  refine Lo u26 (v_move (.inl rfl) rfl) ?_
  refine Lo u26 (v_move (.inl rfl) rfl) ?_
  refine Lo u26 (rfl) ?_
  refine Lo u26 (rfl) ?_
  refine L_nil (K_seq ?_)
  refine B_cond _ rfl (fun hc2 => ?_) (fun hc2 => ?_)
  ·try simp only [qB, qN] at hc2
   refine B_skip (K_seq (B_seq (B_block (B_seq ?_))))
   refine B_draw [0, 1, 2, 3, 4, 5, 6, 7, 8] #[0, 0, 3, 7, 0, 0, 48, 112, 255] (by kernel_rfl) (by kernel_rfl) (by kernel_rfl) ?_
   refine Oo u26 .calm rfl (v_move (.inl rfl) rfl) ?_
   refine Oo u26 .calm rfl (v_move (.inl rfl) rfl) ?_
   refine Oo u26 .calm rfl (W18 rfl rfl rfl rfl rfl rfl rfl) ?_
   refine Oo u26 .look rfl (W3l rfl rfl rfl rfl) ?_
   refine Oo u26 .calm rfl (v_move (.inl rfl) rfl) ?_
   refine Oo u26 .calm rfl (v_move (.inl rfl) rfl) ?_
   refine Oo u26 .calm rfl (W18 rfl rfl rfl rfl rfl rfl rfl) ?_
   refine Oo u26 .look rfl (W3l rfl rfl rfl rfl) ?_
   refine Oo u26 .calm rfl (rfl) ?_
   refine O_nil [] (by kernel_rfl) (trivial) ?_
   refine K_seq ?_
   refine B_cond _ rfl (fun hc3 => ?_) (fun hc3 => ?_)
   ·try simp only [qB, qN] at hc3
    refine B_seq (B_region ?_)
    refine Lo u26 (v_const (VVal.bool false) (.inr rfl) rfl) ?_
    refine L_nil (K_seq (B_ret (K_blkR (K_seqR (K_loopR (K_blkR (K_seqR ?_)))))))
    refine W10 (.inr rfl) (vres_tmp rfl rfl) ?_
    exact ⟨by rw [decide_eq_false (fun e => by subst e; exact hc3 rfl)], rfl⟩
   ·try simp only [qB, qN] at hc3
    refine B_skip (K_blk (K_seq (B_region ?_)))
    refine Lo u26 (v_move (.inl rfl) rfl) ?_
    refine Lo u26 (W14 rfl rfl rfl) ?_
    refine Lo u26 (v_move (.inr rfl) rfl) ?_
    refine L_nil ?_
    refine K_loop (mk 26 67108828) (env' := u26) rfl ⟨k + 1, ?_, rfl, ?_⟩
    ·first | omega | (simp only []; omega)
    ·exact ⟨⟨by omega, fun j hj => by by_cases e : j = k; (subst e; assumption); exact hall j (by omega)⟩, rfl⟩
  ·try simp only [qB, qN] at hc2
   refine B_exit (K_seqX (K_loopX (K_blkX (K_seq (B_seq (B_region ?_))))))
   refine Lo u26 (v_const (VVal.bool true) (.inr rfl) rfl) ?_
   refine L_nil (K_seq (B_ret ?_))
   refine W10 (.inr rfl) (vres_tmp rfl rfl) ?_
   have e := eq_getD (d := 0) (by omega) (fun j hj => hall j (by omega))
   exact ⟨by rw [decide_eq_true e], rfl⟩
def pw : Pb := (3, [3#64, 3#64, 4#64], [-1, -1, -1], [(1, 0, [0, 1], ())], ())
theorem wk_le : leA pw = some [0, 1, 2] := by decide +kernel
theorem pw_L : PbL pw := ⟨by decide, by decide, by decide, by decide, fun r hr => by
  have hr : r ∈ [((1 : Int), (0 : Int), [(0 : Int), 1], ())] := hr
  rw [List.mem_singleton] at hr; subst hr; decide⟩
theorem wk_h : hds pw [0, 1, 2] = true := by decide +kernel
theorem wk_c : pck pw = 0 := by decide +kernel
theorem wk_t : leT (leA pw) = .tuple [fzI [0, 1, 2], .bool true] := by rw [wk_le]; rfl
theorem at_get {H L : VHeap} {k : VBlk} : (H ++ k :: L)[H.length]? = some k := by rw [List.getElem?_append_right (Nat.le_refl _), Nat.sub_self]; rfl
theorem at_set {H L : VHeap} {k k' : VBlk} : (H ++ k :: L).set H.length k' = H ++ k' :: L := by rw [List.set_append_right _ _ (Nat.le_refl _), Nat.sub_self]; rfl
theorem sLeast_at {x : SW} (H L : VHeap) (g : Gz) (p : Pb) (hp : PbL p) : F (psys x) 22 [.ptr (some (H.length, 0)), .agg (pbB p)] (H ++ gaB g :: L) fun v G => v = leT (leA p) ∧ G = H ++ gaB (g + leG p) :: L := by
  have := sLeast_spec (x := x) (H ++ gaB g :: L) H.length g at_get p hp
  rw [at_set] at this; exact this
theorem Can_at {x : SW} (H L : VHeap) (g : Gz) (p : Pb) (hp : PbL p) : F (psys x) 25 [.ptr (some (H.length, 0)), .agg (pbB p)] (H ++ gaB g :: L) fun v G => v = .bool (leA p).isSome ∧ G = H ++ gaB (g + leG p) :: L := by
  have := Can_spec (x := x) (H ++ gaB g :: L) H.length g at_get p hp
  rw [at_set] at this; exact this
theorem wakes_spec {x : SW} (H : VHeap) : F (psys x) 19 [] H fun v G => v = .bool true ∧ G = H := by
 refine F_body Tryd.func19 rfl u41 rfl ?_
 refine B_seq (B_region ?_)
 refine Lo u41 (v_const (VVal.bool false) (.inr rfl) rfl) ?_
 refine L_nil (K_seq (B_seq (B_region ?_)))
 refine L_call rfl rfl rfl (by exact sNew_spec _) ?_
 rintro _ _ ⟨rfl, rfl⟩; rw [List.append_nil]
 refine Le u41 ?_
 refine Lo u41 (v_move (.inr rfl) rfl) ?_
 refine L_nil (K_seq (B_seq (B_seq (B_region ?_))))
 refine Lo u41 (v_move (.inl rfl) rfl) ?_
 refine Lo u41 (v_is false rfl rfl) ?_
 refine L_nil (K_seq ?_)
 refine B_false rfl rfl ?_
 refine B_skip (K_seq (B_seq (B_region ?_)))
 refine Lo u41 (v_buildSlice rfl rfl (by decide) rfl) ?_
 refine Lo u41 (v_buildSlice rfl rfl (by decide) rfl) ?_
 refine Lo u41 (v_buildSlice rfl rfl (by decide) rfl) ?_
 refine Lo u41 (rfl) ?_
 refine Lo u41 (v_buildSlice rfl rfl (by decide) rfl) ?_
 refine Lo u41 (rfl) ?_
 refine Lo u41 (v_alloc rfl rfl) ?_
 refine Lo u41 (W13 rfl rfl rfl rfl rfl rfl rfl) ?_
 refine L_nil (K_seq (B_seq (B_region ?_)))
 refine L_gh (Gh.cellL (l := [iI 0, iI 1]) 4 2 3 rfl rfl (by decide) rfl rfl (Nat.le_refl _)) ?_
 refine L_gh (Gh.cellL (l := [iW 3#64, iW 3#64, iW 4#64]) 5 1 1 rfl rfl (by decide) rfl rfl (Nat.le_refl _)) ?_
 refine L_gh (Gh.cellL (l := [iI (-1), iI (-1), iI (-1)]) 5 2 2 rfl rfl (by decide) rfl rfl (Nat.le_refl _)) ?_
 refine L_gh (Gh.cellL (l := rlB (1, 0, [0, 1], ())) 5 3 4 rfl rfl (by decide) rfl rfl (Nat.le_refl _)) ?_
 refine Lo u41 (v_move (.inl rfl) rfl) ?_
 refine Lo u41 (W11 rfl rfl rfl rfl rfl) ?_
 refine L_call rfl rfl rfl (by exact sLeast_at H _ 0 pw pw_L) ?_
 rintro v _ ⟨hv, rfl⟩; rw [wk_t] at hv; subst hv
 refine Le u41 ?_
 refine Lo u41 (v_move (.inl rfl) rfl) ?_
 refine Lo u41 (rfl) ?_
 refine Lo u41 (rfl) ?_
 refine Lo u41 (v_move (.inr rfl) rfl) ?_
 refine Lo u41 (v_move (.inr rfl) rfl) ?_
 refine L_nil (K_seq (B_seq (B_region ?_)))
 refine Lo u41 (v_move (.inl rfl) rfl) ?_
 refine Lo u41 (v_move (.inl rfl) rfl) ?_
 refine Lo u41 (v_move (.inl rfl) rfl) ?_
 refine Lo u41 (v_buildSlice rfl rfl (by decide) rfl) ?_
 refine L_gh (Gh.freezeL (l := [iI 0, iI 1, iI 2]) 23 6 rfl rfl rfl (Nat.le_refl _) rfl) ?_
 refine L_call rfl rfl rfl (by exact kInts_spec _ [0, 1, 2] [0, 1, 2] (by decide)) ?_
 rintro v _ ⟨hv, rfl⟩; obtain rfl : v = .bool true := hv.trans (congrArg VVal.bool (by decide))
 refine Le u41 ?_
 refine Lo u41 (v_pickT rfl rfl rfl) ?_
 refine Lo u41 (v_move (.inl rfl) rfl) ?_
 refine Lo u41 (v_move (.inl rfl) rfl) ?_
 refine Lo u41 (W11 rfl rfl rfl rfl rfl) ?_
 refine L_call rfl rfl rfl (by exact Can_at H _ (0 + leG pw) pw pw_L) ?_
 rintro v _ ⟨hv, rfl⟩; obtain rfl : v = .bool true := hv.trans (congrArg VVal.bool (by rw [wk_le]; rfl))
 refine Le u41 ?_
 refine Lo u41 (v_pickT rfl rfl rfl) ?_
 refine Lo u41 (v_move (.inl rfl) rfl) ?_
 refine Lo u41 (W11 rfl rfl rfl rfl rfl) ?_
 refine Lo u41 (v_move (.inl rfl) rfl) ?_
 refine L_call rfl rfl rfl (by exact Holds_spec _ pw [0, 1, 2] pw_L (by decide)) ?_
 rintro v _ ⟨hv, rfl⟩; obtain rfl : v = .bool true := hv.trans (congrArg VVal.bool wk_h)
 refine Le u41 ?_
 refine Lo u41 (v_pickT rfl rfl rfl) ?_
 refine Lo u41 (v_move (.inl rfl) rfl) ?_
 refine Lo u41 (W11 rfl rfl rfl rfl rfl) ?_
 refine L_call rfl rfl rfl (by exact sCheck_spec _ pw pw_L) ?_
 rintro v _ ⟨hv, rfl⟩; rw [wk_c] at hv; subst hv
 refine Le u41 ?_
 refine Lo u41 (rfl) ?_
 refine Lo u41 (v_pickT rfl rfl rfl) ?_
 refine Lo u41 (v_move (.inr rfl) rfl) ?_
 refine L_nil (K_seq (B_ret ?_))
 refine W10 (.inr rfl) (vres_tmp rfl rfl) ?_
 exact ⟨rfl, rfl⟩
end Go.Proofs.YtnbihdflnjpinaaDoor.VT

set_option autoImplicit false
set_option linter.unusedVariables false
set_option linter.unusedSimpArgs false
set_option maxHeartbeats 4000000
set_option maxRecDepth 100000
namespace Go.Proofs.YtnbihdflnjpinaaDoor.VT
open Go Go.V Go.RowKit
abbrev u102 {a0 a1 a2 a3 a4 a5 a6 a7 a8 a9 a10 a11 a12 a13 a14 a15 a16 a17 a18 a19 a20 a21 a22 a23 a24 a25 a26 a27 a28 a29 a30 a31 a32 a33 a34 a35 a36 a37 a38 a39 a40 a41 a42 a43 a44 a45 a46 a47 a48 a49 a50 a51 a52 a53 a54 a55 a56 a57 a58 a59 a60 a61 a62 a63 a64 a65 a66 a67 a68 a69 a70 a71 a72 a73 a74 a75 a76 a77 a78 a79 a80 a81 a82 a83 a84 a85 a86 a87 a88 a89 a90 a91 a92 a93 a94 a95 a96 a97 a98 a99 a100 a101 : VVal} : VEnv := a0 :: a1 :: a2 :: a3 :: a4 :: a5 :: a6 :: a7 :: a8 :: a9 :: a10 :: a11 :: a12 :: a13 :: a14 :: a15 :: a16 :: a17 :: a18 :: a19 :: a20 :: a21 :: a22 :: a23 :: a24 :: a25 :: a26 :: a27 :: a28 :: a29 :: a30 :: a31 :: a32 :: a33 :: a34 :: a35 :: a36 :: a37 :: a38 :: a39 :: a40 :: a41 :: a42 :: a43 :: a44 :: a45 :: a46 :: a47 :: a48 :: a49 :: a50 :: a51 :: a52 :: a53 :: a54 :: a55 :: a56 :: a57 :: a58 :: a59 :: a60 :: a61 :: a62 :: a63 :: a64 :: a65 :: a66 :: a67 :: a68 :: a69 :: a70 :: a71 :: a72 :: a73 :: a74 :: a75 :: a76 :: a77 :: a78 :: a79 :: a80 :: a81 :: a82 :: a83 :: a84 :: a85 :: a86 :: a87 :: a88 :: a89 :: a90 :: a91 :: a92 :: a93 :: a94 :: a95 :: a96 :: a97 :: a98 :: a99 :: a100 :: a101 :: []
theorem W5n {S : V.Sys} {H : VHeap} {fn : Func} {ex : Exit} {env : VEnv} {B L : VHeap} {v : VVal} {R : VVal → VHeap → Prop} (hx : ex = .normal ∨ ex = .ret) (hv : vresults S.C.T env (B ++ L) fn.results = some v) (h : R v B) (hB : BaseOk H B := by first | exact BaseOk.refl _ | exact BaseOk.set (BaseOk.refl _) _ rfl) (hu : v.under H.length = true := by first | rfl | exact pb_under (p := cutP p)) : fnK S fn H R ex env (B ++ L) := E_app hx hv hB hu h
abbrev nilS : VVal := .slice none 0 0 true 0
abbrev pqB (u : Int) (a b c : VVal) : VBlk := .cells [iI u, a, b, c] true
def cutR (r : Rul) : Rul := (r.kind, r.k, r.steps.take 20, ())
def cutP (p : Pb) : Pb := (p.users, p.who.take 20, p.fixed.take 20, (p.rules.take 40).map cutR, ())
theorem take_end {α : Type} {l : List α} {k m : Nat} (h1 : k ≤ m) (h2 : ¬ (k < l.length ∧ k < m)) : l.take k = l.take m := by
  by_cases h : k = m
  · rw [h]
  · rw [List.take_of_length_le (by omega), List.take_of_length_le (by omega)]
theorem cutR_step {l : List Rul} {m : Nat} (h : m < l.length) : (l.take (m + 1)).map cutR = (l.take m).map cutR ++ [cutR (l.getD m r0)] := by rw [take_at (d := r0) h, List.map_append]; rfl
theorem cutP_L {p : Pb} (h : -9223372036854775808 ≤ p.users ∧ p.users < 9223372036854775808) : PbL (cutP p) :=
  ⟨h, by show (List.take 20 _).length ≤ _; rw [List.length_take]; omega, by show (List.take 20 _).length ≤ _; rw [List.length_take]; omega, by show ((List.take 40 _).map cutR).length ≤ _; rw [List.length_map, List.length_take]; omega,
    fun r hr => by
      obtain ⟨r1, _, rfl⟩ := List.mem_map.1 hr
      show (List.take 20 _).length ≤ _
      rw [List.length_take]; omega⟩
theorem cutP_2 {p : Pb} : cutP (cutP p) = cutP p := by
  unfold cutP
  show (p.users, (p.who.take 20).take 20, (p.fixed.take 20).take 20, ((((p.rules.take 40).map cutR)).take 40).map cutR, ()) = _
  rw [List.take_take, List.take_take, ← List.map_take, List.take_take, List.map_map]
  congr 1; congr 1; congr 1; congr 1
  apply List.map_congr_left
  intro r _
  show cutR (cutR r) = cutR r
  unfold cutR
  show (r.kind, r.k, (r.steps.take 20).take 20, ()) = _
  rw [List.take_take]; rfl
theorem Cut_spec {x : SW} (H : VHeap) (p : Pb) : F (psys x) 13 [.agg (pbB p)] H fun v G => v = .agg (pbB (cutP p)) ∧ G = H := by
 refine F_body Tryd.func13 rfl u102 rfl ?_
 refine B_seq (B_region ?_)
 refine Lo u102 (v_boxT rfl rfl rfl) ?_
 refine Lo u102 (v_alloc rfl rfl) ?_
 refine L_nil (K_seq (B_seq (B_region ?_)))
 refine L_gh (Gh.freezePtrL (cs := pbB p) 1 0 rfl rfl rfl) ?_
 refine Lo u102 (rfl) ?_
 refine Lo u102 (W39 rfl rfl rfl rfl) ?_
 refine Lo u102 (rfl) ?_
 refine Lo u102 (v_alloc rfl rfl) ?_
 refine Lo u102 (W13 rfl rfl rfl rfl rfl rfl rfl) ?_
 refine L_nil (K_seq ?_)
 refine B_seqJ (mk 102 5070602400912917605986812821489) (fun (u0 : Unit) => []) (fun (u0 : Unit) G => (True) ∧ ∃ lv X, G = (H ++ [VBlk.dead, pqB 0 nilS nilS nilS, pqB p.users lv nilS nilS]) ++ X ∧ LV (H.length + 3) 1 X lv ((p.who.take 20).map iW) (p.who.take 20).length) ?_ ?_
 ·skip
  refine B_seq (B_region ?_)
  refine Lo u102 (v_const (VVal.int .i64 0) (.inr rfl) rfl) ?_
  refine L_nil (K_seq (B_block ?_))
  refine B_clear (mk 102 5070602400912917605986812821473) (env' := u102) rfl ?_
  refine B_loopE (fun (k : Nat) => p.who.length - k) (fun (k : Nat) => [(4, iI (k : Nat))]) (fun (k : Nat) G => (k ≤ p.who.length ∧ k ≤ 20) ∧ ∃ lv X, G = (H ++ [VBlk.dead, pqB 0 nilS nilS nilS, pqB p.users lv nilS nilS]) ++ X ∧ LV (H.length + 3) 1 X lv (((p.who).take k).map iW) ((p.who).take k).length) 0 rfl ?_ ?_
  ·refine ⟨?_, ⟨_, [], (List.append_nil _).symm, LV.nil _ _ _⟩⟩
   exact ⟨Nat.zero_le _, Nat.zero_le _⟩
  rintro k _ ⟨⟨hk1, hk2⟩, ⟨lv, X, rfl, hl⟩⟩
  refine B_env (env' := u102) rfl ?_
  refine B_seq (B_seq (B_region ?_))
  refine Lo u102 (v_move (.inl rfl) rfl) ?_
  refine Lo u102 (rfl) ?_
  refine Lo u102 (W39 rfl rfl rfl rfl) ?_
  refine Lo u102 (rfl) ?_
  refine Lo u102 (rfl) ?_
  refine Lo u102 (v_move (.inl rfl) rfl) ?_
  refine L_split 18 (env1 := u102) (env2 := u102) rfl rfl rfl (fun hg1 => ?_) (fun hg1 => ?_)
  ·try simp only [qB, qN] at hg1
   refine Lo u102 (v_move (.inl rfl) rfl) ?_
   refine Lo u102 (rfl) ?_
   refine Lo u102 (v_pickT rfl rfl rfl) ?_
   refine L_nil (K_seq ?_)
   refine B_cond _ rfl (fun hc2 => ?_) (fun hc2 => ?_)
   ·try simp only [qB, qN] at hc2
    refine B_skip (K_seq (B_seq (B_block ?_)))
    refine B_draw [0, 1, 2, 3, 4, 5, 6, 7, 8, 9, 10] #[0, 1, 0, 4, 0, 28, 60, 124, 255, 511, 1023] (by kernel_rfl) (by kernel_rfl) (by kernel_rfl) ?_
    refine Oo u102 .calm rfl (rfl) ?_
    refine Oo u102 .look rfl (W39 rfl rfl rfl rfl) ?_
    refine Oo u102 .calm rfl (rfl) ?_
    refine Oo u102 .look rfl (W39 rfl rfl rfl rfl) ?_
    refine Oo u102 .calm rfl (v_move (.inl rfl) rfl) ?_
    refine Oo u102 .calm rfl (W18 rfl rfl rfl rfl rfl rfl rfl) ?_
    refine Oo u102 .look rfl (W39 rfl rfl rfl rfl) ?_
    refine Oo u102 .grow rfl (v_buildSlice rfl rfl (by decide) rfl) ?_
    refine O_opX .turn rfl rfl rfl (v_appXh rfl rfl rfl rfl rfl rfl rfl (by simp) hl rfl rfl (by decide) (by rw [List.length_take]; show (_ + 1) * 8 ≤ _ ∧ _ + 1 ≤ _; omega) (by decide)) rfl rfl ?_
    rintro _ _ ⟨Y1, rfl, rfl, hY1, hY2, hY3⟩
    refine O_env (env' := u102) rfl ?_
    refine Oo u102 .calm rfl (rfl) ?_
    refine Oo u102 .turn rfl (W13 rfl rfl rfl rfl rfl rfl rfl) ?_
    refine O_nil [] (by kernel_rfl) (trivial) ?_
    refine K_blk (K_seq (B_region ?_))
    refine Lo u102 (v_move (.inl rfl) rfl) ?_
    refine Lo u102 (W14 rfl rfl rfl) ?_
    refine Lo u102 (v_move (.inr rfl) rfl) ?_
    refine L_nil ?_
    refine K_loop (mk 102 5070602400912917605986812821473) (env' := u102) rfl ⟨k + 1, ?_, rfl, ?_⟩
    ·first | omega | (simp only []; omega)
    ·exact ⟨⟨by omega, by omega⟩, _, _, rfl, by rw [take_at (d := 0) (by omega)]; exact LV.pushW hY3⟩
   ·try simp only [qB, qN] at hc2
    refine B_exit (K_seqX (K_loopX (K_blkX ?_)))
    refine K_loop (mk 102 5070602400912917605986812821489) (env' := u102) rfl ⟨(), rfl, ?_⟩
    exact ⟨trivial, _, _, rfl, by rw [← take_end (m := 20) hk2 (by omega)]; exact hl⟩
  ·try simp only [qB, qN] at hg1
   refine Lf u102 ?_
   refine Lf u102 ?_
   refine Lo u102 (v_pickFC (VVal.bool false) rfl rfl rfl) ?_
   refine L_nil (K_seq ?_)
   refine B_false rfl rfl ?_
   refine B_exit (K_seqX (K_loopX (K_blkX ?_)))
   refine K_loop (mk 102 5070602400912917605986812821489) (env' := u102) rfl ⟨(), rfl, ?_⟩
   exact ⟨trivial, _, _, rfl, by rw [← take_end (m := 20) hk2 (by omega)]; exact hl⟩
 ·rintro u0 _ ⟨_, ⟨lv, X, rfl, hl⟩⟩
  refine B_env (env' := u102) rfl ?_
  refine B_seqJ (mk 102 5070602400912917605986812821489) (fun (u0 : Unit) => []) (fun (u0 : Unit) G => (True) ∧ ∃ lv X, G = (H ++ [VBlk.dead, pqB 0 nilS nilS nilS, pqB p.users (fzW (p.who.take 20)) lv nilS]) ++ X ∧ LV (H.length + 3) 1 X lv ((p.fixed.take 20).map iI) (p.fixed.take 20).length) ?_ ?_
  ·skip
   refine B_seq ?_
   refine B_ghCell 2 1 hl rfl rfl (by simp) fun X1 _ _ => ?_
   refine B_region ?_
   refine Lo u102 (v_const (VVal.int .i64 0) (.inr rfl) rfl) ?_
   refine L_nil (K_seq (B_block ?_))
   refine B_clear (mk 102 5070602400912917605986812821457) (env' := u102) rfl ?_
   refine B_loopE (fun (j : Nat) => p.fixed.length - j) (fun (j : Nat) => [(5, iI (j : Nat))]) (fun (j : Nat) G => (j ≤ p.fixed.length ∧ j ≤ 20) ∧ ∃ lv X, G = (H ++ [VBlk.dead, pqB 0 nilS nilS nilS, pqB p.users (fzW (p.who.take 20)) lv nilS]) ++ X ∧ LV (H.length + 3) 1 X lv (((p.fixed).take j).map iI) ((p.fixed).take j).length) 0 rfl ?_ ?_
   ·refine ⟨?_, ⟨_, X1, rfl, LV.nil _ _ _⟩⟩
    exact ⟨Nat.zero_le _, Nat.zero_le _⟩
   rintro j _ ⟨⟨hj1, hj2⟩, ⟨lv, X, rfl, hl⟩⟩
   refine B_env (env' := u102) rfl ?_
   refine B_seq (B_seq (B_region ?_))
   refine Lo u102 (v_move (.inl rfl) rfl) ?_
   refine Lo u102 (rfl) ?_
   refine Lo u102 (W39 rfl rfl rfl rfl) ?_
   refine Lo u102 (rfl) ?_
   refine Lo u102 (rfl) ?_
   refine Lo u102 (v_move (.inl rfl) rfl) ?_
   refine L_split 39 (env1 := u102) (env2 := u102) rfl rfl rfl (fun hg3 => ?_) (fun hg3 => ?_)
   ·try simp only [qB, qN] at hg3
    refine Lo u102 (v_move (.inl rfl) rfl) ?_
    refine Lo u102 (rfl) ?_
    refine Lo u102 (v_pickT rfl rfl rfl) ?_
    refine L_nil (K_seq ?_)
    refine B_cond _ rfl (fun hc4 => ?_) (fun hc4 => ?_)
    ·try simp only [qB, qN] at hc4
     refine B_skip (K_seq (B_seq (B_block ?_)))
     refine B_draw [0, 1, 2, 3, 4, 5, 6, 7, 8, 9, 10] #[0, 1, 0, 4, 0, 28, 60, 124, 255, 511, 1023] (by kernel_rfl) (by kernel_rfl) (by kernel_rfl) ?_
     refine Oo u102 .calm rfl (rfl) ?_
     refine Oo u102 .look rfl (W39 rfl rfl rfl rfl) ?_
     refine Oo u102 .calm rfl (rfl) ?_
     refine Oo u102 .look rfl (W39 rfl rfl rfl rfl) ?_
     refine Oo u102 .calm rfl (v_move (.inl rfl) rfl) ?_
     refine Oo u102 .calm rfl (W18 rfl rfl rfl rfl rfl rfl rfl) ?_
     refine Oo u102 .look rfl (W39 rfl rfl rfl rfl) ?_
     refine Oo u102 .grow rfl (v_buildSlice rfl rfl (by decide) rfl) ?_
     refine O_opX .turn rfl rfl rfl (v_appXh rfl rfl rfl rfl rfl rfl rfl (by simp) hl rfl rfl (by decide) (by rw [List.length_take]; show (_ + 1) * 8 ≤ _ ∧ _ + 1 ≤ _; omega) (by decide)) rfl rfl ?_
     rintro _ _ ⟨Y1, rfl, rfl, hY1, hY2, hY3⟩
     refine O_env (env' := u102) rfl ?_
     refine Oo u102 .calm rfl (rfl) ?_
     refine Oo u102 .turn rfl (W13 rfl rfl rfl rfl rfl rfl rfl) ?_
     refine O_nil [] (by kernel_rfl) (trivial) ?_
     refine K_blk (K_seq (B_region ?_))
     refine Lo u102 (v_move (.inl rfl) rfl) ?_
     refine Lo u102 (W14 rfl rfl rfl) ?_
     refine Lo u102 (v_move (.inr rfl) rfl) ?_
     refine L_nil ?_
     refine K_loop (mk 102 5070602400912917605986812821457) (env' := u102) rfl ⟨j + 1, ?_, rfl, ?_⟩
     ·first | omega | (simp only []; omega)
     ·exact ⟨⟨by omega, by omega⟩, _, _, rfl, by rw [take_at (d := 0) (by omega)]; exact LV.pushI hY3⟩
    ·try simp only [qB, qN] at hc4
     refine B_exit (K_seqX (K_loopX (K_blkX ?_)))
     refine K_loop (mk 102 5070602400912917605986812821489) (env' := u102) rfl ⟨(), rfl, ?_⟩
     exact ⟨trivial, _, _, rfl, by rw [← take_end (m := 20) hj2 (by omega)]; exact hl⟩
   ·try simp only [qB, qN] at hg3
    refine Lf u102 ?_
    refine Lf u102 ?_
    refine Lo u102 (v_pickFC (VVal.bool false) rfl rfl rfl) ?_
    refine L_nil (K_seq ?_)
    refine B_false rfl rfl ?_
    refine B_exit (K_seqX (K_loopX (K_blkX ?_)))
    refine K_loop (mk 102 5070602400912917605986812821489) (env' := u102) rfl ⟨(), rfl, ?_⟩
    exact ⟨trivial, _, _, rfl, by rw [← take_end (m := 20) hj2 (by omega)]; exact hl⟩
  ·rintro u0 _ ⟨_, ⟨lv, X, rfl, hl⟩⟩
   refine B_env (env' := u102) rfl ?_
   refine B_seqJ (mk 102 5070602400912917605986812821491) (fun (u0 : Unit) => []) (fun (u0 : Unit) G => (True) ∧ ∃ lv X, G = (H ++ [VBlk.dead, pqB 0 nilS nilS nilS, pqB p.users (fzW (p.who.take 20)) (fzI (p.fixed.take 20)) lv]) ++ X ∧ LV (H.length + 3) 3 X lv (((p.rules.take 40).map cutR).flatMap rlB) ((p.rules.take 40).map cutR).length) ?_ ?_
   ·skip
    refine B_seq ?_
    refine B_ghCell 2 2 hl rfl rfl (by simp) fun X2 _ _ => ?_
    refine B_region ?_
    refine Lo u102 (v_const (VVal.int .i64 0) (.inr rfl) rfl) ?_
    refine L_nil (K_seq (B_block ?_))
    refine B_clear (mk 102 5070602400912917605986812821425) (env' := u102) rfl ?_
    refine B_loopE (fun (m : Nat) => p.rules.length - m) (fun (m : Nat) => [(6, iI (m : Nat))]) (fun (m : Nat) G => (m ≤ p.rules.length ∧ m ≤ 40) ∧ ∃ lv X, G = (H ++ [VBlk.dead, pqB 0 nilS nilS nilS, pqB p.users (fzW (p.who.take 20)) (fzI (p.fixed.take 20)) lv]) ++ X ∧ LV (H.length + 3) 3 X lv (((p.rules.take m).map cutR).flatMap rlB) ((p.rules.take m).map cutR).length) 0 rfl ?_ ?_
    ·refine ⟨?_, ⟨_, X2, rfl, LV.nil _ _ _⟩⟩
     exact ⟨Nat.zero_le _, Nat.zero_le _⟩
    rintro m _ ⟨⟨hm1, hm2⟩, ⟨lv, X, rfl, hl⟩⟩
    refine B_env (env' := u102) rfl ?_
    refine B_seq (B_seq (B_region ?_))
    refine Lo u102 (v_move (.inl rfl) rfl) ?_
    refine Lo u102 (rfl) ?_
    refine Lo u102 (W39 rfl rfl rfl rfl) ?_
    refine Lo u102 (rfl) ?_
    refine Lo u102 (rfl) ?_
    refine Lo u102 (v_move (.inl rfl) rfl) ?_
    refine L_split 60 (env1 := u102) (env2 := u102) rfl rfl rfl (fun hg5 => ?_) (fun hg5 => ?_)
    ·try simp only [qB, qN] at hg5
     refine Lo u102 (v_move (.inl rfl) rfl) ?_
     refine Lo u102 (rfl) ?_
     refine Lo u102 (v_pickT rfl rfl rfl) ?_
     refine L_nil (K_seq ?_)
     refine B_cond _ rfl (fun hc6 => ?_) (fun hc6 => ?_)
     ·try simp only [qB, qN] at hc6
      refine B_skip (K_seq (B_seq (B_block (B_seq (B_region ?_)))))
      refine Lo u102 (rfl) ?_
      refine Lo u102 (W39 rfl rfl rfl rfl) ?_
      refine Lo u102 (v_move (.inl rfl) rfl) ?_
      refine Lo u102 (W18 rfl rfl rfl rfl rfl rfl rfl) ?_
      refine Lo u102 (W3d rfl rfl rfl rfl rfl) ?_
      refine Lo u102 (v_alloc rfl rfl) ?_
      refine Lo u102 (W13 rfl rfl rfl rfl rfl rfl rfl) ?_
      refine L_nil (K_seq (B_seq ?_))
      refine B_gh (Gh.freezeEnd (cs := rlB (p.rules.getD m r0)) 7 rfl rfl) ?_
      refine B_region ?_
      refine Lo u102 (v_const (VVal.slice none 0 0 true 0) (.inr rfl) rfl) ?_
      refine L_nil (K_seq (B_seq (B_seq (B_region ?_))))
      refine Lo u102 (v_const (VVal.int .i64 0) (.inr rfl) rfl) ?_
      refine L_nil (K_seq (B_block ?_))
      refine B_clear (mk 102 5070602400912917605986812820529) (env' := u102) rfl ?_
      refine B_loopE (fun (⟨k, sv⟩ : Nat × VVal) => (p.rules.getD m r0).steps.length - k) (fun (⟨k, sv⟩ : Nat × VVal) => [(8, sv), (9, iI (k : Nat))]) (fun (⟨k, sv⟩ : Nat × VVal) G => (k ≤ (p.rules.getD m r0).steps.length ∧ k ≤ 20) ∧ ∃ X, G = (H ++ [VBlk.dead, pqB 0 nilS nilS nilS, pqB p.users (fzW (p.who.take 20)) (fzI (p.fixed.take 20)) lv]) ++ X ∧ LV (H.length + 3) 3 X lv (((p.rules.take m).map cutR).flatMap rlB) ((p.rules.take m).map cutR).length ∧ LV (H.length + 3) 1 X sv (((p.rules.getD m r0).steps.take k).map iI) ((p.rules.getD m r0).steps.take k).length ∧ ∀ n, vidx lv = some n → vidx sv ≠ some n) ⟨0, _⟩ rfl ?_ ?_
      ·refine ⟨?_, ⟨X ++ [.dead], rfl, LV.app hl _, LV.nil _ _ _, fun n _ e => by cases e⟩⟩
       exact ⟨Nat.zero_le _, Nat.zero_le _⟩
      rintro ⟨k, sv⟩ _ ⟨⟨hk1, hk2⟩, ⟨X3, rfl, hl3, hs, hd⟩⟩
      refine B_env (env' := u102) rfl ?_
      refine B_seq (B_seq (B_region ?_))
      refine Lo u102 (v_move (.inl rfl) rfl) ?_
      refine Lo u102 (rfl) ?_
      refine Lo u102 (W39 rfl rfl rfl rfl) ?_
      refine Lo u102 (rfl) ?_
      refine Lo u102 (rfl) ?_
      refine Lo u102 (v_move (.inl rfl) rfl) ?_
      refine L_split 76 (env1 := u102) (env2 := u102) rfl rfl rfl (fun hg7 => ?_) (fun hg7 => ?_)
      ·try simp only [qB, qN] at hg7
       refine Lo u102 (v_move (.inl rfl) rfl) ?_
       refine Lo u102 (rfl) ?_
       refine Lo u102 (v_pickT rfl rfl rfl) ?_
       refine L_nil (K_seq ?_)
       refine B_cond _ rfl (fun hc8 => ?_) (fun hc8 => ?_)
       ·try simp only [qB, qN] at hc8
        refine B_skip (K_seq (B_seq (B_block (B_region ?_))))
        refine Lo u102 (v_move (.inl rfl) rfl) ?_
        refine Lo u102 (rfl) ?_
        refine Lo u102 (W39 rfl rfl rfl rfl) ?_
        refine Lo u102 (v_move (.inl rfl) rfl) ?_
        refine Lo u102 (W18 rfl rfl rfl rfl rfl rfl rfl) ?_
        refine Lo u102 (W39 rfl rfl rfl rfl) ?_
        refine Lo u102 (v_buildSlice rfl rfl (by decide) rfl) ?_
        refine L_opX rfl rfl (v_appXh rfl rfl rfl rfl rfl rfl rfl (by simp) hs rfl rfl (by decide) (by rw [List.length_take]; show (_ + 1) * 8 ≤ _ ∧ _ + 1 ≤ _; omega) (by decide)) ?_
        rintro _ _ ⟨Y1, rfl, rfl, hY1, hY2, hY3⟩
        refine Le u102 ?_
        refine Lo u102 (v_move (.inr rfl) rfl) ?_
        refine L_nil (K_blk (K_seq (B_region ?_)))
        refine Lo u102 (v_move (.inl rfl) rfl) ?_
        refine Lo u102 (W14 rfl rfl rfl) ?_
        refine Lo u102 (v_move (.inr rfl) rfl) ?_
        refine L_nil ?_
        refine K_loop (mk 102 5070602400912917605986812820529) (env' := u102) rfl ⟨⟨k + 1, _⟩, ?_, rfl, ?_⟩
        ·first | omega | (simp only []; omega)
        ·exact ⟨⟨by omega, by omega⟩, _, rfl, LV.app (LV.keep hl3 hd hY2) _, by rw [take_at (d := 0) (by omega)]; exact LV.pushI hY3, LV.far hl3 (Nat.le_succ _)⟩
       ·try simp only [qB, qN] at hc8
        refine B_exit (K_seqX (K_loopX (K_blkX (K_seq ?_))))
        rw [take_end (m := 20) hk2 (by omega)] at hs
        refine B_ghLVh (env' := u102) 8 hs (by simp) rfl rfl fun X4 hX4 hF4 => ?_
        have hl4 := LV.keep hl3 hd hF4
        refine B_region ?_
        refine Lo u102 (rfl) ?_
        refine Lo u102 (W39 rfl rfl rfl rfl) ?_
        refine Lo u102 (rfl) ?_
        refine Lo u102 (W39 rfl rfl rfl rfl) ?_
        refine Lo u102 (rfl) ?_
        refine Lo u102 (W39 rfl rfl rfl rfl) ?_
        refine Lo u102 (v_move (.inl rfl) rfl) ?_
        refine Lo u102 (rfl) ?_
        refine Lo u102 (v_buildSlice rfl rfl (by decide) rfl) ?_
        refine L_opX rfl rfl (v_appXh rfl rfl rfl rfl rfl rfl rfl (by simp) hl4 rfl rfl (by decide) (by rw [List.length_map, List.length_take]; show (_ + 1) * 40 ≤ _ ∧ _ + 1 ≤ _; omega) (by decide)) ?_
        rintro _ _ ⟨Y1, rfl, rfl, hY1, hY2, hY3⟩
        refine Le u102 ?_
        refine Lo u102 (rfl) ?_
        refine Lo u102 (W13 rfl rfl rfl rfl rfl rfl rfl) ?_
        refine L_nil (K_blk (K_seq (B_region ?_)))
        refine Lo u102 (v_move (.inl rfl) rfl) ?_
        refine Lo u102 (W14 rfl rfl rfl) ?_
        refine Lo u102 (v_move (.inr rfl) rfl) ?_
        refine L_nil ?_
        refine K_loop (mk 102 5070602400912917605986812821425) (env' := u102) rfl ⟨m + 1, ?_, rfl, ?_⟩
        ·first | omega | (simp only []; omega)
        ·exact ⟨⟨by omega, by omega⟩, _, _, rfl, by rw [cutR_step (by omega)]; exact LV.pushF hY3⟩
      ·try simp only [qB, qN] at hg7
       refine Lf u102 ?_
       refine Lf u102 ?_
       refine Lo u102 (v_pickFC (VVal.bool false) rfl rfl rfl) ?_
       refine L_nil (K_seq ?_)
       refine B_false rfl rfl ?_
       refine B_exit (K_seqX (K_loopX (K_blkX (K_seq ?_))))
       rw [take_end (m := 20) hk2 (by omega)] at hs
       refine B_ghLVh (env' := u102) 8 hs (by simp) rfl rfl fun X4 hX4 hF4 => ?_
       have hl4 := LV.keep hl3 hd hF4
       refine B_region ?_
       refine Lo u102 (rfl) ?_
       refine Lo u102 (W39 rfl rfl rfl rfl) ?_
       refine Lo u102 (rfl) ?_
       refine Lo u102 (W39 rfl rfl rfl rfl) ?_
       refine Lo u102 (rfl) ?_
       refine Lo u102 (W39 rfl rfl rfl rfl) ?_
       refine Lo u102 (v_move (.inl rfl) rfl) ?_
       refine Lo u102 (rfl) ?_
       refine Lo u102 (v_buildSlice rfl rfl (by decide) rfl) ?_
       refine L_opX rfl rfl (v_appXh rfl rfl rfl rfl rfl rfl rfl (by simp) hl4 rfl rfl (by decide) (by rw [List.length_map, List.length_take]; show (_ + 1) * 40 ≤ _ ∧ _ + 1 ≤ _; omega) (by decide)) ?_
       rintro _ _ ⟨Y1, rfl, rfl, hY1, hY2, hY3⟩
       refine Le u102 ?_
       refine Lo u102 (rfl) ?_
       refine Lo u102 (W13 rfl rfl rfl rfl rfl rfl rfl) ?_
       refine L_nil (K_blk (K_seq (B_region ?_)))
       refine Lo u102 (v_move (.inl rfl) rfl) ?_
       refine Lo u102 (W14 rfl rfl rfl) ?_
       refine Lo u102 (v_move (.inr rfl) rfl) ?_
       refine L_nil ?_
       refine K_loop (mk 102 5070602400912917605986812821425) (env' := u102) rfl ⟨m + 1, ?_, rfl, ?_⟩
       ·first | omega | (simp only []; omega)
       ·exact ⟨⟨by omega, by omega⟩, _, _, rfl, by rw [cutR_step (by omega)]; exact LV.pushF hY3⟩
     ·try simp only [qB, qN] at hc6
      refine B_exit (K_seqX (K_loopX (K_blkX ?_)))
      refine K_loop (mk 102 5070602400912917605986812821491) (env' := u102) rfl ⟨(), rfl, ?_⟩
      exact ⟨trivial, _, _, rfl, by rw [← take_end (m := 40) hm2 (by omega)]; exact hl⟩
    ·try simp only [qB, qN] at hg5
     refine Lf u102 ?_
     refine Lf u102 ?_
     refine Lo u102 (v_pickFC (VVal.bool false) rfl rfl rfl) ?_
     refine L_nil (K_seq ?_)
     refine B_false rfl rfl ?_
     refine B_exit (K_seqX (K_loopX (K_blkX ?_)))
     refine K_loop (mk 102 5070602400912917605986812821491) (env' := u102) rfl ⟨(), rfl, ?_⟩
     exact ⟨trivial, _, _, rfl, by rw [← take_end (m := 40) hm2 (by omega)]; exact hl⟩
   ·rintro u0 _ ⟨_, ⟨lv, X, rfl, hl⟩⟩
    refine B_env (env' := u102) rfl ?_
    refine B_seq ?_
    refine B_ghCell 2 3 hl rfl rfl (by simp) fun X5 _ _ => ?_
    refine B_heap (List.append_assoc _ _ _) ?_
    refine B_region ?_
    refine Lo u102 (W3d rfl rfl rfl rfl rfl) ?_
    refine Lo u102 (W13 rfl rfl rfl rfl rfl rfl rfl) ?_
    refine L_nil (K_seq (B_ret ?_))
    refine W5n (.inr rfl) (vres_cellA rfl rfl rfl rfl (by first | exact get_app rfl rfl | exact get_out (by assumption) | exact getE0 rfl rfl | exact get_out (get_app rfl rfl) | exact get_app rfl (by assumption) | assumption | (simp only [List.append_assoc, List.singleton_append, List.cons_append, List.nil_append]; refine getE (i := 0) rfl ?_ rfl; simp; done) | (simp only [List.append_assoc, List.singleton_append, List.cons_append, List.nil_append]; refine getE (i := 1) rfl ?_ rfl; simp; done) | (simp only [List.append_assoc, List.singleton_append, List.cons_append, List.nil_append]; refine getE (i := 2) rfl ?_ rfl; simp; done) | (simp only [List.append_assoc, List.singleton_append, List.cons_append, List.nil_append]; refine getE (i := 3) rfl ?_ rfl; simp; done) | (simp [*]; done)) (by first | rfl | assumption | exact fgetN (α := BitVec 64) 0 (by omega) | exact fgetN (α := Int) 0 (by omega) | exact rul_at (by omega))) ?_
    exact ⟨rfl, rfl⟩
end Go.Proofs.YtnbihdflnjpinaaDoor.VT

set_option autoImplicit false
set_option linter.unusedVariables false
set_option linter.unusedSimpArgs false
set_option maxHeartbeats 4000000
set_option maxRecDepth 100000
namespace Go.Proofs.YtnbihdflnjpinaaDoor.VT
open Go Go.V Go.RowKit
abbrev u76 {a0 a1 a2 a3 a4 a5 a6 a7 a8 a9 a10 a11 a12 a13 a14 a15 a16 a17 a18 a19 a20 a21 a22 a23 a24 a25 a26 a27 a28 a29 a30 a31 a32 a33 a34 a35 a36 a37 a38 a39 a40 a41 a42 a43 a44 a45 a46 a47 a48 a49 a50 a51 a52 a53 a54 a55 a56 a57 a58 a59 a60 a61 a62 a63 a64 a65 a66 a67 a68 a69 a70 a71 a72 a73 a74 a75 : VVal} : VEnv := a0 :: a1 :: a2 :: a3 :: a4 :: a5 :: a6 :: a7 :: a8 :: a9 :: a10 :: a11 :: a12 :: a13 :: a14 :: a15 :: a16 :: a17 :: a18 :: a19 :: a20 :: a21 :: a22 :: a23 :: a24 :: a25 :: a26 :: a27 :: a28 :: a29 :: a30 :: a31 :: a32 :: a33 :: a34 :: a35 :: a36 :: a37 :: a38 :: a39 :: a40 :: a41 :: a42 :: a43 :: a44 :: a45 :: a46 :: a47 :: a48 :: a49 :: a50 :: a51 :: a52 :: a53 :: a54 :: a55 :: a56 :: a57 :: a58 :: a59 :: a60 :: a61 :: a62 :: a63 :: a64 :: a65 :: a66 :: a67 :: a68 :: a69 :: a70 :: a71 :: a72 :: a73 :: a74 :: a75 :: []
theorem W5o {T : TypeId → Option VTy} {H : VHeap} {op : Op} {ρ : Operand → VVal} {t : TypeId} {a : Operand} {y : VTy} {p : VVal} {n : Nat} {vs : List VVal} (ho : op = .load t a) (ha : ρ a = p) (hy : T t = some y) (hd : isAggDesc y.desc = true) (hn : y.size = n) (h : LdOkA H p n vs := by first | exact .inl ⟨_, _, rfl, by first | rfl | assumption | exact fgetN (α := BitVec 64) 0 (by omega) | exact fgetN (α := Int) 0 (by omega) | exact rul_at (by omega) | exact rul_f2 (by omega) | exact rul_f0 (by omega) | exact rul_f1 (by omega)⟩ | exact .inr ⟨_, _, _, _, rfl, by first | exact get_app rfl rfl | exact get_out (by assumption) | exact getE0 rfl rfl | exact get_out (get_app rfl rfl) | exact get_app rfl (by assumption) | assumption | (simp only [List.append_assoc, List.singleton_append, List.cons_append, List.nil_append]; refine getE (i := 0) rfl ?_ rfl; simp; done) | (simp only [List.append_assoc, List.singleton_append, List.cons_append, List.nil_append]; refine getE (i := 1) rfl ?_ rfl; simp; done) | (simp only [List.append_assoc, List.singleton_append, List.cons_append, List.nil_append]; refine getE (i := 2) rfl ?_ rfl; simp; done) | (simp only [List.append_assoc, List.singleton_append, List.cons_append, List.nil_append]; refine getE (i := 3) rfl ?_ rfl; simp; done) | (simp [*]; done), by first | rfl | assumption | exact fgetN (α := BitVec 64) 0 (by omega) | exact fgetN (α := Int) 0 (by omega) | exact rul_at (by omega) | exact rul_f2 (by omega) | exact rul_f0 (by omega) | exact rul_f1 (by omega)⟩) : vop T ρ H op = some (.agg vs, H) := v_ldA ho ha hy hd hn h
theorem W5t {S : V.Sys} {H : VHeap} {fn : Func} {ex : Exit} {env : VEnv} {B L : VHeap} {v : VVal} {R : VVal → VHeap → Prop} (hx : ex = .normal ∨ ex = .ret) (hv : vresults S.C.T env (B ++ L) fn.results = some v) (h : R v B) (hB : BaseOk H B := by exact BaseOk.refl _) (hu : v.under H.length = true := by exact pb_under (p := fewQ q m)) : fnK S fn H R ex env (B ++ L) := E_app hx hv hB hu h
def fewR (m : Nat) (r : Rul) : Bool := r.steps.all fun s => decide (s < (m : Int))
def fewQ (q : Pb) (m : Nat) : Pb := (q.users, q.who.take m, q.fixed.take m, q.rules.filter (fewR m), ())
def fewP (p : Pb) (m : Nat) : Pb := fewQ (cutP p) m
theorem fewP_L {p : Pb} {m : Nat} (h : -9223372036854775808 ≤ p.users ∧ p.users < 9223372036854775808) : PbL (fewP p m) := by
  have g := cutP_L h
  refine ⟨g.u, ?_, ?_, ?_, fun r hr => g.s r (List.mem_filter.1 hr).1⟩
  · have := g.w; show (List.take _ _).length ≤ _; rw [List.length_take]; omega
  · have := g.f; show (List.take _ _).length ≤ _; rw [List.length_take]; omega
  · have := g.r; exact Nat.le_trans (List.length_filter_le _ _) this
theorem fewP_cut {p : Pb} {m : Nat} : cutP (fewP p m) = fewP p m := by
  have h2 := @cutP_2 p
  have hw : (cutP p).who.take 20 = (cutP p).who := congrArg Pb.who h2
  have hf : (cutP p).fixed.take 20 = (cutP p).fixed := congrArg Pb.fixed h2
  have hr : ((cutP p).rules.take 40).map cutR = (cutP p).rules := congrArg Pb.rules h2
  have hlen : (cutP p).rules.length ≤ 40 := by show ((List.take 40 _).map cutR).length ≤ _; rw [List.length_map, List.length_take]; omega
  have hr2 : ∀ r, r ∈ (cutP p).rules → cutR r = r := fun r hr1 => by
    have h1 : r ∈ (p.rules.take 40).map cutR := hr1
    obtain ⟨r1, _, rfl⟩ := List.mem_map.1 h1
    show (r1.kind, r1.k, (r1.steps.take 20).take 20, ()) = (r1.kind, r1.k, r1.steps.take 20, ())
    rw [List.take_take]; rfl
  have hwl : (cutP p).who.length ≤ 20 := by show (List.take 20 _).length ≤ _; rw [List.length_take]; omega
  have hfl : (cutP p).fixed.length ≤ 20 := by show (List.take 20 _).length ≤ _; rw [List.length_take]; omega
  unfold fewP fewQ
  show ((cutP p).users, ((cutP p).who.take m).take 20, ((cutP p).fixed.take m).take 20, ((((cutP p).rules.filter (fewR m)).take 40).map cutR), ()) = _
  rw [List.take_of_length_le (l := (cutP p).who.take m) (by rw [List.length_take]; omega), List.take_of_length_le (l := (cutP p).fixed.take m) (by rw [List.length_take]; omega), List.take_of_length_le (Nat.le_trans (List.length_filter_le _ _) hlen)]
  congr 1; congr 1; congr 1; congr 1
  conv => rhs; rw [← List.map_id ((cutP p).rules.filter (fewR m))]
  exact List.map_congr_left fun r hr1 => hr2 r (List.mem_filter.1 hr1).1
theorem fewR_step {l : List Rul} {m k : Nat} (h : k < l.length) : (l.take (k + 1)).filter (fewR m) = (l.take k).filter (fewR m) ++ if fewR m (l.getD k r0) = true then [l.getD k r0] else [] := by
  rw [take_at (d := r0) h, List.filter_append]
  congr 1
  by_cases e : fewR m (l.getD k r0) = true
  · rw [if_pos e, List.filter_cons, if_pos e]; rfl
  · rw [if_neg e, List.filter_cons, if_neg e]; rfl
theorem allS_step {l : List Int} {k : Nat} {f : Int → Bool} (h : k < l.length) : (l.take (k + 1)).all f = ((l.take k).all f && f (l.getD k 0)) := by
  rw [take_at (d := 0) h, List.all_append, List.all_cons, List.all_nil, Bool.and_true]
theorem Few_q {x : SW} (H : VHeap) (p : Pb) (m : Nat) (hu : -9223372036854775808 ≤ p.users ∧ p.users < 9223372036854775808) (q : Pb) (hq : cutP p = q) : F (psys x) 20 [.agg (pbB p), iI (m : Nat)] H fun v G => v = .agg (pbB (fewQ q m)) ∧ G = H := by
 have hL := cutP_L hu
 rw [hq] at hL
 have h1 := hL.w; have h2 := hL.f; have h3 := hL.r; have h4 := hL.s
 have h40 : q.rules.length ≤ 40 := by rw [← hq]; show ((List.take 40 _).map cutR).length ≤ _; rw [List.length_map, List.length_take]; omega
 refine F_body Tryd.func20 rfl u76 rfl ?_
 refine B_seq (B_region ?_)
 refine Lo u76 (v_boxT rfl rfl rfl) ?_
 refine Lo u76 (v_alloc rfl rfl) ?_
 refine L_nil (K_seq (B_seq ?_))
 refine B_gh (Gh.freezePtrL (cs := pbB p) 2 0 rfl rfl rfl) ?_
 refine B_region ?_
 refine Lo u76 (W5o rfl rfl rfl rfl rfl) ?_
 refine L_call rfl rfl rfl (by exact hq ▸ Cut_spec _ p) ?_
 rintro _ _ ⟨rfl, rfl⟩
 refine Le u76 ?_
 refine Lo u76 (v_alloc rfl rfl) ?_
 refine Lo u76 (W13 rfl rfl rfl rfl rfl rfl rfl) ?_
 refine L_nil (K_seq ?_)
 refine B_seqJ (mk 76 75557863725914323419085) (fun (u0 : Unit) => []) (fun (u0 : Unit) G => (True) ∧ G = H ++ [.dead, pqB 0 nilS nilS nilS, .cells [iI q.users, fzW (q.who.take m), fzI q.fixed, fzR q.rules] true]) ?_ ?_
 ·skip
  refine B_seq (B_region ?_)
  refine Lo u76 (rfl) ?_
  refine Lo u76 (W58 rfl rfl rfl rfl) ?_
  refine Lo u76 (rfl) ?_
  refine Lo u76 (v_move (.inl rfl) rfl) ?_
  refine Lo u76 (rfl) ?_
  refine L_nil (K_seq ?_)
  refine B_cond _ rfl (fun hc1 => ?_) (fun hc1 => ?_)
  ·try simp only [qB, qN] at hc1
   refine B_region ?_
   refine Lo u76 (rfl) ?_
   refine Lo u76 (W58 rfl rfl rfl rfl) ?_
   refine Lo u76 (v_move (.inl rfl) rfl) ?_
   refine Lo u76 (v_wHi (k := m) rfl rfl rfl rfl rfl rfl rfl (by omega)) ?_
   refine Lo u76 (rfl) ?_
   refine Lo u76 (W13 rfl rfl rfl rfl rfl rfl rfl) ?_
   refine L_nil ?_
   refine K_loop (mk 76 75557863725914323419085) (env' := u76) rfl ⟨(), rfl, ?_⟩
   first
     | exact ⟨trivial, rfl⟩
     | exact ⟨trivial, by rw [List.take_of_length_le (l := q.who) (by omega)]; rfl⟩
  ·try simp only [qB, qN] at hc1
   refine B_skip ?_
   refine K_loop (mk 76 75557863725914323419085) (env' := u76) rfl ⟨(), rfl, ?_⟩
   first
     | exact ⟨trivial, rfl⟩
     | exact ⟨trivial, by rw [List.take_of_length_le (l := q.who) (by omega)]; rfl⟩
 ·rintro u0 _ ⟨_, rfl⟩
  refine B_env (env' := u76) rfl ?_
  refine B_seqJ (mk 76 75557863725914323419085) (fun (u0 : Unit) => []) (fun (u0 : Unit) G => (True) ∧ G = H ++ [.dead, pqB 0 nilS nilS nilS, .cells [iI q.users, fzW (q.who.take m), fzI (q.fixed.take m), fzR q.rules] true]) ?_ ?_
  ·skip
   refine B_seq (B_region ?_)
   refine Lo u76 (rfl) ?_
   refine Lo u76 (W58 rfl rfl rfl rfl) ?_
   refine Lo u76 (rfl) ?_
   refine Lo u76 (v_move (.inl rfl) rfl) ?_
   refine Lo u76 (rfl) ?_
   refine L_nil (K_seq ?_)
   refine B_cond _ rfl (fun hc2 => ?_) (fun hc2 => ?_)
   ·try simp only [qB, qN] at hc2
    refine B_region ?_
    refine Lo u76 (rfl) ?_
    refine Lo u76 (W58 rfl rfl rfl rfl) ?_
    refine Lo u76 (v_move (.inl rfl) rfl) ?_
    refine Lo u76 (v_iHi (k := m) rfl rfl rfl rfl rfl rfl rfl (by omega)) ?_
    refine Lo u76 (rfl) ?_
    refine Lo u76 (W13 rfl rfl rfl rfl rfl rfl rfl) ?_
    refine L_nil ?_
    refine K_loop (mk 76 75557863725914323419085) (env' := u76) rfl ⟨(), rfl, ?_⟩
    first
      | exact ⟨trivial, rfl⟩
      | exact ⟨trivial, by rw [List.take_of_length_le (l := q.fixed) (by omega)]⟩
   ·try simp only [qB, qN] at hc2
    refine B_skip ?_
    refine K_loop (mk 76 75557863725914323419085) (env' := u76) rfl ⟨(), rfl, ?_⟩
    first
      | exact ⟨trivial, rfl⟩
      | exact ⟨trivial, by rw [List.take_of_length_le (l := q.fixed) (by omega)]⟩
  ·rintro u0 _ ⟨_, rfl⟩
   refine B_env (env' := u76) rfl ?_
   refine B_seq (B_region ?_)
   refine Lo u76 (v_const (VVal.slice none 0 0 true 0) (.inr rfl) rfl) ?_
   refine L_nil (K_seq (B_seq (B_seq (B_region ?_))))
   refine Lo u76 (v_const (VVal.int .i64 0) (.inr rfl) rfl) ?_
   refine L_nil (K_seq (B_block ?_))
   refine B_clear (mk 76 75557863725914323418893) (env' := u76) rfl ?_
   refine B_loopE (fun (⟨k, lv⟩ : Nat × VVal) => q.rules.length - k) (fun (⟨k, lv⟩ : Nat × VVal) => [(6, lv), (7, iI (k : Nat))]) (fun (⟨k, lv⟩ : Nat × VVal) G => (k ≤ q.rules.length) ∧ ∃ X, G = (H ++ [.dead, pqB 0 nilS nilS nilS, .cells [iI q.users, fzW (q.who.take m), fzI (q.fixed.take m), fzR q.rules] true]) ++ X ∧ LV (H.length + 3) 3 X lv (((q.rules.take k).filter (fewR m)).flatMap rlB) ((q.rules.take k).filter (fewR m)).length) ⟨0, _⟩ rfl ?_ ?_
   ·refine ⟨?_, ⟨[], (List.append_nil _).symm, LV.nil _ _ _⟩⟩
    exact Nat.zero_le _
   rintro ⟨k, lv⟩ _ ⟨hk, ⟨X, rfl, hl⟩⟩
   refine B_env (env' := u76) rfl ?_
   refine B_seq (B_seq (B_region ?_))
   refine Lo u76 (v_move (.inl rfl) rfl) ?_
   refine Lo u76 (rfl) ?_
   refine Lo u76 (W58 rfl rfl rfl rfl) ?_
   refine Lo u76 (rfl) ?_
   refine Lo u76 (rfl) ?_
   refine L_nil (K_seq ?_)
   refine B_cond _ rfl (fun hc3 => ?_) (fun hc3 => ?_)
   ·try simp only [qB, qN] at hc3
    refine B_skip (K_seq (B_seq (B_block (B_seq (B_region ?_)))))
    refine Lo u76 (v_const (VVal.bool true) (.inr rfl) rfl) ?_
    refine L_nil (K_seq (B_seq (B_seq (B_region ?_))))
    refine Lo u76 (v_const (VVal.int .i64 0) (.inr rfl) rfl) ?_
    refine L_nil (K_seq (B_block ?_))
    refine B_clear (mk 76 75557863725914323418125) (env' := u76) rfl ?_
    refine B_loopE (fun (⟨s, b⟩ : Nat × Bool) => (q.rules.getD k r0).steps.length - s) (fun (⟨s, b⟩ : Nat × Bool) => [(8, .bool b), (9, iI (s : Nat))]) (fun (⟨s, b⟩ : Nat × Bool) G => (s ≤ (q.rules.getD k r0).steps.length ∧ b = ((q.rules.getD k r0).steps.take s).all fun x => decide (x < (m : Int))) ∧ G = (H ++ [.dead, pqB 0 nilS nilS nilS, .cells [iI q.users, fzW (q.who.take m), fzI (q.fixed.take m), fzR q.rules] true]) ++ X) ⟨0, true⟩ rfl ?_ ?_
    ·refine ⟨?_, rfl⟩
     exact ⟨Nat.zero_le _, rfl⟩
    rintro ⟨s, b⟩ _ ⟨⟨hs, hb⟩, rfl⟩
    refine B_env (env' := u76) rfl ?_
    refine B_seq (B_seq ?_)
    have hst := h4 _ (rul_mem (l := q.rules) (k := k) (by omega))
    refine B_region ?_
    refine Lo u76 (v_move (.inl rfl) rfl) ?_
    refine Lo u76 (rfl) ?_
    refine Lo u76 (W58 rfl rfl rfl rfl) ?_
    refine Lo u76 (v_move (.inl rfl) rfl) ?_
    refine Lo u76 (W18 rfl rfl rfl rfl rfl rfl rfl) ?_
    refine Lo u76 (rfl) ?_
    refine Lo u76 (W58 rfl rfl rfl rfl) ?_
    refine Lo u76 (rfl) ?_
    refine Lo u76 (rfl) ?_
    refine L_nil (K_seq ?_)
    refine B_cond _ rfl (fun hc4 => ?_) (fun hc4 => ?_)
    ·try simp only [qB, qN] at hc4
     refine B_skip (K_seq (B_seq (B_block (B_region ?_))))
     refine Lo u76 (v_move (.inl rfl) rfl) ?_
     refine Lo u76 (v_move (.inl rfl) rfl) ?_
     refine L_split 51 (env1 := u76) (env2 := u76) rfl rfl rfl (fun hg5 => ?_) (fun hg5 => ?_)
     ·try simp only [qB, qN] at hg5
      refine Lo u76 (rfl) ?_
      refine Lo u76 (W58 rfl rfl rfl rfl) ?_
      refine Lo u76 (v_move (.inl rfl) rfl) ?_
      refine Lo u76 (W18 rfl rfl rfl rfl rfl rfl rfl) ?_
      refine Lo u76 (rfl) ?_
      refine Lo u76 (W58 rfl rfl rfl rfl) ?_
      refine Lo u76 (v_move (.inl rfl) rfl) ?_
      refine Lo u76 (W18 rfl rfl rfl rfl rfl rfl rfl) ?_
      refine Lo u76 (W58 rfl rfl rfl rfl) ?_
      refine Lo u76 (v_move (.inl rfl) rfl) ?_
      refine Lo u76 (rfl) ?_
      refine Lo u76 (v_pickT rfl rfl rfl) ?_
      refine Lo u76 (v_move (.inr rfl) rfl) ?_
      refine L_nil (K_blk (K_seq (B_region ?_)))
      refine Lo u76 (v_move (.inl rfl) rfl) ?_
      refine Lo u76 (W14 rfl rfl rfl) ?_
      refine Lo u76 (v_move (.inr rfl) rfl) ?_
      refine L_nil ?_
      refine K_loop (mk 76 75557863725914323418125) (env' := u76) rfl ⟨⟨s + 1, _⟩, ?_, rfl, ?_⟩
      ·first | omega | (simp only []; omega)
      ·first | exact ⟨⟨by omega, by rw [allS_step (by omega), ← hb, (show b = true by assumption), Bool.true_and]⟩, rfl⟩ | exact ⟨⟨by omega, by rw [allS_step (by omega), ← hb, (show b = false by simp_all), Bool.false_and]⟩, rfl⟩
     ·try simp only [qB, qN] at hg5
      refine Lf u76 ?_
      refine Lf u76 ?_
      refine Lf u76 ?_
      refine Lf u76 ?_
      refine Lf u76 ?_
      refine Lf u76 ?_
      refine Lf u76 ?_
      refine Lf u76 ?_
      refine Lf u76 ?_
      refine Lf u76 ?_
      refine Lf u76 ?_
      refine Lo u76 (v_pickFC (VVal.bool false) rfl rfl rfl) ?_
      refine Lo u76 (v_move (.inr rfl) rfl) ?_
      refine L_nil (K_blk (K_seq (B_region ?_)))
      refine Lo u76 (v_move (.inl rfl) rfl) ?_
      refine Lo u76 (W14 rfl rfl rfl) ?_
      refine Lo u76 (v_move (.inr rfl) rfl) ?_
      refine L_nil ?_
      refine K_loop (mk 76 75557863725914323418125) (env' := u76) rfl ⟨⟨s + 1, _⟩, ?_, rfl, ?_⟩
      ·first | omega | (simp only []; omega)
      ·first | exact ⟨⟨by omega, by rw [allS_step (by omega), ← hb, (show b = true by assumption), Bool.true_and]⟩, rfl⟩ | exact ⟨⟨by omega, by rw [allS_step (by omega), ← hb, (show b = false by simp_all), Bool.false_and]⟩, rfl⟩
    ·try simp only [qB, qN] at hc4
     refine B_exit (K_seqX (K_loopX (K_blkX (K_seq (B_seq (B_region ?_))))))
     refine Lo u76 (v_move (.inl rfl) rfl) ?_
     refine L_nil (K_seq ?_)
     refine B_cond _ rfl (fun hc6 => ?_) (fun hc6 => ?_)
     ·try simp only [qB, qN] at hc6
      refine B_region ?_
      refine Lo u76 (v_move (.inl rfl) rfl) ?_
      refine Lo u76 (rfl) ?_
      refine Lo u76 (W58 rfl rfl rfl rfl) ?_
      refine Lo u76 (v_move (.inl rfl) rfl) ?_
      refine Lo u76 (W18 rfl rfl rfl rfl rfl rfl rfl) ?_
      refine Lo u76 (W5o rfl rfl rfl rfl rfl) ?_
      refine Lo u76 (v_buildSlice rfl rfl (by decide) rfl) ?_
      refine L_opX rfl rfl (v_appXh rfl rfl rfl rfl rfl rfl rfl (by simp) hl rfl rfl (by decide) (by have h9 := List.length_filter_le (fewR m) ((q.rules).take k); rw [List.length_take] at h9; show (_ + 1) * 40 ≤ _ ∧ _ + 1 ≤ _; omega) (by decide)) ?_
      rintro _ _ ⟨Y1, rfl, rfl, hY1, hY2, hY3⟩
      refine Le u76 ?_
      refine Lo u76 (v_move (.inr rfl) rfl) ?_
      refine L_nil (K_blk (K_seq (B_region ?_)))
      refine Lo u76 (v_move (.inl rfl) rfl) ?_
      refine Lo u76 (W14 rfl rfl rfl) ?_
      refine Lo u76 (v_move (.inr rfl) rfl) ?_
      refine L_nil ?_
      obtain rfl : s = (q.rules.getD k r0).steps.length := by omega
      rw [List.take_length] at hb
      refine K_loop (mk 76 75557863725914323418893) (env' := u76) rfl ⟨⟨k + 1, _⟩, ?_, rfl, ?_⟩
      ·first | omega | (simp only []; omega)
      ·first | exact ⟨by omega, _, rfl, by rw [fewR_step (by omega), if_pos (show fewR m (q.rules.getD k r0) = true from hb.symm.trans (by assumption))]; exact LV.pushF hY3⟩ | exact ⟨by omega, _, rfl, by rw [fewR_step (by omega), if_neg (fun e => by rw [show fewR m (q.rules.getD k r0) = b from hb.symm] at e; rw [(by assumption : b = false)] at e; cases e), List.append_nil]; exact hl⟩
     ·try simp only [qB, qN] at hc6
      refine B_skip (K_blk (K_seq (B_region ?_)))
      refine Lo u76 (v_move (.inl rfl) rfl) ?_
      refine Lo u76 (W14 rfl rfl rfl) ?_
      refine Lo u76 (v_move (.inr rfl) rfl) ?_
      refine L_nil ?_
      obtain rfl : s = (q.rules.getD k r0).steps.length := by omega
      rw [List.take_length] at hb
      refine K_loop (mk 76 75557863725914323418893) (env' := u76) rfl ⟨⟨k + 1, _⟩, ?_, rfl, ?_⟩
      ·first | omega | (simp only []; omega)
      ·first | exact ⟨by omega, _, rfl, by rw [fewR_step (by omega), if_pos (show fewR m (q.rules.getD k r0) = true from hb.symm.trans (by assumption))]; exact LV.pushF hY3⟩ | exact ⟨by omega, _, rfl, by rw [fewR_step (by omega), if_neg (fun e => by rw [show fewR m (q.rules.getD k r0) = b from hb.symm] at e; rw [(by assumption : b = false)] at e; cases e), List.append_nil]; exact hl⟩
   ·try simp only [qB, qN] at hc3
    refine B_exit (K_seqX (K_loopX (K_blkX (K_seq (B_seq ?_)))))
    obtain rfl : k = q.rules.length := by omega
    rw [List.take_length] at hl
    refine B_ghLVh (env' := u76) 6 hl (by simp) rfl rfl fun X4 hX4 hF4 => ?_
    refine B_heap (List.append_assoc _ _ _) ?_
    refine B_region ?_
    refine Lo u76 (v_move (.inl rfl) rfl) ?_
    refine Lo u76 (rfl) ?_
    refine Lo u76 (W13 rfl rfl rfl rfl rfl rfl rfl) ?_
    refine L_nil (K_seq (B_seq (B_region ?_)))
    refine Lo u76 (W5o rfl rfl rfl rfl rfl) ?_
    refine Lo u76 (W13 rfl rfl rfl rfl rfl rfl rfl) ?_
    refine L_nil (K_seq (B_ret ?_))
    refine W5t (.inr rfl) (vres_cellA rfl rfl rfl rfl (by first | exact get_app rfl rfl | exact get_out (by assumption) | exact getE0 rfl rfl | exact get_out (get_app rfl rfl) | exact get_app rfl (by assumption) | assumption | (simp only [List.append_assoc, List.singleton_append, List.cons_append, List.nil_append]; refine getE (i := 0) rfl ?_ rfl; simp; done) | (simp only [List.append_assoc, List.singleton_append, List.cons_append, List.nil_append]; refine getE (i := 1) rfl ?_ rfl; simp; done) | (simp only [List.append_assoc, List.singleton_append, List.cons_append, List.nil_append]; refine getE (i := 2) rfl ?_ rfl; simp; done) | (simp only [List.append_assoc, List.singleton_append, List.cons_append, List.nil_append]; refine getE (i := 3) rfl ?_ rfl; simp; done) | (simp [*]; done)) (by first | rfl | assumption | exact fgetN (α := BitVec 64) 0 (by omega) | exact fgetN (α := Int) 0 (by omega) | exact rul_at (by omega) | exact rul_f2 (by omega) | exact rul_f0 (by omega) | exact rul_f1 (by omega))) ?_
    exact ⟨rfl, rfl⟩
theorem Few_spec {x : SW} (H : VHeap) (p : Pb) (m : Nat) (hu : -9223372036854775808 ≤ p.users ∧ p.users < 9223372036854775808) : F (psys x) 20 [.agg (pbB p), iI (m : Nat)] H fun v G => v = .agg (pbB (fewP p m)) ∧ G = H := Few_q H p m hu _ rfl
end Go.Proofs.YtnbihdflnjpinaaDoor.VT

set_option autoImplicit false
set_option linter.unusedVariables false
set_option linter.unusedSimpArgs false
set_option maxHeartbeats 4000000
set_option maxRecDepth 100000
namespace Go.Proofs.YtnbihdflnjpinaaDoor.VT
open Go Go.V Go.RowKit
end Go.Proofs.YtnbihdflnjpinaaDoor.VT

set_option autoImplicit false
set_option linter.unusedVariables false
set_option linter.unusedSimpArgs false
set_option maxHeartbeats 4000000
set_option maxRecDepth 100000
namespace Go.Proofs.YtnbihdflnjpinaaDoor.VT
open Go Go.V Go.RowKit
end Go.Proofs.YtnbihdflnjpinaaDoor.VT

set_option autoImplicit false
set_option linter.unusedVariables false
set_option linter.unusedSimpArgs false
set_option maxHeartbeats 4000000
set_option maxRecDepth 100000
namespace Go.Proofs.YtnbihdflnjpinaaDoor.VT
open Go Go.V Go.RowKit
end Go.Proofs.YtnbihdflnjpinaaDoor.VT

set_option autoImplicit false
set_option linter.unusedVariables false
set_option linter.unusedSimpArgs false
set_option maxHeartbeats 4000000
set_option maxRecDepth 100000
namespace Go.Proofs.YtnbihdflnjpinaaDoor.VT
open Go Go.V Go.RowKit
theorem brk_none {rs : List Rul} {l : List Int} : brk rs l = [] ↔ ∀ r, r ∈ rs → hld r l = true := by
  refine rev_ind (P := fun rs => brk rs l = [] ↔ ∀ r, r ∈ rs → hld r l = true) ⟨fun _ r h => (by cases h), fun _ => rfl⟩ (fun rs r ih => ?_) rs
  rw [brk_app, List.append_eq_nil_iff, ih]
  constructor
  · rintro ⟨h1, h2⟩ x hx
    rcases List.mem_append.1 hx with hx | hx
    · exact h1 x hx
    · rw [List.mem_singleton] at hx; subst hx
      by_cases e : hld x l = true
      · exact e
      · rw [if_neg e] at h2; cases h2
  · intro h
    exact ⟨fun x hx => h x (List.mem_append_left _ hx), by rw [if_pos (h r (by simp))]⟩
theorem flU_none {p : Pb} {l : List Int} : ∀ {n : Nat}, flU p l n = [] ↔ ∀ i, i < n → flk p.users (p.fixed.getD i 0) (p.who.getD i 0) (l.getD i 0) = 0
  | 0 => ⟨fun _ i h => absurd h (by omega), fun _ => rfl⟩
  | n + 1 => by
    rw [flU_succ, List.append_eq_nil_iff, flU_none]
    constructor
    · rintro ⟨h1, h2⟩ i hi
      by_cases e : i = n
      · subst e
        by_cases e2 : flk p.users (p.fixed.getD i 0) (p.who.getD i 0) (l.getD i 0) = 0
        · exact e2
        · rw [if_neg e2] at h2; cases h2
      · exact h1 i (by omega)
    · intro h; exact ⟨fun i hi => h i (by omega), by rw [if_pos (h n (by omega))]⟩
theorem hld_erl {r : Rul} {l : List Int} {n : Int} (h : (l.length : Int) = n) : hld r l = erl r n l := by
  subst h; unfold hld erl; rw [decide_eq_true (Int.le_refl _), Bool.true_and]
theorem hds_iff {p : Pb} {us : List Int} : hds p us = true ↔ Go.V.Good p ∧ us.length = p.who.length ∧ (∀ i, i < p.who.length → myB p i (us.getD i 0) = true) ∧ ∀ r, r ∈ p.rules → erl r p.who.length us = true := by
  unfold hds
  rw [Bool.and_eq_true, decide_eq_true_eq, decide_eq_true_eq, pck_good]
  constructor
  · rintro ⟨g, h⟩
    by_cases hl : us.length = p.who.length
    · rw [flw_in hl] at h
      have h1 := List.append_eq_nil_iff.1 h
      have h2 : brk p.rules us = [] := by
        have := h1.2; unfold flR at this; exact List.map_eq_nil_iff.1 this
      refine ⟨g, hl, fun i hi => ?_, fun r hr => by rw [← hld_erl (by rw [hl])]; exact brk_none.1 h2 r hr⟩
      have := flU_none.1 h1.1 i (by omega)
      show (decide _ && _) = true
      rw [has_flk g hi, decide_eq_true this]
    · rw [flw_len hl] at h; cases h
  · rintro ⟨g, hl, h1, h2⟩
    refine ⟨g, ?_⟩
    rw [flw_in hl, brk_none.2 fun r hr => by rw [hld_erl (n := p.who.length) (by rw [hl])]; exact h2 r hr]
    rw [show flR [] = [] from rfl, List.append_nil]
    refine flU_none.2 fun i hi => ?_
    have h3 : (decide _ && _) = true := h1 i (by omega)
    rw [has_flk g (by omega)] at h3
    exact of_decide_eq_true h3
theorem wsP_get {p : Pb} {i : Nat} (h : i < p.who.length) : (wsP p).getD i 0 = wrd p i := by
  unfold wsP; simp [List.getD_eq_getElem?_getD, h]
theorem zI_get {ns : List Nat} {i : Nat} (h : i < ns.length) : (zI ns).getD i 0 = (ns.getD i 0 : Nat) := by
  unfold zI; simp [List.getD_eq_getElem?_getD, h]
theorem myB_nat {p : Pb} {i n : Nat} : myB p i (n : Nat) = true ↔ (wrd p i).getLsbD n = true := by
  unfold myB
  rw [Bool.and_eq_true, decide_eq_true_eq, Int.toNat_natCast]
  exact ⟨fun h => h.2, fun h => ⟨by have := BitVec.lt_of_getLsbD h; omega, h⟩⟩
theorem hds_plan {p : Pb} {ns : List Nat} : hds p (zI ns) = true ↔ Go.V.Good p ∧ PlanN (wsP p) p.rules ns := by
  rw [hds_iff, zI_len]
  constructor
  · rintro ⟨g, hl, h1, h2⟩
    refine ⟨g, by rw [wsP_len]; exact hl, fun i hi => ?_, fun r hr => by rw [wsP_len]; exact h2 r hr⟩
    rw [wsP_len] at hi
    have := h1 i hi
    rw [zI_get (by omega), myB_nat] at this
    rw [wsP_get hi]; exact this
  · rintro ⟨g, h⟩
    have hl := h.len
    rw [wsP_len] at hl
    refine ⟨g, hl, fun i hi => ?_, fun r hr => by have := h.rul r hr; rw [wsP_len] at this; exact this⟩
    have := h.may i (by rw [wsP_len]; exact hi)
    rw [wsP_get hi] at this
    rw [zI_get (by omega), myB_nat]; exact this
theorem leA_some {p : Pb} {l : List Nat} (h : leA p = some l) : hds p (zI l) = true := by
  unfold leA at h
  split at h
  · rename_i hp
    have g := pck_good.1 hp
    refine hds_plan.2 ⟨g, ?_⟩
    unfold rssP at h
    rw [← wsP_len] at h
    exact fd_some (fun r hr => by rw [wsP_len]; exact g.ru r hr) h
  · cases h
theorem leT_eq (o : Option (List Nat)) : ∃ l ok, leT o = .tuple [fzN l, .bool ok] ∧ (ok = true → o = some l) ∧ (ok = false → l = [] ∧ o = none) := by
  cases o with
  | some l => exact ⟨l, true, rfl, fun _ => rfl, fun e => (by cases e)⟩
  | none => exact ⟨[], false, rfl, fun e => (by cases e), fun _ => ⟨rfl, rfl⟩⟩
end Go.Proofs.YtnbihdflnjpinaaDoor.VT

set_option autoImplicit false
set_option linter.unusedVariables false
set_option linter.unusedSimpArgs false
set_option maxHeartbeats 4000000
set_option maxRecDepth 100000
namespace Go.Proofs.YtnbihdflnjpinaaDoor.VT
open Go Go.V Go.RowKit
abbrev seB (w : BitVec 64) : VBlk := .cells [iW w] true
abbrev jN (u : Nat) : VVal := iI (u : Nat)
theorem not_of_f {b : Bool} (h : b = false) : ¬ b = true := by rw [h]; decide
theorem beq_nat {a b : Nat} : ((a : Int) == (b : Int)) = (a == b) := Bool.eq_iff_iff.2 (by rw [beq_iff_eq, beq_iff_eq]; omega)
theorem find_no' {pre : List Nat} {f : Nat → Bool} (h : ∀ v, v ∈ pre → f v = false) : pre.find? f = none := List.find?_eq_none.2 fun v hv => by rw [h v hv]; decide
theorem find_yes {pre post : List Nat} {c : Nat} {f : Nat → Bool} (h : ∀ v, v ∈ pre → f v = false) (hc : f c = true) : (pre ++ c :: post).find? f = some c := by
  rw [List.find?_append, find_no' h, List.find?_cons, hc]; rfl
theorem full0 {l : List (BitVec 64)} : fullB l 0#64 = true ↔ Mat l := by rw [fullB_iff, msk_0]
def szV (l : List (BitVec 64)) : Int := if l.length ≤ 12 then (szN l : Nat) else 0
def leV (rows : List (BitVec 64)) : VVal := if rows.length ≤ 12 ∧ fullB rows 0#64 = true then .tuple [fzN (lst rows 0#64), .bool true] else .tuple [fzN [], .bool false]
end Go.Proofs.YtnbihdflnjpinaaDoor.VT

set_option autoImplicit false
set_option linter.unusedVariables false
set_option linter.unusedSimpArgs false
set_option maxHeartbeats 4000000
set_option maxRecDepth 100000
namespace Go.Proofs.YtnbihdflnjpinaaDoor.VT
open Go Go.V Go.RowKit
abbrev u38 {a0 a1 a2 a3 a4 a5 a6 a7 a8 a9 a10 a11 a12 a13 a14 a15 a16 a17 a18 a19 a20 a21 a22 a23 a24 a25 a26 a27 a28 a29 a30 a31 a32 a33 a34 a35 a36 a37 : VVal} : VEnv := a0 :: a1 :: a2 :: a3 :: a4 :: a5 :: a6 :: a7 :: a8 :: a9 :: a10 :: a11 :: a12 :: a13 :: a14 :: a15 :: a16 :: a17 :: a18 :: a19 :: a20 :: a21 :: a22 :: a23 :: a24 :: a25 :: a26 :: a27 :: a28 :: a29 :: a30 :: a31 :: a32 :: a33 :: a34 :: a35 :: a36 :: a37 :: []
theorem W5v {P : Prop} (h : P := by first | exact ⟨rfl, rfl⟩ | (exfalso; omega)) : P := h
theorem szP_succ {a : List Nat} {k : Nat} : szP a (k + 1) = if a.getD k 0 = szP a k then szP a k + 1 else szP a k := rfl
theorem Legal_spec {x : SW} (H : VHeap) (a : List Nat) (ha : Pat a) (hl : a.length ≤ 12) : F (psys x) 104 [fzN a] H fun v G => v = .bool true ∧ G = H := by
 refine F_body Tryd.func104 rfl u38 rfl ?_
 refine B_seq (B_region ?_)
 refine Lo u38 (v_const (VVal.bool false) (.inr rfl) rfl) ?_
 refine L_nil (K_seq (B_seq (B_seq (B_region ?_))))
 refine Lo u38 (v_move (.inl rfl) rfl) ?_
 refine Lo u38 (rfl) ?_
 refine Lo u38 (rfl) ?_
 refine L_nil (K_seq ?_)
 refine B_cond _ rfl (fun hc1 => ?_) (fun hc1 => ?_)
 ·try simp only [qB, qN] at hc1
  refine B_seq (B_region ?_)
  refine Lo u38 (v_const (VVal.bool false) (.inr rfl) rfl) ?_
  refine L_nil (K_seq (B_ret (K_seqR ?_)))
  refine W10 (.inr rfl) (vres_tmp rfl rfl) ?_
  exact W5v
 ·try simp only [qB, qN] at hc1
  refine B_skip (K_seq (B_seq (B_region ?_)))
  refine Lo u38 (v_const (VVal.int .i64 (-1)) (.inr rfl) rfl) ?_
  refine L_nil (K_seq (B_seq (B_seq (B_region ?_))))
  refine Lo u38 (v_const (VVal.int .i64 0) (.inr rfl) rfl) ?_
  refine L_nil (K_seq (B_block ?_))
  refine B_clear (mk 38 274877906918) (env' := u38) rfl ?_
  refine B_loopE (fun (k : Nat) => a.length - k) (fun (k : Nat) => [(3, iI (((szP a k : Nat) : Int) - 1)), (4, iI (k : Nat))]) (fun (k : Nat) G => (k ≤ a.length) ∧ G = H ++ []) 0 rfl ?_ ?_
  ·refine ⟨?_, rfl⟩
   exact Nat.zero_le _
  rintro k _ ⟨hk, rfl⟩
  refine B_env (env' := u38) rfl ?_
  refine B_seq (B_seq (B_region ?_))
  refine Lo u38 (v_move (.inl rfl) rfl) ?_
  refine Lo u38 (v_move (.inl rfl) rfl) ?_
  refine Lo u38 (rfl) ?_
  refine Lo u38 (rfl) ?_
  refine L_nil (K_seq ?_)
  refine B_cond _ rfl (fun hc2 => ?_) (fun hc2 => ?_)
  ·try simp only [qB, qN] at hc2
   refine B_skip (K_seq (B_seq (B_block (B_seq (B_seq ?_)))))
   have hpk := ha k (by omega)
   have hz := @szP_le a k
   refine B_region ?_
   refine Lo u38 (v_move (.inl rfl) rfl) ?_
   refine Lo u38 (v_move (.inl rfl) rfl) ?_
   refine Lo u38 (W18 rfl rfl rfl rfl rfl rfl rfl) ?_
   refine Lo u38 (W4s rfl rfl rfl rfl) ?_
   refine Lo u38 (rfl) ?_
   refine Lo u38 (v_move (.inl rfl) rfl) ?_
   refine L_split 19 (env1 := u38) (env2 := u38) rfl rfl rfl (fun hg3 => ?_) (fun hg3 => ?_)
   ·try simp only [qB, qN] at hg3
    refine Lf u38 ?_
    refine Lf u38 ?_
    refine Lf u38 ?_
    refine Lf u38 ?_
    refine Lf u38 ?_
    refine Lf u38 ?_
    refine Lf u38 ?_
    refine Lo u38 (v_pickTC (VVal.bool true) rfl rfl rfl) ?_
    refine L_nil (K_seq ?_)
    refine B_true rfl rfl ?_
    refine B_seq (B_region ?_)
    refine Lo u38 (v_const (VVal.bool false) (.inr rfl) rfl) ?_
    refine L_nil (K_seq (B_ret (K_seqR (K_blkR (K_seqR (K_loopR (K_blkR (K_seqR ?_))))))))
    refine W10 (.inr rfl) (vres_tmp rfl rfl) ?_
    exact W5v
   ·try simp only [qB, qN] at hg3
    refine Lo u38 (v_move (.inl rfl) rfl) ?_
    refine Lo u38 (v_move (.inl rfl) rfl) ?_
    refine Lo u38 (W18 rfl rfl rfl rfl rfl rfl rfl) ?_
    refine Lo u38 (W4s rfl rfl rfl rfl) ?_
    refine Lo u38 (v_move (.inl rfl) rfl) ?_
    refine Lo u38 (W14 rfl rfl rfl) ?_
    refine Lo u38 (rfl) ?_
    refine Lo u38 (v_pickF rfl rfl rfl) ?_
    refine L_nil (K_seq ?_)
    refine B_cond _ rfl (fun hc4 => ?_) (fun hc4 => ?_)
    ·try simp only [qB, qN] at hc4
     refine B_seq (B_region ?_)
     refine Lo u38 (v_const (VVal.bool false) (.inr rfl) rfl) ?_
     refine L_nil (K_seq (B_ret (K_seqR (K_blkR (K_seqR (K_loopR (K_blkR (K_seqR ?_))))))))
     refine W10 (.inr rfl) (vres_tmp rfl rfl) ?_
     exact W5v
    ·try simp only [qB, qN] at hc4
     refine B_skip (K_seq (B_seq (B_region ?_)))
     refine Lo u38 (v_move (.inl rfl) rfl) ?_
     refine Lo u38 (v_move (.inl rfl) rfl) ?_
     refine Lo u38 (W18 rfl rfl rfl rfl rfl rfl rfl) ?_
     refine Lo u38 (W4s rfl rfl rfl rfl) ?_
     refine Lo u38 (v_move (.inl rfl) rfl) ?_
     refine Lo u38 (rfl) ?_
     refine L_nil (K_seq ?_)
     refine B_cond _ rfl (fun hc5 => ?_) (fun hc5 => ?_)
     ·try simp only [qB, qN] at hc5
      refine B_region ?_
      refine Lo u38 (v_move (.inl rfl) rfl) ?_
      refine Lo u38 (v_move (.inl rfl) rfl) ?_
      refine Lo u38 (W18 rfl rfl rfl rfl rfl rfl rfl) ?_
      refine Lo u38 (W4s rfl rfl rfl rfl) ?_
      refine Lo u38 (v_move (.inr rfl) rfl) ?_
      refine L_nil (K_blk (K_seq (B_region ?_)))
      refine Lo u38 (v_move (.inl rfl) rfl) ?_
      refine Lo u38 (W14 rfl rfl rfl) ?_
      refine Lo u38 (v_move (.inr rfl) rfl) ?_
      refine L_nil ?_
      first
        | (have hE : ((a.getD k 0 : Nat) : Int) = ((szP a (k + 1) : Nat) : Int) - 1 := by rw [szP_succ, if_pos (by omega)]; omega); rw [hE]
        | (have hE : szP a k = szP a (k + 1) := by rw [szP_succ, if_neg (by omega)]); rw [hE]
      refine K_loop (mk 38 274877906918) (env' := u38) rfl ⟨k + 1, ?_, rfl, ?_⟩
      ·first | omega | (simp only []; omega)
      ·exact ⟨by omega, rfl⟩
     ·try simp only [qB, qN] at hc5
      refine B_skip (K_blk (K_seq (B_region ?_)))
      refine Lo u38 (v_move (.inl rfl) rfl) ?_
      refine Lo u38 (W14 rfl rfl rfl) ?_
      refine Lo u38 (v_move (.inr rfl) rfl) ?_
      refine L_nil ?_
      first
        | (have hE : ((a.getD k 0 : Nat) : Int) = ((szP a (k + 1) : Nat) : Int) - 1 := by rw [szP_succ, if_pos (by omega)]; omega); rw [hE]
        | (have hE : szP a k = szP a (k + 1) := by rw [szP_succ, if_neg (by omega)]); rw [hE]
      refine K_loop (mk 38 274877906918) (env' := u38) rfl ⟨k + 1, ?_, rfl, ?_⟩
      ·first | omega | (simp only []; omega)
      ·exact ⟨by omega, rfl⟩
  ·try simp only [qB, qN] at hc2
   refine B_exit (K_seqX (K_loopX (K_blkX (K_seq (B_seq (B_region ?_))))))
   refine Lo u38 (v_const (VVal.bool true) (.inr rfl) rfl) ?_
   refine L_nil (K_seq (B_ret ?_))
   refine W10 (.inr rfl) (vres_tmp rfl rfl) ?_
   exact W5v
theorem top_spec {x : SW} (H : VHeap) (a : List Nat) (ha : Pat a) (hl : a.length ≤ 12) : F (psys x) 105 [fzN a] H fun v G => v = iI (((szP a a.length : Nat) : Int) - 1) ∧ G = H := by
 refine F_body Tryd.func105 rfl u22 rfl ?_
 refine B_seq (B_region ?_)
 refine Lo u22 (v_const (VVal.int .i64 0) (.inr rfl) rfl) ?_
 refine L_nil (K_seq (B_seq (B_region ?_)))
 refine Lo u22 (v_const (VVal.int .i64 (-1)) (.inr rfl) rfl) ?_
 refine L_nil (K_seq (B_seq (B_seq (B_region ?_))))
 refine Lo u22 (v_const (VVal.int .i64 0) (.inr rfl) rfl) ?_
 refine L_nil (K_seq (B_block ?_))
 refine B_clear (mk 22 4194278) (env' := u22) rfl ?_
 refine B_loopE (fun (k : Nat) => a.length - k) (fun (k : Nat) => [(3, iI (((szP a k : Nat) : Int) - 1)), (4, iI (k : Nat))]) (fun (k : Nat) G => (k ≤ a.length) ∧ G = H ++ []) 0 rfl ?_ ?_
 ·refine ⟨?_, rfl⟩
  exact Nat.zero_le _
 rintro k _ ⟨hk, rfl⟩
 refine B_env (env' := u22) rfl ?_
 refine B_seq (B_seq (B_region ?_))
 refine Lo u22 (v_move (.inl rfl) rfl) ?_
 refine Lo u22 (v_move (.inl rfl) rfl) ?_
 refine Lo u22 (rfl) ?_
 refine Lo u22 (rfl) ?_
 refine L_nil (K_seq ?_)
 refine B_cond _ rfl (fun hc1 => ?_) (fun hc1 => ?_)
 ·try simp only [qB, qN] at hc1
  refine B_skip (K_seq (B_seq (B_block (B_seq ?_))))
  have hpk := ha k (by omega)
  have hz := @szP_le a k
  refine B_region ?_
  refine Lo u22 (v_move (.inl rfl) rfl) ?_
  refine Lo u22 (v_move (.inl rfl) rfl) ?_
  refine Lo u22 (W18 rfl rfl rfl rfl rfl rfl rfl) ?_
  refine Lo u22 (W4s rfl rfl rfl rfl) ?_
  refine Lo u22 (v_move (.inl rfl) rfl) ?_
  refine Lo u22 (rfl) ?_
  refine L_nil (K_seq ?_)
  refine B_cond _ rfl (fun hc2 => ?_) (fun hc2 => ?_)
  ·try simp only [qB, qN] at hc2
   refine B_region ?_
   refine Lo u22 (v_move (.inl rfl) rfl) ?_
   refine Lo u22 (v_move (.inl rfl) rfl) ?_
   refine Lo u22 (W18 rfl rfl rfl rfl rfl rfl rfl) ?_
   refine Lo u22 (W4s rfl rfl rfl rfl) ?_
   refine Lo u22 (v_move (.inr rfl) rfl) ?_
   refine L_nil (K_blk (K_seq (B_region ?_)))
   refine Lo u22 (v_move (.inl rfl) rfl) ?_
   refine Lo u22 (W14 rfl rfl rfl) ?_
   refine Lo u22 (v_move (.inr rfl) rfl) ?_
   refine L_nil ?_
   first
     | (have hE : ((a.getD k 0 : Nat) : Int) = ((szP a (k + 1) : Nat) : Int) - 1 := by rw [szP_succ, if_pos (by omega)]; omega); rw [hE]
     | (have hE : szP a k = szP a (k + 1) := by rw [szP_succ, if_neg (by omega)]); rw [hE]
   refine K_loop (mk 22 4194278) (env' := u22) rfl ⟨k + 1, ?_, rfl, ?_⟩
   ·first | omega | (simp only []; omega)
   ·exact ⟨by omega, rfl⟩
  ·try simp only [qB, qN] at hc2
   refine B_skip (K_blk (K_seq (B_region ?_)))
   refine Lo u22 (v_move (.inl rfl) rfl) ?_
   refine Lo u22 (W14 rfl rfl rfl) ?_
   refine Lo u22 (v_move (.inr rfl) rfl) ?_
   refine L_nil ?_
   first
     | (have hE : ((a.getD k 0 : Nat) : Int) = ((szP a (k + 1) : Nat) : Int) - 1 := by rw [szP_succ, if_pos (by omega)]; omega); rw [hE]
     | (have hE : szP a k = szP a (k + 1) := by rw [szP_succ, if_neg (by omega)]); rw [hE]
   refine K_loop (mk 22 4194278) (env' := u22) rfl ⟨k + 1, ?_, rfl, ?_⟩
   ·first | omega | (simp only []; omega)
   ·exact ⟨by omega, rfl⟩
 ·try simp only [qB, qN] at hc1
  refine B_exit (K_seqX (K_loopX (K_blkX (K_seq (B_seq (B_region ?_))))))
  refine Lo u22 (v_move (.inl rfl) rfl) ?_
  refine Lo u22 (v_move (.inr rfl) rfl) ?_
  refine L_nil (K_seq (B_ret ?_))
  refine W10 (.inr rfl) (vres_tmp rfl rfl) ?_
  obtain rfl : k = a.length := by omega
  exact ⟨rfl, rfl⟩
theorem Size_spec {x : SW} (H : VHeap) (a : List Nat) (ha : Pat a) (hl : a.length ≤ 12) : F (psys x) 85 [fzN a] H fun v G => v = iI (szP a a.length : Nat) ∧ G = H := by
 have hz := @szP_le a a.length
 refine F_body Tryd.func85 rfl u9 rfl ?_
 refine B_seq (B_region ?_)
 refine Lo u9 (v_const (VVal.int .i64 0) (.inr rfl) rfl) ?_
 refine L_nil (K_seq (B_seq (B_seq (B_region ?_))))
 refine Lo u9 (v_move (.inl rfl) rfl) ?_
 refine L_call rfl rfl rfl (by exact Legal_spec _ _ ha hl) ?_
 rintro _ _ ⟨rfl, rfl⟩
 refine Le u9 ?_
 refine Lo u9 (rfl) ?_
 refine L_nil (K_seq ?_)
 refine B_false rfl rfl ?_
 refine B_skip (K_seq (B_seq (B_region ?_)))
 refine Lo u9 (v_move (.inl rfl) rfl) ?_
 refine L_call rfl rfl rfl (by exact top_spec _ _ ha hl) ?_
 rintro _ _ ⟨rfl, rfl⟩
 refine Le u9 ?_
 refine Lo u9 (v_val (v_addI rfl rfl rfl (by omega)) (show iI ((((szP a a.length : Nat) : Int) - 1) + 1) = iI (szP a a.length : Nat) by congr 1; omega)) ?_
 refine Lo u9 (v_move (.inr rfl) rfl) ?_
 refine L_nil (K_seq (B_ret ?_))
 refine W10 (.inr rfl) (vres_tmp rfl rfl) ?_
 exact ⟨rfl, rfl⟩
def bkK (a : List Nat) (b k : Nat) : List Nat := (List.range k).filter fun i => a.getD i 0 == b
abbrev bkL (a : List Nat) (b : Nat) : List Nat := bkK a b a.length
theorem bkK_yes {a : List Nat} {b k : Nat} (h : a.getD k 0 = b) : bkK a b (k + 1) = bkK a b k ++ [k] := by
  unfold bkK; rw [List.range_succ, List.filter_append, List.filter_cons, if_pos (by rw [h]; exact beq_self_eq_true b)]; rfl
theorem bkK_no {a : List Nat} {b k : Nat} (h : ¬ a.getD k 0 = b) : bkK a b (k + 1) = bkK a b k := by
  unfold bkK; rw [List.range_succ, List.filter_append, List.filter_cons, if_neg (by simpa using h)]; simp
theorem bkK_len {a : List Nat} {b k : Nat} : (bkK a b k).length ≤ k := by
  unfold bkK; exact Nat.le_trans (List.length_filter_le _ _) (by simp)
theorem bkL_mem {a : List Nat} {b i : Nat} : i ∈ bkL a b ↔ i < a.length ∧ a.getD i 0 = b := by
  unfold bkL bkK; rw [List.mem_filter, List.mem_range, beq_iff_eq]
abbrev bkC (a : List Nat) (b : Nat) : List VVal := (List.range b).map fun c => fzN (bkL a c)
theorem bkC_succ {a : List Nat} {b : Nat} : bkC a (b + 1) = bkC a b ++ [fzN (bkL a b)] := by
  show (List.range (b + 1)).map _ = _; rw [List.range_succ, List.map_append]; rfl
theorem bkC_get {a : List Nat} {b i : Nat} (h : i < b) : (bkC a b)[((i : Nat) : Int).toNat * 1]? = some (fzN (bkL a i)) := by
  rw [Int.toNat_natCast, Nat.mul_one]; simp [h]
theorem LV.pushN {h : Nat} {X : VHeap} {v : VVal} {l : List Nat} {w : Nat} (r : LV h 1 X v (rcN l ++ [iI (w : Nat)]) (l.length + 1)) : LV h 1 X v (rcN (l ++ [w])) (l ++ [w]).length := by rw [rcN_snoc, List.length_append]; exact r
theorem Blocks_spec {x : SW} (H : VHeap) (a : List Nat) (ha : Pat a) (hl : a.length ≤ 12) : F (psys x) 103 [fzN a] H fun v G => v = .fsl (bkC a (szP a a.length)) (szP a a.length) 1 false ∧ G = H := by
 have hz := @szP_le a a.length
 refine F_body Tryd.func103 rfl u38 rfl ?_
 refine B_seq (B_region ?_)
 refine Lo u38 (v_const (VVal.slice none 0 0 true 0) (.inr rfl) rfl) ?_
 refine L_nil (K_seq (B_seq (B_region ?_)))
 refine Lo u38 (v_const (VVal.slice none 0 0 true 0) (.inr rfl) rfl) ?_
 refine L_nil (K_seq (B_seq (B_seq (B_region ?_))))
 refine Lo u38 (v_move (.inl rfl) rfl) ?_
 refine L_call rfl rfl rfl (by exact Legal_spec _ _ ha hl) ?_
 rintro _ _ ⟨rfl, rfl⟩
 refine Le u38 ?_
 refine Lo u38 (rfl) ?_
 refine L_nil (K_seq ?_)
 refine B_false rfl rfl ?_
 refine B_skip (K_seq (B_seq (B_seq (B_region ?_))))
 refine Lo u38 (v_const (VVal.int .i64 0) (.inr rfl) rfl) ?_
 refine L_nil (K_seq (B_block ?_))
 refine B_clear (mk 38 274877906918) (env' := u38) rfl ?_
 refine B_loopE (fun (⟨b, lv⟩ : Nat × VVal) => szP a a.length - b) (fun (⟨b, lv⟩ : Nat × VVal) => [(3, lv), (4, iI (b : Nat))]) (fun (⟨b, lv⟩ : Nat × VVal) G => (b ≤ szP a a.length) ∧ ∃ X, G = H ++ X ∧ LV H.length 1 X lv (bkC a b) b) ⟨0, _⟩ rfl ?_ ?_
 ·refine ⟨?_, ⟨_, rfl, LV.nil _ _ _⟩⟩
  exact Nat.zero_le _
 rintro ⟨b, lv⟩ _ ⟨hb, ⟨X, rfl, hlv⟩⟩
 refine B_env (env' := u38) rfl ?_
 refine B_seq (B_seq (B_region ?_))
 refine Lo u38 (v_move (.inl rfl) rfl) ?_
 refine Lo u38 (v_move (.inl rfl) rfl) ?_
 refine L_call rfl rfl rfl (by exact top_spec _ _ ha hl) ?_
 rintro _ _ ⟨rfl, rfl⟩
 refine Le u38 ?_
 refine Lo u38 (rfl) ?_
 refine L_nil (K_seq ?_)
 refine B_cond _ rfl (fun hc1 => ?_) (fun hc1 => ?_)
 ·try simp only [qB, qN] at hc1
  refine B_skip (K_seq (B_seq (B_block (B_seq (B_region ?_)))))
  refine Lo u38 (v_const (VVal.slice none 0 0 true 0) (.inr rfl) rfl) ?_
  refine L_nil (K_seq (B_seq (B_seq (B_region ?_))))
  refine Lo u38 (v_const (VVal.int .i64 0) (.inr rfl) rfl) ?_
  refine L_nil (K_seq (B_block ?_))
  refine B_clear (mk 38 274877906822) (env' := u38) rfl ?_
  refine B_loopE (fun (⟨k, ov⟩ : Nat × VVal) => a.length - k) (fun (⟨k, ov⟩ : Nat × VVal) => [(5, ov), (6, iI (k : Nat))]) (fun (⟨k, ov⟩ : Nat × VVal) G => (k ≤ a.length) ∧ ∃ X, G = H ++ X ∧ LV H.length 1 X lv (bkC a b) b ∧ LV H.length 1 X ov (rcN (bkK a b k)) (bkK a b k).length ∧ Dj lv ov) ⟨0, _⟩ rfl ?_ ?_
  ·refine ⟨?_, ⟨X, rfl, hlv, LV.nil _ _ _, Dj.nil _⟩⟩
   exact Nat.zero_le _
  rintro ⟨k, ov⟩ _ ⟨hk, ⟨X, rfl, hlv, hov, hd⟩⟩
  refine B_env (env' := u38) rfl ?_
  refine B_seq (B_seq (B_region ?_))
  refine Lo u38 (v_move (.inl rfl) rfl) ?_
  refine Lo u38 (v_move (.inl rfl) rfl) ?_
  refine Lo u38 (rfl) ?_
  refine Lo u38 (rfl) ?_
  refine L_nil (K_seq ?_)
  refine B_cond _ rfl (fun hc2 => ?_) (fun hc2 => ?_)
  ·try simp only [qB, qN] at hc2
   refine B_skip (K_seq (B_seq (B_block (B_seq (B_region ?_)))))
   refine Lo u38 (v_move (.inl rfl) rfl) ?_
   refine Lo u38 (v_move (.inl rfl) rfl) ?_
   refine Lo u38 (W18 rfl rfl rfl rfl rfl rfl rfl) ?_
   refine Lo u38 (W4s rfl rfl rfl rfl) ?_
   refine Lo u38 (v_move (.inl rfl) rfl) ?_
   refine Lo u38 (rfl) ?_
   refine L_nil (K_seq ?_)
   refine B_cond _ rfl (fun hc3 => ?_) (fun hc3 => ?_)
   ·try simp only [qB, qN] at hc3
    refine B_region ?_
    refine Lo u38 (v_move (.inl rfl) rfl) ?_
    refine Lo u38 (v_move (.inl rfl) rfl) ?_
    refine Lo u38 (v_buildSlice rfl rfl (by decide) rfl) ?_
    refine L_opX rfl rfl (v_appX rfl rfl rfl rfl rfl rfl rfl hov rfl rfl (by decide) (by have := @bkK_len a b k; show (_ + 1) * 8 ≤ _ ∧ _ + 1 ≤ _; omega) (by decide)) ?_
    rintro _ _ ⟨Y1, rfl, rfl, hY1, hY2, hY3⟩
    refine Le u38 ?_
    refine Lo u38 (v_move (.inr rfl) rfl) ?_
    refine L_nil (K_blk (K_seq (B_region ?_)))
    refine Lo u38 (v_move (.inl rfl) rfl) ?_
    refine Lo u38 (W14 rfl rfl rfl) ?_
    refine Lo u38 (v_move (.inr rfl) rfl) ?_
    refine L_nil ?_
    refine K_loop (mk 38 274877906822) (env' := u38) rfl ⟨⟨k + 1, _⟩, ?_, rfl, ?_⟩
    ·first | omega | (simp only []; omega)
    ·first | exact ⟨by omega, _, rfl, LV.keepN hY3 hlv hd hY2, by rw [bkK_yes (by omega)]; exact LV.pushN hY3, LV.djN hY3 hlv⟩ | exact ⟨by omega, _, rfl, hlv, by rw [bkK_no (by omega)]; exact hov, hd⟩
   ·try simp only [qB, qN] at hc3
    refine B_skip (K_blk (K_seq (B_region ?_)))
    refine Lo u38 (v_move (.inl rfl) rfl) ?_
    refine Lo u38 (W14 rfl rfl rfl) ?_
    refine Lo u38 (v_move (.inr rfl) rfl) ?_
    refine L_nil ?_
    refine K_loop (mk 38 274877906822) (env' := u38) rfl ⟨⟨k + 1, _⟩, ?_, rfl, ?_⟩
    ·first | omega | (simp only []; omega)
    ·first | exact ⟨by omega, _, rfl, LV.keepN hY3 hlv hd hY2, by rw [bkK_yes (by omega)]; exact LV.pushN hY3, LV.djN hY3 hlv⟩ | exact ⟨by omega, _, rfl, hlv, by rw [bkK_no (by omega)]; exact hov, hd⟩
  ·try simp only [qB, qN] at hc2
   refine B_exit (K_seqX (K_loopX (K_blkX (K_seq ?_))))
   obtain rfl : k = a.length := by omega
   refine B_ghLV (env' := u38) 5 hov rfl rfl fun X4 hX4 hF4 => ?_
   have hlv := LV.keep hlv hd hF4
   refine B_region ?_
   refine Lo u38 (v_move (.inl rfl) rfl) ?_
   refine Lo u38 (v_move (.inl rfl) rfl) ?_
   refine Lo u38 (v_buildSlice rfl rfl (by decide) rfl) ?_
   refine L_opX rfl rfl (v_appX rfl rfl rfl rfl rfl rfl rfl hlv rfl rfl (by decide) (by show (b + 1) * 24 ≤ _ ∧ b + 1 ≤ _; omega) (by decide)) ?_
   rintro _ _ ⟨Y1, rfl, rfl, hY1, hY2, hY3⟩
   refine Le u38 ?_
   refine Lo u38 (v_move (.inr rfl) rfl) ?_
   refine L_nil (K_blk (K_seq (B_region ?_)))
   refine Lo u38 (v_move (.inl rfl) rfl) ?_
   refine Lo u38 (W14 rfl rfl rfl) ?_
   refine Lo u38 (v_move (.inr rfl) rfl) ?_
   refine L_nil ?_
   refine K_loop (mk 38 274877906918) (env' := u38) rfl ⟨⟨b + 1, _⟩, ?_, rfl, ?_⟩
   ·first | omega | (simp only []; omega)
   ·exact ⟨by omega, _, rfl, by rw [bkC_succ]; exact hY3⟩
 ·try simp only [qB, qN] at hc1
  refine B_exit (K_seqX (K_loopX (K_blkX (K_seq (B_seq (B_region ?_))))))
  refine Lo u38 (v_move (.inl rfl) rfl) ?_
  refine Lo u38 (v_move (.inr rfl) rfl) ?_
  refine L_nil (K_seq (B_ret ?_))
  refine E_gh (.inr rfl) (vres_tmp rfl rfl) (Gh.ansLV (BaseOk.refl _) hlv (VVal.underL_map (f := fun c => fzN (bkL a c)) fun c => mapN_under _ _)) ?_
  obtain rfl : b = szP a a.length := by omega
  exact ⟨rfl, rfl⟩
end Go.Proofs.YtnbihdflnjpinaaDoor.VT

set_option autoImplicit false
set_option linter.unusedVariables false
set_option linter.unusedSimpArgs false
set_option maxHeartbeats 4000000
set_option maxRecDepth 100000
namespace Go.Proofs.YtnbihdflnjpinaaDoor.VT
open Go Go.V Go.RowKit
abbrev u24 {a0 a1 a2 a3 a4 a5 a6 a7 a8 a9 a10 a11 a12 a13 a14 a15 a16 a17 a18 a19 a20 a21 a22 a23 : VVal} : VEnv := a0 :: a1 :: a2 :: a3 :: a4 :: a5 :: a6 :: a7 :: a8 :: a9 :: a10 :: a11 :: a12 :: a13 :: a14 :: a15 :: a16 :: a17 :: a18 :: a19 :: a20 :: a21 :: a22 :: a23 :: []
abbrev u58 {a0 a1 a2 a3 a4 a5 a6 a7 a8 a9 a10 a11 a12 a13 a14 a15 a16 a17 a18 a19 a20 a21 a22 a23 a24 a25 a26 a27 a28 a29 a30 a31 a32 a33 a34 a35 a36 a37 a38 a39 a40 a41 a42 a43 a44 a45 a46 a47 a48 a49 a50 a51 a52 a53 a54 a55 a56 a57 : VVal} : VEnv := a0 :: a1 :: a2 :: a3 :: a4 :: a5 :: a6 :: a7 :: a8 :: a9 :: a10 :: a11 :: a12 :: a13 :: a14 :: a15 :: a16 :: a17 :: a18 :: a19 :: a20 :: a21 :: a22 :: a23 :: a24 :: a25 :: a26 :: a27 :: a28 :: a29 :: a30 :: a31 :: a32 :: a33 :: a34 :: a35 :: a36 :: a37 :: a38 :: a39 :: a40 :: a41 :: a42 :: a43 :: a44 :: a45 :: a46 :: a47 :: a48 :: a49 :: a50 :: a51 :: a52 :: a53 :: a54 :: a55 :: a56 :: a57 :: []
theorem W5z {T : TypeId → Option VTy} {H : VHeap} {op : Op} {ρ : Operand → VVal} {t : TypeId} {a : Operand} {y : VTy} {p v : VVal} (ho : op = .load t a) (ha : ρ a = p) (hy : T t = some y) (hd : isAggDesc y.desc = false) (h : LdOk H p v := by first | exact .inl ⟨_, _, rfl, by first | rfl | assumption | exact bkC_get (by omega) | exact fgetN (α := Nat) 0 (by omega)⟩ | exact .inr ⟨_, _, _, _, rfl, by first | exact get_app rfl rfl | exact get_out (by assumption) | exact getE0 rfl rfl | exact get_out (get_app rfl rfl) | exact get_app rfl (by assumption) | assumption | (simp only [List.append_assoc, List.singleton_append, List.cons_append, List.nil_append]; refine getE (i := 0) rfl ?_ rfl; simp; done) | (simp only [List.append_assoc, List.singleton_append, List.cons_append, List.nil_append]; refine getE (i := 1) rfl ?_ rfl; simp; done) | (simp only [List.append_assoc, List.singleton_append, List.cons_append, List.nil_append]; refine getE (i := 2) rfl ?_ rfl; simp; done) | (simp only [List.append_assoc, List.singleton_append, List.cons_append, List.nil_append]; refine getE (i := 3) rfl ?_ rfl; simp; done) | (simp [*]; done), by first | rfl | assumption | exact bkC_get (by omega) | exact fgetN (α := Nat) 0 (by omega)⟩) : vop T ρ H op = some (v, H) := v_ld ho ha hy hd h
theorem W61 {T : TypeId → Option VTy} {H : VHeap} {op : Op} {ρ : Operand → VVal} {t : TypeId} {a : Operand} {y : VTy} {p : VVal} {n : Nat} {vs : List VVal} (ho : op = .load t a) (ha : ρ a = p) (hy : T t = some y) (hd : isAggDesc y.desc = true) (hn : y.size = n) (h : LdOkA H p n vs := by first | exact .inl ⟨_, _, rfl, by first | rfl | assumption | exact bkC_get (by omega) | exact fgetN (α := Nat) 0 (by omega)⟩ | exact .inr ⟨_, _, _, _, rfl, by first | exact get_app rfl rfl | exact get_out (by assumption) | exact getE0 rfl rfl | exact get_out (get_app rfl rfl) | exact get_app rfl (by assumption) | assumption | (simp only [List.append_assoc, List.singleton_append, List.cons_append, List.nil_append]; refine getE (i := 0) rfl ?_ rfl; simp; done) | (simp only [List.append_assoc, List.singleton_append, List.cons_append, List.nil_append]; refine getE (i := 1) rfl ?_ rfl; simp; done) | (simp only [List.append_assoc, List.singleton_append, List.cons_append, List.nil_append]; refine getE (i := 2) rfl ?_ rfl; simp; done) | (simp only [List.append_assoc, List.singleton_append, List.cons_append, List.nil_append]; refine getE (i := 3) rfl ?_ rfl; simp; done) | (simp [*]; done), by first | rfl | assumption | exact bkC_get (by omega) | exact fgetN (α := Nat) 0 (by omega)⟩) : vop T ρ H op = some (.agg vs, H) := v_ldA ho ha hy hd hn h
theorem W66 {P : Prop} (h : P := by first | exact ⟨by rw [erlA_no (k := k) (by omega) (by assumption)], rfl⟩ | exact ⟨by rw [erlA_all (by omega) hall], rfl⟩) : P := h
theorem myB_lt {p : Pb} {i u : Nat} (g : Go.V.Good p) (hi : i < p.who.length) (h : (wrd p i).getLsbD u = true) : u < p.users.toNat := by
  have h1 : myB p i (u : Nat) = true := myB_nat.2 h
  have g4 := g.u0
  by_cases hf : 0 ≤ p.fixed.getD i 0
  · rw [myB_f g hi hf, decide_eq_true_eq] at h1
    have := (okW_in g hi).1; omega
  · rw [myB_w g hi (by omega), Bool.and_eq_true, decide_eq_true_eq] at h1; omega
abbrev rwP (p : Pb) (a : List Nat) (i : Nat) : Nat → Bool := fun u => (bkL a i).all fun j => myB p j (u : Nat)
theorem row_is {p : Pb} {a : List Nat} {i : Nat} (g : Go.V.Good p) (ha : Pat a) (hl : a.length = p.who.length) (hi : i < szP a a.length) : wdP (rwP p a i) p.users.toNat = (blkN (wsP p) a a.length).getD i 0 := by
  refine word_ext fun v hv => ?_
  rw [wdP_bit hv, Bool.eq_iff_iff, Bool.and_eq_true, decide_eq_true_eq, blk_bit ha hi, List.all_eq_true]
  constructor
  · rintro ⟨_, h⟩ j hj e
    have := h j (bkL_mem.2 ⟨hj, e⟩)
    rw [myB_nat] at this
    rw [wsP_get (by omega)]; exact this
  · intro h
    refine ⟨?_, fun j hj => ?_⟩
    · obtain ⟨j, hj, e⟩ := pat_onto ha hi
      have := h j hj e
      rw [wsP_get (by omega)] at this
      exact myB_lt g (by omega) this
    · obtain ⟨h1, h2⟩ := bkL_mem.1 hj
      have := h j h1 h2
      rw [wsP_get (by omega)] at this
      exact myB_nat.2 this
theorem allN_step {l : List Nat} {k : Nat} {f : Nat → Bool} (h : k < l.length) : (l.take (k + 1)).all f = ((l.take k).all f && f (l.getD k 0)) := by
  rw [take_at (d := 0) h, List.all_append, List.all_cons, List.all_nil, Bool.and_true]
theorem bkL_at {a : List Nat} {b k : Nat} (h : k < (bkL a b).length) : (bkL a b).getD k 0 < a.length := by
  have : (bkL a b).getD k 0 ∈ bkL a b := by rw [List.getD_eq_getElem?_getD, List.getElem?_eq_getElem h]; simp
  exact (bkL_mem.1 this).1
theorem Rows_spec {x : SW} (H : VHeap) (p : Pb) (g : Go.V.Good p) (a : List Nat) (ha : Pat a) (hl : a.length = p.who.length) : F (psys x) 84 [.agg (pbB p), fzN a] H fun v G => v = fzW (blkN (wsP p) a a.length) ∧ G = H := by
 have g1 := g.n12; have g2 := g.u64; have g4 := g.u0
 have hz := @szP_le a a.length
 have hbl := @blkN_len (wsP p) a a.length
 refine F_body Tryd.func84 rfl u58 rfl ?_
 refine B_seq (B_region ?_)
 refine Lo u58 (v_boxT rfl rfl rfl) ?_
 refine Lo u58 (v_const (VVal.slice none 0 0 true 0) (.inr rfl) rfl) ?_
 refine L_nil (K_seq (B_seq ?_))
 refine B_gh (Gh.freezePtrL (cs := pbB p) 2 0 rfl rfl rfl) ?_
 refine B_region ?_
 refine Lo u58 (v_const (VVal.slice none 0 0 true 0) (.inr rfl) rfl) ?_
 refine L_nil (K_seq (B_seq (B_region ?_)))
 refine Lo u58 (v_move (.inl rfl) rfl) ?_
 refine L_call rfl rfl rfl (by exact Blocks_spec _ a ha (by omega)) ?_
 rintro _ _ ⟨rfl, rfl⟩
 refine Le u58 ?_
 refine Lo u58 (v_move (.inr rfl) rfl) ?_
 refine L_nil (K_seq (B_seq (B_seq (B_region ?_))))
 refine Lo u58 (v_const (VVal.int .i64 0) (.inr rfl) rfl) ?_
 refine L_nil (K_seq (B_block ?_))
 refine B_clear (mk 58 288230376151711515) (env' := u58) rfl ?_
 refine B_loopE (fun (⟨i, lv⟩ : Nat × VVal) => szP a a.length - i) (fun (⟨i, lv⟩ : Nat × VVal) => [(5, lv), (7, iI (i : Nat))]) (fun (⟨i, lv⟩ : Nat × VVal) G => (i ≤ szP a a.length) ∧ ∃ X, G = H ++ X ∧ LV H.length 1 X lv (((blkN (wsP p) a a.length).take i).map iW) ((blkN (wsP p) a a.length).take i).length) ⟨0, _⟩ rfl ?_ ?_
 ·refine ⟨?_, ⟨_, rfl, LV.nil _ _ _⟩⟩
  exact Nat.zero_le _
 rintro ⟨i, lv⟩ _ ⟨hi, ⟨X, rfl, hlv⟩⟩
 refine B_env (env' := u58) rfl ?_
 refine B_seq (B_seq (B_region ?_))
 refine Lo u58 (v_move (.inl rfl) rfl) ?_
 refine Lo u58 (v_move (.inl rfl) rfl) ?_
 refine Lo u58 (rfl) ?_
 refine Lo u58 (rfl) ?_
 refine L_nil (K_seq ?_)
 refine B_cond _ rfl (fun hc1 => ?_) (fun hc1 => ?_)
 ·try simp only [qB, qN] at hc1
  refine B_skip (K_seq (B_seq (B_block (B_seq (B_region ?_)))))
  refine Lo u58 (v_const (VVal.int .u64 0) (.inr rfl) rfl) ?_
  refine L_nil (K_seq (B_seq (B_seq (B_region ?_))))
  refine Lo u58 (v_const (VVal.int .i64 0) (.inr rfl) rfl) ?_
  refine L_nil (K_seq (B_block ?_))
  refine B_clear (mk 58 288230376151710747) (env' := u58) rfl ?_
  refine B_loopE (fun (u : Nat) => p.users.toNat - u) (fun (u : Nat) => [(8, iW (wdP (rwP p a i) u)), (9, iI (u : Nat))]) (fun (u : Nat) G => (u ≤ p.users.toNat) ∧ G = H ++ X) 0 (by rw [show wdP (rwP p a i) 0 = 0#64 from wdP_0 _]; rfl) ?_ ?_
  ·refine ⟨?_, rfl⟩
   exact Nat.zero_le _
  rintro u _ ⟨hu, rfl⟩
  refine B_env (env' := u58) rfl ?_
  refine B_seq (B_seq (B_region ?_))
  refine Lo u58 (v_move (.inl rfl) rfl) ?_
  refine Lo u58 (rfl) ?_
  refine Lo u58 (W5z rfl rfl rfl rfl) ?_
  refine Lo u58 (rfl) ?_
  refine L_nil (K_seq ?_)
  refine B_cond _ rfl (fun hc2 => ?_) (fun hc2 => ?_)
  ·try simp only [qB, qN] at hc2
   refine B_skip (K_seq (B_seq (B_block (B_seq (B_region ?_)))))
   refine Lo u58 (v_const (VVal.bool true) (.inr rfl) rfl) ?_
   refine L_nil (K_seq (B_seq (B_seq (B_region ?_))))
   refine Lo u58 (v_const (VVal.int .i64 0) (.inr rfl) rfl) ?_
   refine L_nil (K_seq (B_block ?_))
   refine B_clear (mk 58 288230376151707675) (env' := u58) rfl ?_
   refine B_loopE (fun (⟨k, okb⟩ : Nat × Bool) => (bkL a i).length - k) (fun (⟨k, okb⟩ : Nat × Bool) => [(10, .bool okb), (11, iI (k : Nat))]) (fun (⟨k, okb⟩ : Nat × Bool) G => (k ≤ (bkL a i).length ∧ okb = ((bkL a i).take k).all fun j => myB p j (u : Nat)) ∧ G = H ++ X) ⟨0, true⟩ rfl ?_ ?_
   ·refine ⟨?_, rfl⟩
    exact ⟨Nat.zero_le _, rfl⟩
   rintro ⟨k, okb⟩ _ ⟨⟨hk, hok⟩, rfl⟩
   refine B_env (env' := u58) rfl ?_
   refine B_seq (B_seq ?_)
   have hbk : (bkL a i).length ≤ a.length := bkK_len
   refine B_region ?_
   refine Lo u58 (v_move (.inl rfl) rfl) ?_
   refine Lo u58 (v_move (.inl rfl) rfl) ?_
   refine Lo u58 (v_move (.inl rfl) rfl) ?_
   refine Lo u58 (W18 rfl rfl rfl rfl rfl rfl rfl) ?_
   refine Lo u58 (W5z rfl rfl rfl rfl) ?_
   refine Lo u58 (rfl) ?_
   refine Lo u58 (rfl) ?_
   refine L_nil (K_seq ?_)
   refine B_cond _ rfl (fun hc3 => ?_) (fun hc3 => ?_)
   ·try simp only [qB, qN] at hc3
    refine B_skip (K_seq (B_seq (B_block ?_)))
    refine B_draw [0, 1, 2, 3, 4, 5, 6, 7, 8, 9, 10, 11, 12, 13] #[0, 1, 3, 3, 3, 27, 59, 3, 251, 507, 3, 2047, 4095, 8191] (by kernel_rfl) (by kernel_rfl) (by kernel_rfl) ?_
    refine Oo u58 .calm rfl (v_move (.inl rfl) rfl) ?_
    refine Oo u58 .calm rfl (v_move (.inl rfl) rfl) ?_
    refine O_split 36 (env1 := u58) (env2 := u58) rfl rfl rfl (fun hg4 => ?_) (fun hg4 => ?_)
    ·try simp only [qB, qN] at hg4
     refine Oo u58 .look rfl (W61 rfl rfl rfl rfl rfl) ?_
     refine Oo u58 .calm rfl (v_move (.inl rfl) rfl) ?_
     refine Oo u58 .calm rfl (v_move (.inl rfl) rfl) ?_
     refine Oo u58 .calm rfl (W18 rfl rfl rfl rfl rfl rfl rfl) ?_
     refine Oo u58 .look rfl (W5z rfl rfl rfl rfl) ?_
     refine Oo u58 .calm rfl (v_move (.inl rfl) rfl) ?_
     refine Oo u58 .calm rfl (W18 rfl rfl rfl rfl rfl rfl rfl) ?_
     refine Oo u58 .look rfl (W5z rfl rfl rfl rfl) ?_
     refine Oo u58 .calm rfl (v_move (.inl rfl) rfl) ?_
     refine O_call (env' := u58) rfl rfl rfl rfl rfl (by exact May_spec _ p g ((bkL a i).getD k 0) (by have := bkL_at (a := a) (b := i) (k := k) (by omega); omega) (u : Nat)) (by first | exact Nat.le_refl _ | simp) rfl rfl ?_
     refine Oo u58 .calm rfl (v_pickT rfl rfl rfl) ?_
     refine Oo u58 .calm rfl (v_move (.inr rfl) rfl) ?_
     refine O_nil [] (by kernel_rfl) (trivial) ?_
     refine K_blk (K_seq (B_region ?_))
     refine Lo u58 (v_move (.inl rfl) rfl) ?_
     refine Lo u58 (W14 rfl rfl rfl) ?_
     refine Lo u58 (v_move (.inr rfl) rfl) ?_
     refine L_nil ?_
     refine K_loop (mk 58 288230376151707675) (env' := u58) rfl ⟨⟨k + 1, _⟩, ?_, rfl, ?_⟩
     ·first | omega | (simp only []; omega)
     ·first | exact ⟨⟨by omega, by rw [allN_step (by omega), ← hok, (show okb = true by assumption), Bool.true_and]⟩, rfl⟩ | exact ⟨⟨by omega, by rw [allN_step (by omega), ← hok, (show okb = false by simp_all), Bool.false_and]⟩, rfl⟩
    ·try simp only [qB, qN] at hg4
     refine Of u58 rfl ?_
     refine Of u58 rfl ?_
     refine Of u58 rfl ?_
     refine Of u58 rfl ?_
     refine Of u58 rfl ?_
     refine Of u58 rfl ?_
     refine Of u58 rfl ?_
     refine Of u58 rfl ?_
     refine Of u58 rfl ?_
     refine Of u58 rfl ?_
     refine Oo u58 .calm rfl (v_pickFC (VVal.bool false) rfl rfl rfl) ?_
     refine Oo u58 .calm rfl (v_move (.inr rfl) rfl) ?_
     refine O_nil [] (by kernel_rfl) (trivial) ?_
     refine K_blk (K_seq (B_region ?_))
     refine Lo u58 (v_move (.inl rfl) rfl) ?_
     refine Lo u58 (W14 rfl rfl rfl) ?_
     refine Lo u58 (v_move (.inr rfl) rfl) ?_
     refine L_nil ?_
     refine K_loop (mk 58 288230376151707675) (env' := u58) rfl ⟨⟨k + 1, _⟩, ?_, rfl, ?_⟩
     ·first | omega | (simp only []; omega)
     ·first | exact ⟨⟨by omega, by rw [allN_step (by omega), ← hok, (show okb = true by assumption), Bool.true_and]⟩, rfl⟩ | exact ⟨⟨by omega, by rw [allN_step (by omega), ← hok, (show okb = false by simp_all), Bool.false_and]⟩, rfl⟩
   ·try simp only [qB, qN] at hc3
    refine B_exit (K_seqX (K_loopX (K_blkX (K_seq (B_seq (B_region ?_))))))
    refine Lo u58 (v_move (.inl rfl) rfl) ?_
    refine L_nil (K_seq ?_)
    refine B_cond _ rfl (fun hc5 => ?_) (fun hc5 => ?_)
    ·try simp only [qB, qN] at hc5
     refine B_region ?_
     refine Lo u58 (v_move (.inl rfl) rfl) ?_
     refine Lo u58 (v_move (.inl rfl) rfl) ?_
     refine Lo u58 (v_shl1 rfl rfl rfl (by first | assumption | omega | (simp [*]; done) | (simp at *; omega))) ?_
     refine Lo u58 (v_orW rfl rfl rfl) ?_
     refine Lo u58 (v_move (.inr rfl) rfl) ?_
     refine L_nil (K_blk (K_seq (B_region ?_)))
     refine Lo u58 (v_move (.inl rfl) rfl) ?_
     refine Lo u58 (W14 rfl rfl rfl) ?_
     refine Lo u58 (v_move (.inr rfl) rfl) ?_
     refine L_nil ?_
     obtain rfl : k = (bkL a i).length := by omega
     rw [List.take_length] at hok
     first
       | (have hE : (wdP (rwP p a i) u) ||| 1#64 <<< (u : Int).toNat = wdP (rwP p a i) (u + 1) := wdP_yes (hok.symm.trans (by assumption))); rw [hE]
       | (have hE : (wdP (rwP p a i) u) = wdP (rwP p a i) (u + 1) := wdP_no (hok.symm.trans (by assumption))); rw [hE]
     refine K_loop (mk 58 288230376151710747) (env' := u58) rfl ⟨u + 1, ?_, rfl, ?_⟩
     ·first | omega | (simp only []; omega)
     ·exact ⟨by omega, rfl⟩
    ·try simp only [qB, qN] at hc5
     refine B_skip (K_blk (K_seq (B_region ?_)))
     refine Lo u58 (v_move (.inl rfl) rfl) ?_
     refine Lo u58 (W14 rfl rfl rfl) ?_
     refine Lo u58 (v_move (.inr rfl) rfl) ?_
     refine L_nil ?_
     obtain rfl : k = (bkL a i).length := by omega
     rw [List.take_length] at hok
     first
       | (have hE : (wdP (rwP p a i) u) ||| 1#64 <<< (u : Int).toNat = wdP (rwP p a i) (u + 1) := wdP_yes (hok.symm.trans (by assumption))); rw [hE]
       | (have hE : (wdP (rwP p a i) u) = wdP (rwP p a i) (u + 1) := wdP_no (hok.symm.trans (by assumption))); rw [hE]
     refine K_loop (mk 58 288230376151710747) (env' := u58) rfl ⟨u + 1, ?_, rfl, ?_⟩
     ·first | omega | (simp only []; omega)
     ·exact ⟨by omega, rfl⟩
  ·try simp only [qB, qN] at hc2
   refine B_exit (K_seqX (K_loopX (K_blkX (K_seq ?_))))
   obtain rfl : u = p.users.toNat := by omega
   rw [row_is g ha hl (by omega)]
   refine B_region ?_
   refine Lo u58 (v_move (.inl rfl) rfl) ?_
   refine Lo u58 (v_move (.inl rfl) rfl) ?_
   refine Lo u58 (v_buildSlice rfl rfl (by decide) rfl) ?_
   refine L_opX rfl rfl (v_appX rfl rfl rfl rfl rfl rfl rfl hlv rfl rfl (by decide) (by rw [List.length_take]; show (_ + 1) * 8 ≤ _ ∧ _ + 1 ≤ _; omega) (by decide)) ?_
   rintro _ _ ⟨Y1, rfl, rfl, hY1, hY2, hY3⟩
   refine Le u58 ?_
   refine Lo u58 (v_move (.inr rfl) rfl) ?_
   refine L_nil (K_blk (K_seq (B_region ?_)))
   refine Lo u58 (v_move (.inl rfl) rfl) ?_
   refine Lo u58 (W14 rfl rfl rfl) ?_
   refine Lo u58 (v_move (.inr rfl) rfl) ?_
   refine L_nil ?_
   refine K_loop (mk 58 288230376151711515) (env' := u58) rfl ⟨⟨i + 1, _⟩, ?_, rfl, ?_⟩
   ·first | omega | (simp only []; omega)
   ·exact ⟨by omega, _, rfl, by rw [take_at (d := 0) (by omega)]; exact LV.pushW hY3⟩
 ·try simp only [qB, qN] at hc1
  refine B_exit (K_seqX (K_loopX (K_blkX (K_seq (B_seq (B_region ?_))))))
  refine Lo u58 (v_move (.inl rfl) rfl) ?_
  refine Lo u58 (v_move (.inr rfl) rfl) ?_
  refine L_nil (K_seq (B_ret ?_))
  refine E_gh (.inr rfl) (vres_tmp rfl rfl) (Gh.ansLV (BaseOk.refl _) hlv (mapW_under _ _)) ?_
  rw [List.take_of_length_le (by omega)]
  exact ⟨rfl, rfl⟩
theorem fEarlyN {x : SW} (H : VHeap) (r : Rul) (n : Int) (a : List Nat) (hl : r.steps.length ≤ 1000000) : F (psys x) 97 [.agg (rlB r), iI n, fzN a] H fun v G => v = .bool (erl r n (zI a)) ∧ G = H := by
  rw [fzN_is]; exact fEarly_spec H r n (zI a) hl
theorem erlA_no {n : Nat} {rs : List Rul} {a : List Nat} {k : Nat} (hk : k < rs.length) (h : erl (rs.getD k r0) n (zI a) = false) : erlA n rs a = false := all_bad (f := fun r => erl r n (zI a)) hk h
theorem erlA_all {n : Nat} {rs : List Rul} {a : List Nat} {k : Nat} (hk : rs.length ≤ k) (h : (rs.take k).all (fun r => erl r n (zI a)) = true) : erlA n rs a = true := all_full hk h
theorem early_spec {x : SW} (H : VHeap) (p : Pb) (hp : PbL p) (a : List Nat) : F (psys x) 82 [.agg (pbB p), fzN a] H fun v G => v = .bool (erlA p.who.length p.rules a) ∧ G = H := by
 have h1 := hp.w; have h3 := hp.r; have h4 := hp.s
 refine F_body Tryd.func82 rfl u24 rfl ?_
 refine B_seq (B_region ?_)
 refine Lo u24 (v_boxT rfl rfl rfl) ?_
 refine Lo u24 (v_const (VVal.bool false) (.inr rfl) rfl) ?_
 refine L_nil (K_seq (B_seq (B_seq ?_)))
 refine B_gh (Gh.freezePtrL (cs := pbB p) 2 0 rfl rfl rfl) ?_
 refine B_region ?_
 refine Lo u24 (v_const (VVal.int .i64 0) (.inr rfl) rfl) ?_
 refine L_nil (K_seq (B_block ?_))
 refine B_clear (mk 24 16777177) (env' := u24) rfl ?_
 refine B_loopE (fun (k : Nat) => p.rules.length - k) (fun (k : Nat) => [(5, iI (k : Nat))]) (fun (k : Nat) G => (k ≤ p.rules.length ∧ (p.rules.take k).all (fun r => erl r p.who.length (zI a)) = true) ∧ G = H ++ [.dead]) 0 rfl ?_ ?_
 ·refine ⟨?_, rfl⟩
  exact ⟨Nat.zero_le _, rfl⟩
 rintro k _ ⟨⟨hk, hall⟩, rfl⟩
 refine B_env (env' := u24) rfl ?_
 refine B_seq (B_seq (B_region ?_))
 refine Lo u24 (v_move (.inl rfl) rfl) ?_
 refine Lo u24 (rfl) ?_
 refine Lo u24 (W58 rfl rfl rfl rfl) ?_
 refine Lo u24 (rfl) ?_
 refine Lo u24 (rfl) ?_
 refine L_nil (K_seq ?_)
 refine B_cond _ rfl (fun hc1 => ?_) (fun hc1 => ?_)
 ·try simp only [qB, qN] at hc1
  refine B_skip (K_seq (B_seq (B_block (B_seq ?_))))
  refine B_draw [0, 1, 2, 3, 4, 5, 6, 7, 8, 9, 10] #[0, 1, 0, 7, 15, 0, 32, 96, 0, 511, 1023] (by kernel_rfl) (by kernel_rfl) (by kernel_rfl) ?_
  refine Oo u24 .calm rfl (rfl) ?_
  refine Oo u24 .look rfl (W58 rfl rfl rfl rfl) ?_
  refine Oo u24 .calm rfl (v_move (.inl rfl) rfl) ?_
  refine Oo u24 .calm rfl (W18 rfl rfl rfl rfl rfl rfl rfl) ?_
  refine Oo u24 .look rfl (W5o rfl rfl rfl rfl rfl) ?_
  refine Oo u24 .calm rfl (rfl) ?_
  refine Oo u24 .look rfl (W58 rfl rfl rfl rfl) ?_
  refine Oo u24 .look rfl (rfl) ?_
  refine Oo u24 .calm rfl (v_move (.inl rfl) rfl) ?_
  refine O_call (env' := u24) rfl rfl rfl rfl rfl (by exact fEarlyN _ _ _ _ (h4 _ (rul_mem (by omega)))) (by first | exact Nat.le_refl _ | simp) rfl rfl ?_
  refine Oo u24 .calm rfl (rfl) ?_
  refine O_nil [] (by kernel_rfl) (trivial) ?_
  refine K_seq ?_
  refine B_cond _ rfl (fun hc2 => ?_) (fun hc2 => ?_)
  ·try simp only [qB, qN] at hc2
   refine B_seq (B_region ?_)
   refine Lo u24 (v_const (VVal.bool false) (.inr rfl) rfl) ?_
   refine L_nil (K_seq (B_ret (K_blkR (K_seqR (K_loopR (K_blkR (K_seqR ?_)))))))
   refine W10 (.inr rfl) (vres_tmp rfl rfl) ?_
   exact W66
  ·try simp only [qB, qN] at hc2
   refine B_skip (K_blk (K_seq (B_region ?_)))
   refine Lo u24 (v_move (.inl rfl) rfl) ?_
   refine Lo u24 (W14 rfl rfl rfl) ?_
   refine Lo u24 (v_move (.inr rfl) rfl) ?_
   refine L_nil ?_
   refine K_loop (mk 24 16777177) (env' := u24) rfl ⟨k + 1, ?_, rfl, ?_⟩
   ·first | omega | (simp only []; omega)
   ·exact ⟨⟨by omega, all_step (by omega) hall (by assumption)⟩, rfl⟩
 ·try simp only [qB, qN] at hc1
  refine B_exit (K_seqX (K_loopX (K_blkX (K_seq (B_seq (B_region ?_))))))
  refine Lo u24 (v_const (VVal.bool true) (.inr rfl) rfl) ?_
  refine L_nil (K_seq (B_ret ?_))
  refine W10 (.inr rfl) (vres_tmp rfl rfl) ?_
  exact W66
end Go.Proofs.YtnbihdflnjpinaaDoor.VT

set_option autoImplicit false
set_option linter.unusedVariables false
set_option linter.unusedSimpArgs false
set_option maxHeartbeats 4000000
set_option maxRecDepth 100000
namespace Go.Proofs.YtnbihdflnjpinaaDoor.VT
open Go Go.V Go.RowKit
abbrev u69 {a0 a1 a2 a3 a4 a5 a6 a7 a8 a9 a10 a11 a12 a13 a14 a15 a16 a17 a18 a19 a20 a21 a22 a23 a24 a25 a26 a27 a28 a29 a30 a31 a32 a33 a34 a35 a36 a37 a38 a39 a40 a41 a42 a43 a44 a45 a46 a47 a48 a49 a50 a51 a52 a53 a54 a55 a56 a57 a58 a59 a60 a61 a62 a63 a64 a65 a66 a67 a68 : VVal} : VEnv := a0 :: a1 :: a2 :: a3 :: a4 :: a5 :: a6 :: a7 :: a8 :: a9 :: a10 :: a11 :: a12 :: a13 :: a14 :: a15 :: a16 :: a17 :: a18 :: a19 :: a20 :: a21 :: a22 :: a23 :: a24 :: a25 :: a26 :: a27 :: a28 :: a29 :: a30 :: a31 :: a32 :: a33 :: a34 :: a35 :: a36 :: a37 :: a38 :: a39 :: a40 :: a41 :: a42 :: a43 :: a44 :: a45 :: a46 :: a47 :: a48 :: a49 :: a50 :: a51 :: a52 :: a53 :: a54 :: a55 :: a56 :: a57 :: a58 :: a59 :: a60 :: a61 :: a62 :: a63 :: a64 :: a65 :: a66 :: a67 :: a68 :: []
theorem W68 {T : TypeId → Option VTy} {H : VHeap} {op : Op} {ρ : Operand → VVal} {t : TypeId} {a : Operand} {y : VTy} {p v : VVal} (ho : op = .load t a) (ha : ρ a = p) (hy : T t = some y) (hd : isAggDesc y.desc = false) (h : LdOk H p v := by first | exact .inl ⟨_, _, rfl, by first | exact fget (α := BitVec 64) 0 (by omega) | exact fget0 (α := Int) 0 (by omega) | rfl⟩ | exact .inr ⟨_, _, _, _, rfl, by first | exact tr_q hqH | exact tr_p hpH hpq, by first | exact fget (α := BitVec 64) 0 (by omega) | exact fget0 (α := Int) 0 (by omega) | rfl⟩) : vop T ρ H op = some (v, H) := v_ld ho ha hy hd h
theorem W6a {T : TypeId → Option VTy} {H : VHeap} {op : Op} {ρ : VEnv} {H' : VHeap} {t : TypeId} {a : Operand} {i : Nat} {v : VVal} {y : VTy} {b off : Nat} {cs new : List VVal} (ho : op = .store t a (.tmp i)) (hv : ρ[i]? = some v) (ha : ρ.eval a = .ptr (some (b, off))) (hy : T t = some y) (hx : v.cells = some new) (hn : new.length = y.size) (h1 : new.all VVal.one = true) (hb : H[b]? = some (.cells cs true) := by first | exact tr_q hqH | exact tr_p hpH hpq) (hl : off + new.length ≤ cs.length := by first | exact Nat.le_of_ble_eq_true rfl | (simp only [List.length_map, List.length_cons, List.length_nil]; omega) | omega | (simp; done) | (simp; omega)) (hH : H.set b (.cells (splice cs off new) true) = H' := by exact tr_setq hqH) : vop T ρ.eval H op = some (.skip, H') := v_storeT ho hv ha hy hx hn h1 hb hl hH
theorem W6b {T : TypeId → Option VTy} {H : VHeap} {op : Op} {ρ : Operand → VVal} {t : TypeId} {a : Operand} {y : VTy} {p v : VVal} (ho : op = .load t a) (ha : ρ a = p) (hy : T t = some y) (hd : isAggDesc y.desc = false) (h : LdOk H p v := by first | exact .inl ⟨_, _, rfl, by exact fget0 (α := Int) (l := s1.1) 0 (by omega)⟩ | exact .inr ⟨_, _, _, _, rfl, by first | exact tr_q hqH | exact tr_p hpH hpq, by exact fget0 (α := Int) (l := s1.1) 0 (by omega)⟩) : vop T ρ H op = some (v, H) := v_ld ho ha hy hd h
theorem W6c {T : TypeId → Option VTy} {H : VHeap} {op : Op} {ρ : VEnv} {H' : VHeap} {t : TypeId} {a : Operand} {i : Nat} {v : VVal} {y : VTy} {b off : Nat} {cs new : List VVal} (ho : op = .store t a (.tmp i)) (hv : ρ[i]? = some v) (ha : ρ.eval a = .ptr (some (b, off))) (hy : T t = some y) (hx : v.cells = some new) (hn : new.length = y.size) (h1 : new.all VVal.one = true) (hb : H[b]? = some (.cells cs true) := by first | exact tr_q hqH | exact tr_p hpH hpq) (hl : off + new.length ≤ cs.length := by first | exact has_len (s := (s1.1, 0#64)) (show i < s1.1.length by omega) | exact has_len (s := (trn rows n k (s1.1, s1.2 ||| 1#64 <<< u)).2) (by rw [trn_len]; show i < s1.1.length; omega)) (hH : H.set b (.cells (splice cs off new) true) = H' := by first | exact tr_setp hpH hpq (show i < s1.1.length by omega) | exact tr_setp hpH hpq (by rw [trn_len]; show i < s1.1.length; omega)) : vop T ρ.eval H op = some (.skip, H') := v_storeT ho hv ha hy hx hn h1 hb hl hH
theorem W6d {S : V.Sys} {H : VHeap} {fn : Func} {ex : Exit} {env : VEnv} {B L : VHeap} {v : VVal} {R : VVal → VHeap → Prop} (hx : ex = .normal ∨ ex = .ret) (hv : vresults S.C.T env (B ++ L) fn.results = some v) (h : R v B) (hB : BaseOk H B := by exact tr_base) (hu : v.under H.length = true := by first | rfl | simp [VVal.under, VVal.underL, *]) : fnK S fn H R ex env (B ++ L) := E_app hx hv hB hu h
theorem W6e {P : Prop} (h : P := by first | (obtain rfl : u = 64 := by omega); exact ⟨by rw [hg]; rfl, by rw [hg]; rfl⟩ | exact ⟨by rw [hg, hf, if_pos (by omega)], by rw [hg, hf, if_pos (by omega)]; rfl⟩ | exact ⟨by rw [hg, hf, if_neg (by omega), if_pos (by assumption)], by rw [hg, hf, if_neg (by omega), if_pos (by assumption)]; rfl⟩) : P := h
abbrev haB (has : List Int) : VBlk := .cells (has.map iI) true
def trH (H : VHeap) (p q : Nat) (s : HSt) : VHeap := (H.set p (haB s.1)).set q (seB s.2)
section
variable {H L : VHeap} {p q : Nat} {s : HSt}
theorem trH_len {n : Nat} (h : H.length = n) : (trH H p q s).length = n := by unfold trH; rw [List.length_set, List.length_set]; exact h
theorem trH_id {has : List Int} {w : BitVec 64} (hp : H[p]? = some (haB has)) (hq : H[q]? = some (seB w)) : trH H p q (has, w) = H := by
  unfold trH; rw [← set_keep hp, ← set_keep hq]
theorem tr_q (hq : q < H.length) : (trH H p q s ++ L)[q]? = some (seB s.2) := by
  unfold trH; exact get_append (List.getElem?_set_self (by rw [List.length_set]; exact hq))
theorem tr_p (hp : p < H.length) (hpq : p ≠ q) : (trH H p q s ++ L)[p]? = some (haB s.1) := by
  unfold trH; exact get_append (by rw [List.getElem?_set_ne (Ne.symm hpq)]; exact List.getElem?_set_self hp)
theorem tr_setq {w : BitVec 64} (hq : q < H.length) : (trH H p q s ++ L).set q (seB w) = trH H p q (s.1, w) ++ L := by
  rw [set_out (by rw [trH_len rfl]; exact hq)]; unfold trH; rw [List.set_set]
theorem tr_setp0 {k : VBlk} (hp : p < H.length) (hpq : p ≠ q) : (trH H p q s ++ L).set p k = (H.set p k).set q (seB s.2) ++ L := by
  rw [set_out (by rw [trH_len rfl]; exact hp)]; unfold trH
  rw [List.set_comm _ _ (Ne.symm hpq), List.set_set]
theorem splice_i {l : List Int} {k : Nat} {r : Int} (h : k < l.length) : splice (l.map iI) (0 + k * 1) [iI r] = (l.set k r).map iI := by
  rw [show 0 + k * 1 = k by omega]
  unfold splice
  rw [List.map_set, List.set_eq_take_append_cons_drop, if_pos (by rw [List.length_map]; exact h)]; simp
theorem tr_setp {i : Nat} {r : Int} (hp : p < H.length) (hpq : p ≠ q) (hi : i < s.1.length) : (trH H p q s ++ L).set p (.cells (splice (s.1.map iI) (0 + i * 1) [iI r]) true) = trH H p q (s.1.set i r, s.2) ++ L := by
  rw [splice_i hi, tr_setp0 hp hpq]; rfl
theorem tr_tr {t : HSt} (hp : p < H.length) (hq : q < H.length) (hpq : p ≠ q) : trH (trH H p q s ++ L) p q t = trH H p q t ++ L := by
  have : trH (trH H p q s ++ L) p q t = ((trH H p q s ++ L).set p (haB t.1)).set q (seB t.2) := rfl
  rw [this, tr_setp0 hp hpq, set_out (by simp; exact hq), List.set_set]; rfl
theorem tr_base : BaseOk H (trH H p q s) := BaseOk.set (BaseOk.set (BaseOk.refl _) _ (by show VVal.underL _ (s.1.map iI) = true; exact mapI_under _ _)) _ rfl
theorem has_len {i : Nat} {v : VVal} (h : i < s.1.length) : 0 + i * 1 + [v].length ≤ (s.1.map iI).length := by
  show 0 + i * 1 + 1 ≤ (s.1.map iI).length
  rw [List.length_map]; omega
end
theorem trn_len {rows : List (BitVec 64)} : ∀ {n i : Nat} {s : HSt}, (trn rows n i s).2.1.length = s.1.length := by
  have hL : ∀ (g : Nat → HSt → Bool × HSt), (∀ k s, (g k s).2.1.length = s.1.length) → ∀ (i : Nat) (l : List Nat) (s : HSt), (trL g rows i l s).2.1.length = s.1.length := by
    intro g hg i l
    induction l with
    | nil => intro s; rfl
    | cons u l ih =>
      intro s
      rw [trL]
      split
      · exact ih s
      · split
        · simp
        · split
          · simp [hg]
          · rw [ih, hg]
  intro n
  induction n with
  | zero => intro i s; rfl
  | succ n ih => intro i s; rw [trn]; exact hL _ (fun k s => ih) i _ s
theorem trn_sub {rows : List (BitVec 64)} : ∀ {n i : Nat} {s : HSt}, subW s.2 (trn rows n i s).2.2 := by
  have hL : ∀ (g : Nat → HSt → Bool × HSt), (∀ k s, subW s.2 (g k s).2.2) → ∀ (i : Nat) (l : List Nat) (s : HSt), (∀ u, u ∈ l → u < 64) → subW s.2 (trL g rows i l s).2.2 := by
    intro g hg i l
    induction l with
    | nil => intro s _ _ h; exact h
    | cons u l ih =>
      intro s hl
      have hu := hl u (List.mem_cons_self ..)
      have hl' : ∀ v, v ∈ l → v < 64 := fun v hv => hl v (List.mem_cons_of_mem _ hv)
      have h1 : subW s.2 (s.2 ||| 1#64 <<< u) := fun a ha => (or1 hu).2 (.inl ha)
      have h2 := hg (fndK s.1 u) (s.1, s.2 ||| 1#64 <<< u)
      rw [trL]
      split
      · exact ih s hl'
      · split
        · exact h1
        · split
          · exact fun a ha => h2 a (h1 a ha)
          · exact fun a ha => ih _ hl' a (h2 a (h1 a ha))
  intro n
  induction n with
  | zero => intro i s _ h; exact h
  | succ n ih => intro i s; rw [trn]; exact hL _ (fun k s => ih) i _ s fun u hu => List.mem_range.1 hu
theorem sh_not0 {d : BitVec 64} {k : Nat} (h : ¬ d >>> k &&& 1#64 = 0#64) : d.getLsbD k = true := by rw [sh0] at h; simpa using h
theorem trL_range {g : Nat → HSt → Bool × HSt} {rows : List (BitVec 64)} {i u : Nat} {s : HSt} (hu : u < 64) : trL g rows i ((List.range 64).drop u) s = if (rows.getD i 0).getLsbD u = false ∨ s.2.getLsbD u = true then trL g rows i ((List.range 64).drop (u + 1)) s
    else if fndK s.1 u = s.1.length then (true, (s.1.set i (u : Int), s.2 ||| 1#64 <<< u))
    else if (g (fndK s.1 u) (s.1, s.2 ||| 1#64 <<< u)).1 = true then (true, ((g (fndK s.1 u) (s.1, s.2 ||| 1#64 <<< u)).2.1.set i (u : Int), (g (fndK s.1 u) (s.1, s.2 ||| 1#64 <<< u)).2.2))
    else trL g rows i ((List.range 64).drop (u + 1)) (g (fndK s.1 u) (s.1, s.2 ||| 1#64 <<< u)).2 := by
  rw [List.drop_eq_getElem_cons (by simpa using hu), trL]; simp only [List.getElem_range]
theorem turn_in {x : SW} {p q n : Nat} {ex : Bool} {rows : List (BitVec 64)} (hpq : p ≠ q) (ih : ∀ (H : VHeap) (i : Nat) (has : List Int) (S : BitVec 64), H[p]? = some (haB has) → H[q]? = some (seB S) → i < rows.length → has.length = rows.length → 64 - come 64 S < n → F (psys x) 123 [fzW rows, .slice (some (p, 0)) rows.length rows.length ex 1, .ptr (some (q, 0)), iI (i : Nat)] H fun v G => v = .bool (trn rows n i (has, S)).1 ∧ G = trH H p q (trn rows n i (has, S)).2) (H L : VHeap) (s : HSt) (hp : p < H.length) (hq : q < H.length) (i : Nat) (hi : i < rows.length) (hk : s.1.length = rows.length) (hm : 64 - come 64 s.2 < n) :
    F (psys x) 123 [fzW rows, .slice (some (p, 0)) rows.length rows.length ex 1, .ptr (some (q, 0)), iI (i : Nat)] (trH H p q s ++ L) fun v G => v = .bool (trn rows n i s).1 ∧ G = trH H p q (trn rows n i s).2 ++ L := by
  have := ih (trH H p q s ++ L) i s.1 s.2 (tr_p hp hpq) (tr_q hq) hi hk hm
  rw [tr_tr hp hq hpq] at this
  exact this
theorem turn_s {x : SW} (p q n : Nat) (ex : Bool) (rows : List (BitVec 64)) (hpq : p ≠ q) (h62 : rows.length ≤ 1000000) (ih : ∀ (H : VHeap) (i : Nat) (has : List Int) (S : BitVec 64), H[p]? = some (haB has) → H[q]? = some (seB S) → i < rows.length → has.length = rows.length → 64 - come 64 S < n → F (psys x) 123 [fzW rows, .slice (some (p, 0)) rows.length rows.length ex 1, .ptr (some (q, 0)), iI (i : Nat)] H fun v G => v = .bool (trn rows n i (has, S)).1 ∧ G = trH H p q (trn rows n i (has, S)).2) (H : VHeap) (i : Nat) (has : List Int) (S : BitVec 64) (hp : H[p]? = some (haB has)) (hq : H[q]? = some (seB S)) (hi : i < rows.length) (hhl : has.length = rows.length) (hm : 64 - come 64 S < n + 1) : F (psys x) 123 [fzW rows, .slice (some (p, 0)) rows.length rows.length ex 1, .ptr (some (q, 0)), iI (i : Nat)] H fun v G => v = .bool (trn rows (n + 1) i (has, S)).1 ∧ G = trH H p q (trn rows (n + 1) i (has, S)).2 := by
 have hpH := lt_of_get hp
 have hqH := lt_of_get hq
 refine F_body Tryd.func123 rfl u69 rfl ?_
 refine B_seq (B_region ?_)
 refine Lo u69 (v_const (VVal.bool false) (.inr rfl) rfl) ?_
 refine L_nil (K_seq (B_seq (B_seq (B_region ?_))))
 refine Lo u69 (v_const (VVal.int .i64 0) (.inr rfl) rfl) ?_
 refine L_nil (K_seq (B_block ?_))
 refine B_clear (mk 69 590295810358705651184) (env' := u69) rfl ?_
 refine B_loopE (fun (⟨u, s1⟩ : Nat × HSt) => 64 - u) (fun (⟨u, s1⟩ : Nat × HSt) => [(9, iI (u : Nat))]) (fun (⟨u, s1⟩ : Nat × HSt) G => (u ≤ 64 ∧ s1.1.length = rows.length ∧ 64 - come 64 s1.2 ≤ n ∧ trn rows (n + 1) i (has, S) = trL (trn rows n) rows i ((List.range 64).drop u) s1) ∧ G = trH H p q s1 ++ []) ⟨0, (has, S)⟩ rfl ?_ ?_
 ·refine ⟨?_, (by rw [trH_id hp hq])⟩
  exact ⟨Nat.zero_le _, hhl, by show 64 - come 64 S ≤ n; omega, rfl⟩
 rintro ⟨u, s1⟩ _ ⟨⟨hu, hl1, hcm, hg⟩, rfl⟩
 refine B_env (env' := u69) rfl ?_
 have hil : i < s1.1.length := by omega
 refine B_seq (B_seq (B_region ?_))
 refine Lo u69 (v_move (.inl rfl) rfl) ?_
 refine Lo u69 (rfl) ?_
 refine L_nil (K_seq ?_)
 refine B_cond _ rfl (fun hc1 => ?_) (fun hc1 => ?_)
 ·try simp only [qB] at hc1
  refine B_skip (K_seq (B_seq (B_block (B_seq (B_seq (B_region ?_))))))
  refine Lo u69 (v_move (.inl rfl) rfl) ?_
  refine Lo u69 (v_move (.inl rfl) rfl) ?_
  refine Lo u69 (W18 rfl rfl rfl rfl rfl rfl rfl) ?_
  refine Lo u69 (W68 rfl rfl rfl rfl) ?_
  refine Lo u69 (v_move (.inl rfl) rfl) ?_
  refine Lo u69 (v_shrW rfl rfl rfl (by first | assumption | omega | (simp [*]; done) | (simp at *; omega))) ?_
  refine Lo u69 (v_andW (b := 1#64) rfl rfl rfl) ?_
  refine Lo u69 (rfl) ?_
  refine Lo u69 (v_move (.inl rfl) rfl) ?_
  refine L_split 23 (env1 := u69) (env2 := u69) rfl rfl rfl (fun hg2 => ?_) (fun hg2 => ?_)
  ·try simp only [qB] at hg2
   refine Lf u69 ?_
   refine Lf u69 ?_
   refine Lf u69 ?_
   refine Lf u69 ?_
   refine Lf u69 ?_
   refine Lf u69 ?_
   refine Lf u69 ?_
   refine Lo u69 (v_pickTC (VVal.bool true) rfl rfl rfl) ?_
   refine L_nil (K_seq ?_)
   refine B_true rfl rfl ?_
   refine B_exit (K_seqX (K_blkX (K_seq (B_region ?_))))
   refine Lo u69 (v_move (.inl rfl) rfl) ?_
   refine Lo u69 (W14 rfl rfl rfl) ?_
   refine Lo u69 (v_move (.inr rfl) rfl) ?_
   refine L_nil ?_
   refine K_loop (mk 69 590295810358705651184) (env' := u69) rfl ⟨⟨u + 1, s1⟩, ?_, rfl, ?_⟩
   ·first | omega | (simp only []; omega)
   ·first | exact ⟨⟨by omega, hl1, hcm, by rw [hg, trL_range (by omega), if_pos (.inl (sh0.1 (by assumption)))]⟩, rfl⟩ | exact ⟨⟨by omega, hl1, hcm, by rw [hg, trL_range (by omega), if_pos (.inr (sh1.1 (by assumption)))]⟩, rfl⟩ | exact ⟨⟨by omega, trn_len.trans hl1, (by have := come_le2 (trn_sub (rows := rows) (n := n) (i := k) (s := (s1.1, s1.2 ||| 1#64 <<< u))); show 64 - come 64 (trn rows n k (s1.1, s1.2 ||| 1#64 <<< u)).2.2 ≤ n; simp only at this; omega), by rw [hg, hf, if_neg (by omega), if_neg (not_of_f (by assumption))]⟩, rfl⟩
  ·try simp only [qB] at hg2
   refine Lo u69 (v_move (.inl rfl) rfl) ?_
   refine Lo u69 (rfl) ?_
   refine Lo u69 (W68 rfl rfl rfl rfl) ?_
   refine Lo u69 (v_move (.inl rfl) rfl) ?_
   refine Lo u69 (v_shrW rfl rfl rfl (by first | assumption | omega | (simp [*]; done) | (simp at *; omega))) ?_
   refine Lo u69 (v_andW (b := 1#64) rfl rfl rfl) ?_
   refine Lo u69 (rfl) ?_
   refine Lo u69 (v_pickF rfl rfl rfl) ?_
   refine L_nil (K_seq ?_)
   refine B_cond _ rfl (fun hc3 => ?_) (fun hc3 => ?_)
   ·try simp only [qB] at hc3
    refine B_exit (K_seqX (K_blkX (K_seq (B_region ?_))))
    refine Lo u69 (v_move (.inl rfl) rfl) ?_
    refine Lo u69 (W14 rfl rfl rfl) ?_
    refine Lo u69 (v_move (.inr rfl) rfl) ?_
    refine L_nil ?_
    refine K_loop (mk 69 590295810358705651184) (env' := u69) rfl ⟨⟨u + 1, s1⟩, ?_, rfl, ?_⟩
    ·first | omega | (simp only []; omega)
    ·first | exact ⟨⟨by omega, hl1, hcm, by rw [hg, trL_range (by omega), if_pos (.inl (sh0.1 (by assumption)))]⟩, rfl⟩ | exact ⟨⟨by omega, hl1, hcm, by rw [hg, trL_range (by omega), if_pos (.inr (sh1.1 (by assumption)))]⟩, rfl⟩ | exact ⟨⟨by omega, trn_len.trans hl1, (by have := come_le2 (trn_sub (rows := rows) (n := n) (i := k) (s := (s1.1, s1.2 ||| 1#64 <<< u))); show 64 - come 64 (trn rows n k (s1.1, s1.2 ||| 1#64 <<< u)).2.2 ≤ n; simp only at this; omega), by rw [hg, hf, if_neg (by omega), if_neg (not_of_f (by assumption))]⟩, rfl⟩
   ·try simp only [qB] at hc3
    refine B_skip (K_seq (B_seq ?_))
    have hu64 : u < 64 := by omega
    have hbit : (rows.getD i 0).getLsbD u = true := sh_not0 (by assumption)
    have hseen : s1.2.getLsbD u = false := sh1n.1 (by assumption)
    have hcond : ¬ ((rows.getD i 0).getLsbD u = false ∨ s1.2.getLsbD u = true) := fun e => e.elim (fun h => by rw [hbit] at h; cases h) (fun h => by rw [hseen] at h; cases h)
    have hcg := come_grow (s := s1.2) (t := s1.2 ||| 1#64 <<< u) (fun a ha => (or1 hu64).2 (.inl ha)) ⟨u, (or1 hu64).2 (.inr rfl), hseen⟩
    have hcl := come_le (s1.2 ||| 1#64 <<< u)
    rw [trL_range hu64, if_neg hcond] at hg
    refine B_draw [0, 1, 2, 3, 4, 5, 6, 7, 8] #[0, 0, 2, 6, 0, 16, 62, 127, 255] (by kernel_rfl) (by kernel_rfl) (by kernel_rfl) ?_
    refine Oo u69 .calm rfl (v_move (.inl rfl) rfl) ?_
    refine Oo u69 .calm rfl (v_move (.inl rfl) rfl) ?_
    refine Oo u69 .calm rfl (rfl) ?_
    refine Oo u69 .look rfl (W68 rfl rfl rfl rfl) ?_
    refine Oo u69 .calm rfl (v_move (.inl rfl) rfl) ?_
    refine Oo u69 .calm rfl (v_shl1 rfl rfl rfl (by first | assumption | omega | (simp [*]; done) | (simp at *; omega))) ?_
    refine Oo u69 .calm rfl (v_orW rfl rfl rfl) ?_
    refine Oo u69 .calm rfl (rfl) ?_
    refine Oo u69 .turn rfl (W6a rfl rfl rfl rfl rfl rfl rfl) ?_
    refine O_nil [] (by kernel_rfl) (trivial) ?_
    refine K_seq (B_seq (B_region ?_))
    refine Lo u69 (v_const (VVal.int .i64 0) (.inr rfl) rfl) ?_
    refine L_nil (K_seq (B_seq (B_block ?_)))
    refine B_clear (mk 69 590295810358705650160) (env' := u69) rfl ?_
    refine B_loopE (fun (k : Nat) => rows.length - k) (fun (k : Nat) => [(10, iI (k : Nat))]) (fun (k : Nat) G => (k ≤ rows.length ∧ ∀ j, j < k → s1.1.getD j 0 ≠ (u : Int)) ∧ G = trH H p q (s1.1, s1.2 ||| 1#64 <<< u) ++ []) 0 rfl ?_ ?_
    ·refine ⟨?_, rfl⟩
     exact ⟨Nat.zero_le _, fun j h => by omega⟩
    rintro k _ ⟨⟨hk, hno⟩, rfl⟩
    refine B_env (env' := u69) rfl ?_
    refine B_seq (B_seq (B_region ?_))
    refine Lo u69 (v_move (.inl rfl) rfl) ?_
    refine Lo u69 (v_move (.inl rfl) rfl) ?_
    refine Lo u69 (rfl) ?_
    refine Lo u69 (rfl) ?_
    refine Lo u69 (v_move (.inl rfl) rfl) ?_
    refine L_split 44 (env1 := u69) (env2 := u69) rfl rfl rfl (fun hg4 => ?_) (fun hg4 => ?_)
    ·try simp only [qB] at hg4
     refine Lo u69 (v_move (.inl rfl) rfl) ?_
     refine Lo u69 (v_move (.inl rfl) rfl) ?_
     refine Lo u69 (W18 rfl rfl rfl rfl rfl rfl rfl) ?_
     refine Lo u69 (W6b rfl rfl rfl rfl) ?_
     refine Lo u69 (v_move (.inl rfl) rfl) ?_
     refine Lo u69 (rfl) ?_
     refine Lo u69 (v_pickT rfl rfl rfl) ?_
     refine L_nil (K_seq ?_)
     refine B_cond _ rfl (fun hc5 => ?_) (fun hc5 => ?_)
     ·try simp only [qB] at hc5
      refine B_skip (K_seq (B_block (B_region ?_)))
      refine Lo u69 (v_move (.inl rfl) rfl) ?_
      refine Lo u69 (W14 rfl rfl rfl) ?_
      refine Lo u69 (v_move (.inr rfl) rfl) ?_
      refine L_nil (K_blk ?_)
      refine K_loop (mk 69 590295810358705650160) (env' := u69) rfl ⟨k + 1, ?_, rfl, ?_⟩
      ·first | omega | (simp only []; omega)
      ·exact ⟨⟨by omega, fun j hj => by by_cases e : j = k; (subst e; assumption); exact hno j (by omega)⟩, rfl⟩
     ·try simp only [qB] at hc5
      refine B_exit (K_seqX (K_loopX (K_blkX (K_seq (B_seq ?_)))))
      have hf : fndK s1.1 u = k := fndK_is (by omega) hno (by first | exact .inr (by assumption) | exact .inl (by omega))
      refine B_region ?_
      refine Lo u69 (v_move (.inl rfl) rfl) ?_
      refine Lo u69 (v_move (.inl rfl) rfl) ?_
      refine Lo u69 (rfl) ?_
      refine Lo u69 (rfl) ?_
      refine Lo u69 (v_move (.inl rfl) rfl) ?_
      refine L_split 58 (env1 := u69) (env2 := u69) rfl rfl rfl (fun hg6 => ?_) (fun hg6 => ?_)
      ·try simp only [qB] at hg6
       refine Lf u69 ?_
       refine Lf u69 ?_
       refine Lf u69 ?_
       refine Lf u69 ?_
       refine Lf u69 ?_
       refine Lo u69 (v_pickTC (VVal.bool true) rfl rfl rfl) ?_
       refine L_nil (K_seq ?_)
       refine B_true rfl rfl ?_
       refine B_seq (B_region ?_)
       refine Lo u69 (v_move (.inl rfl) rfl) ?_
       refine Lo u69 (v_move (.inl rfl) rfl) ?_
       refine Lo u69 (v_move (.inl rfl) rfl) ?_
       refine Lo u69 (W18 rfl rfl rfl rfl rfl rfl rfl) ?_
       refine Lo u69 (W6c rfl rfl rfl rfl rfl rfl rfl) ?_
       refine L_nil (K_seq (B_seq (B_region ?_)))
       refine Lo u69 (v_const (VVal.bool true) (.inr rfl) rfl) ?_
       refine L_nil (K_seq (B_ret (K_blkR (K_seqR (K_loopR (K_blkR (K_seqR ?_)))))))
       refine W6d (.inr rfl) (vres_tmp rfl rfl) ?_
       exact W6e
      ·try simp only [qB] at hg6
       refine Lo u69 (v_move (.inl rfl) rfl) ?_
       refine Lo u69 (v_move (.inl rfl) rfl) ?_
       refine Lo u69 (v_move (.inl rfl) rfl) ?_
       refine Lo u69 (v_move (.inl rfl) rfl) ?_
       refine L_call rfl rfl rfl (by exact turn_in hpq ih H _ (s1.1, s1.2 ||| 1#64 <<< u) hpH hqH k (by omega) hl1 (by show 64 - come 64 (s1.2 ||| 1#64 <<< u) < n; omega)) ?_
       rintro _ _ ⟨rfl, rfl⟩
       refine Le u69 ?_
       refine Lo u69 (v_pickF rfl rfl rfl) ?_
       refine L_nil (K_seq ?_)
       refine B_cond _ rfl (fun hc7 => ?_) (fun hc7 => ?_)
       ·try simp only [qB] at hc7
        refine B_seq (B_region ?_)
        refine Lo u69 (v_move (.inl rfl) rfl) ?_
        refine Lo u69 (v_move (.inl rfl) rfl) ?_
        refine Lo u69 (v_move (.inl rfl) rfl) ?_
        refine Lo u69 (W18 rfl rfl rfl rfl rfl rfl rfl) ?_
        refine Lo u69 (W6c rfl rfl rfl rfl rfl rfl rfl) ?_
        refine L_nil (K_seq (B_seq (B_region ?_)))
        refine Lo u69 (v_const (VVal.bool true) (.inr rfl) rfl) ?_
        refine L_nil (K_seq (B_ret (K_blkR (K_seqR (K_loopR (K_blkR (K_seqR ?_)))))))
        refine W6d (.inr rfl) (vres_tmp rfl rfl) ?_
        exact W6e
       ·try simp only [qB] at hc7
        refine B_skip (K_blk (K_seq (B_region ?_)))
        refine Lo u69 (v_move (.inl rfl) rfl) ?_
        refine Lo u69 (W14 rfl rfl rfl) ?_
        refine Lo u69 (v_move (.inr rfl) rfl) ?_
        refine L_nil ?_
        refine K_loop (mk 69 590295810358705651184) (env' := u69) rfl ⟨⟨u + 1, (trn rows n k (s1.1, s1.2 ||| 1#64 <<< u)).2⟩, ?_, rfl, ?_⟩
        ·first | omega | (simp only []; omega)
        ·first | exact ⟨⟨by omega, hl1, hcm, by rw [hg, trL_range (by omega), if_pos (.inl (sh0.1 (by assumption)))]⟩, rfl⟩ | exact ⟨⟨by omega, hl1, hcm, by rw [hg, trL_range (by omega), if_pos (.inr (sh1.1 (by assumption)))]⟩, rfl⟩ | exact ⟨⟨by omega, trn_len.trans hl1, (by have := come_le2 (trn_sub (rows := rows) (n := n) (i := k) (s := (s1.1, s1.2 ||| 1#64 <<< u))); show 64 - come 64 (trn rows n k (s1.1, s1.2 ||| 1#64 <<< u)).2.2 ≤ n; simp only at this; omega), by rw [hg, hf, if_neg (by omega), if_neg (not_of_f (by assumption))]⟩, rfl⟩
    ·try simp only [qB] at hg4
     refine Lf u69 ?_
     refine Lf u69 ?_
     refine Lf u69 ?_
     refine Lf u69 ?_
     refine Lf u69 ?_
     refine Lf u69 ?_
     refine Lo u69 (v_pickFC (VVal.bool false) rfl rfl rfl) ?_
     refine L_nil (K_seq ?_)
     refine B_false rfl rfl ?_
     refine B_exit (K_seqX (K_loopX (K_blkX (K_seq (B_seq ?_)))))
     have hf : fndK s1.1 u = k := fndK_is (by omega) hno (by first | exact .inr (by assumption) | exact .inl (by omega))
     refine B_region ?_
     refine Lo u69 (v_move (.inl rfl) rfl) ?_
     refine Lo u69 (v_move (.inl rfl) rfl) ?_
     refine Lo u69 (rfl) ?_
     refine Lo u69 (rfl) ?_
     refine Lo u69 (v_move (.inl rfl) rfl) ?_
     refine L_split 58 (env1 := u69) (env2 := u69) rfl rfl rfl (fun hg8 => ?_) (fun hg8 => ?_)
     ·try simp only [qB] at hg8
      refine Lf u69 ?_
      refine Lf u69 ?_
      refine Lf u69 ?_
      refine Lf u69 ?_
      refine Lf u69 ?_
      refine Lo u69 (v_pickTC (VVal.bool true) rfl rfl rfl) ?_
      refine L_nil (K_seq ?_)
      refine B_true rfl rfl ?_
      refine B_seq (B_region ?_)
      refine Lo u69 (v_move (.inl rfl) rfl) ?_
      refine Lo u69 (v_move (.inl rfl) rfl) ?_
      refine Lo u69 (v_move (.inl rfl) rfl) ?_
      refine Lo u69 (W18 rfl rfl rfl rfl rfl rfl rfl) ?_
      refine Lo u69 (W6c rfl rfl rfl rfl rfl rfl rfl) ?_
      refine L_nil (K_seq (B_seq (B_region ?_)))
      refine Lo u69 (v_const (VVal.bool true) (.inr rfl) rfl) ?_
      refine L_nil (K_seq (B_ret (K_blkR (K_seqR (K_loopR (K_blkR (K_seqR ?_)))))))
      refine W6d (.inr rfl) (vres_tmp rfl rfl) ?_
      exact W6e
     ·try simp only [qB] at hg8
      refine Lo u69 (v_move (.inl rfl) rfl) ?_
      refine Lo u69 (v_move (.inl rfl) rfl) ?_
      refine Lo u69 (v_move (.inl rfl) rfl) ?_
      refine Lo u69 (v_move (.inl rfl) rfl) ?_
      refine L_call rfl rfl rfl (by exact turn_in hpq ih H _ (s1.1, s1.2 ||| 1#64 <<< u) hpH hqH k (by omega) hl1 (by show 64 - come 64 (s1.2 ||| 1#64 <<< u) < n; omega)) ?_
      rintro _ _ ⟨rfl, rfl⟩
      refine Le u69 ?_
      refine Lo u69 (v_pickF rfl rfl rfl) ?_
      refine L_nil (K_seq ?_)
      refine B_cond _ rfl (fun hc9 => ?_) (fun hc9 => ?_)
      ·try simp only [qB] at hc9
       refine B_seq (B_region ?_)
       refine Lo u69 (v_move (.inl rfl) rfl) ?_
       refine Lo u69 (v_move (.inl rfl) rfl) ?_
       refine Lo u69 (v_move (.inl rfl) rfl) ?_
       refine Lo u69 (W18 rfl rfl rfl rfl rfl rfl rfl) ?_
       refine Lo u69 (W6c rfl rfl rfl rfl rfl rfl rfl) ?_
       refine L_nil (K_seq (B_seq (B_region ?_)))
       refine Lo u69 (v_const (VVal.bool true) (.inr rfl) rfl) ?_
       refine L_nil (K_seq (B_ret (K_blkR (K_seqR (K_loopR (K_blkR (K_seqR ?_)))))))
       refine W6d (.inr rfl) (vres_tmp rfl rfl) ?_
       exact W6e
      ·try simp only [qB] at hc9
       refine B_skip (K_blk (K_seq (B_region ?_)))
       refine Lo u69 (v_move (.inl rfl) rfl) ?_
       refine Lo u69 (W14 rfl rfl rfl) ?_
       refine Lo u69 (v_move (.inr rfl) rfl) ?_
       refine L_nil ?_
       refine K_loop (mk 69 590295810358705651184) (env' := u69) rfl ⟨⟨u + 1, (trn rows n k (s1.1, s1.2 ||| 1#64 <<< u)).2⟩, ?_, rfl, ?_⟩
       ·first | omega | (simp only []; omega)
       ·first | exact ⟨⟨by omega, hl1, hcm, by rw [hg, trL_range (by omega), if_pos (.inl (sh0.1 (by assumption)))]⟩, rfl⟩ | exact ⟨⟨by omega, hl1, hcm, by rw [hg, trL_range (by omega), if_pos (.inr (sh1.1 (by assumption)))]⟩, rfl⟩ | exact ⟨⟨by omega, trn_len.trans hl1, (by have := come_le2 (trn_sub (rows := rows) (n := n) (i := k) (s := (s1.1, s1.2 ||| 1#64 <<< u))); show 64 - come 64 (trn rows n k (s1.1, s1.2 ||| 1#64 <<< u)).2.2 ≤ n; simp only at this; omega), by rw [hg, hf, if_neg (by omega), if_neg (not_of_f (by assumption))]⟩, rfl⟩
 ·try simp only [qB] at hc1
  refine B_exit (K_seqX (K_loopX (K_blkX (K_seq (B_seq (B_region ?_))))))
  refine Lo u69 (v_const (VVal.bool false) (.inr rfl) rfl) ?_
  refine L_nil (K_seq (B_ret ?_))
  refine W6d (.inr rfl) (vres_tmp rfl rfl) ?_
  exact W6e
end Go.Proofs.YtnbihdflnjpinaaDoor.VT

set_option autoImplicit false
set_option linter.unusedVariables false
set_option linter.unusedSimpArgs false
set_option maxHeartbeats 4000000
set_option maxRecDepth 100000
namespace Go.Proofs.YtnbihdflnjpinaaDoor.VT
open Go Go.V Go.RowKit
theorem W6f {S : V.Sys} {H : VHeap} {fn : Func} {ex : Exit} {env : VEnv} {B L : VHeap} {v : VVal} {R : VVal → VHeap → Prop} (hx : ex = .normal ∨ ex = .ret) (hv : vresults S.C.T env (B ++ L) fn.results = some v) (h : R v B) (hB : BaseOk H B := by first | exact BaseOk.refl _ | exact BaseOk.set (BaseOk.refl _) _ rfl) (hu : v.under H.length = true := by first | rfl | simp [VVal.under, VVal.underL, fzW_under, *]) : fnK S fn H R ex env (B ++ L) := E_app hx hv hB hu h
theorem W6g {P : Prop} (h : P := by first | exact ⟨by rw [szV, if_neg (by omega)], rfl⟩ | (obtain rfl : k = rows.length := by omega); exact ⟨by rw [szV, if_pos (by omega), rsz_all], rfl⟩) : P := h
theorem W6j {T : TypeId → Option VTy} {H : VHeap} {op : Op} {ρ : Operand → VVal} {t ty : TypeId} {x y : Operand} {n m : Int} (ho : op = .binOp .add t x y ty) (hx : ρ x = .int .i64 n) (hy : ρ y = .int .i64 m) (h : -9223372036854775808 ≤ n + m ∧ n + m < 9223372036854775808 := by have := rsz_le (rows := rows) (k := k) (by omega); omega) : vop T ρ H op = some (.int .i64 (n + m), H) := v_addI ho hx hy h
theorem W6l {P : Prop} (h : P := by first | exact ⟨by rw [full_sz, decide_eq_true (by omega), Bool.true_and, ← beq_nat]; rw [szV, if_pos (by omega)], rfl⟩ | exact ⟨by rw [decide_eq_false (by omega), Bool.false_and], rfl⟩) : P := h
theorem turn_spec {x : SW} (p q : Nat) (ex : Bool) (rows : List (BitVec 64)) (hpq : p ≠ q) (h62 : rows.length ≤ 1000000) : ∀ (n : Nat) (H : VHeap) (i : Nat) (has : List Int) (S : BitVec 64), H[p]? = some (haB has) → H[q]? = some (seB S) → i < rows.length → has.length = rows.length → 64 - come 64 S < n → F (psys x) 123 [fzW rows, .slice (some (p, 0)) rows.length rows.length ex 1, .ptr (some (q, 0)), iI (i : Nat)] H fun v G => v = .bool (trn rows n i (has, S)).1 ∧ G = trH H p q (trn rows n i (has, S)).2
  | 0, _, _, _, _, _, _, _, _, h => absurd h (by omega)
  | n + 1, H, i, has, S, hp, hq, hi, hl, hm => turn_s p q n ex rows hpq h62 (fun H i has S a b c d e => turn_spec p q ex rows hpq h62 n H i has S a b c d e) H i has S hp hq hi hl hm
theorem turn_at {x : SW} (H : VHeap) (ex : Bool) (rows : List (BitVec 64)) (has : List Int) (i : Nat) (hi : i < rows.length) (hl : has.length = rows.length) (h62 : rows.length ≤ 1000000) : F (psys x) 123 [fzW rows, .slice (some (H.length + 0, 0)) rows.length rows.length ex 1, .ptr (some (H.length + 1, 0)), iI (i : Nat)] (H ++ [haB has, seB 0#64]) fun v G => v = .bool (trn rows 65 i (has, 0#64)).1 ∧ G = H ++ [haB (trn rows 65 i (has, 0#64)).2.1, seB (trn rows 65 i (has, 0#64)).2.2] := by
  have := turn_spec (x := x) (H.length + 0) (H.length + 1) ex rows (by omega) h62 65 (H ++ [haB has, seB 0#64]) i has 0#64 (get_app rfl rfl) (get_app rfl rfl) hi hl (by rw [come_0]; omega)
  unfold trH at this
  rw [set_app rfl, set_app rfl] at this
  exact this
theorem haB_under {n : Nat} {has : List Int} : (haB has).under n = true := mapI_under _ _
theorem rep_cells : ∀ {n : Nat}, repeatCells [VVal.int .i64 0] n = (List.replicate n (0 : Int)).map iI
  | 0 => rfl
  | n + 1 => by rw [repeatCells, rep_cells, List.replicate_succ]; rfl
def iniT (n k : Nat) : List Int := List.replicate k (-1) ++ List.replicate (n - k) 0
theorem iniT_len {n k : Nat} (h : k ≤ n) : (iniT n k).length = n := by unfold iniT; simp; omega
theorem iniT_set {n k : Nat} (h : k < n) : (iniT n k).set k (-1) = iniT n (k + 1) := by
  unfold iniT
  rw [List.set_append_right _ _ (by simp), List.length_replicate, Nat.sub_self, show n - k = (n - (k + 1)) + 1 by omega, List.replicate_succ, List.set_cons_zero, List.replicate_succ', List.append_assoc]; rfl
theorem iniT_all {n : Nat} : iniT n n = List.replicate n (-1) := by unfold iniT; simp
theorem rsz_len {rows : List (BitVec 64)} {k : Nat} (h : k ≤ rows.length) : (rsz rows k).1.length = rows.length := (rsz_cor h).1.hl
theorem rsz_le {rows : List (BitVec 64)} {k : Nat} (h : k ≤ rows.length) : (rsz rows k).2 ≤ k := by rw [(rsz_cor h).2.1]; exact szO_le
theorem full_sz {rows : List (BitVec 64)} : fullB rows 0#64 = (szN rows == rows.length) := by unfold fullB; rw [msk_0]
theorem refSize_spec {x : SW} (H : VHeap) (rows : List (BitVec 64)) (h62 : rows.length ≤ 1000000) : F (psys x) 118 [fzW rows] H fun v G => v = iI (szV rows) ∧ G = H := by
 refine F_body Tryd.func118 rfl u36 rfl ?_
 refine B_seq (B_region ?_)
 refine Lo u36 (v_const (VVal.int .i64 0) (.inr rfl) rfl) ?_
 refine L_nil (K_seq (B_seq (B_seq (B_region ?_))))
 refine Lo u36 (v_move (.inl rfl) rfl) ?_
 refine Lo u36 (rfl) ?_
 refine Lo u36 (rfl) ?_
 refine L_nil (K_seq ?_)
 refine B_cond _ rfl (fun hc1 => ?_) (fun hc1 => ?_)
 ·try simp only [qB] at hc1
  refine B_seq (B_region ?_)
  refine Lo u36 (v_const (VVal.int .i64 0) (.inr rfl) rfl) ?_
  refine L_nil (K_seq (B_ret (K_seqR ?_)))
  refine W6f (.inr rfl) (vres_tmp rfl rfl) ?_
  exact W6g
 ·try simp only [qB] at hc1
  refine B_skip (K_seq (B_seq (B_region ?_)))
  refine Lo u36 (v_move (.inl rfl) rfl) ?_
  refine Lo u36 (rfl) ?_
  refine Lo u36 (v_makeSlice rfl rfl rfl rfl rfl (by decide) ⟨by omega, Int.le_refl _, by show (rows.length : Int) * (8 : Nat) ≤ _; omega, by omega⟩) ?_
  refine Lo u36 (v_move (.inr rfl) rfl) ?_
  refine L_nil (K_seq (B_seq (B_seq (B_region ?_))))
  refine Lo u36 (v_const (VVal.int .i64 0) (.inr rfl) rfl) ?_
  refine L_nil (K_seq (B_block ?_))
  refine B_clear (mk 36 68719476710) (env' := u36) rfl ?_
  refine B_loopE (fun (k : Nat) => rows.length - k) (fun (k : Nat) => [(4, iI (k : Nat))]) (fun (k : Nat) G => (k ≤ rows.length) ∧ G = H ++ [haB (iniT rows.length k)]) 0 rfl ?_ ?_
  ·refine ⟨?_, (by show _ ++ [VBlk.cells (repeatCells [VVal.int .i64 0] _) true] = _; rw [rep_cells]; rfl)⟩
   exact Nat.zero_le _
  rintro k _ ⟨hk, rfl⟩
  refine B_env (env' := u36) rfl ?_
  refine B_seq (B_seq (B_region ?_))
  refine Lo u36 (v_move (.inl rfl) rfl) ?_
  refine Lo u36 (v_move (.inl rfl) rfl) ?_
  refine Lo u36 (rfl) ?_
  refine Lo u36 (rfl) ?_
  refine L_nil (K_seq ?_)
  refine B_cond _ rfl (fun hc2 => ?_) (fun hc2 => ?_)
  ·try simp only [qB] at hc2
   refine B_skip (K_seq (B_seq (B_block (B_region ?_))))
   refine Lo u36 (v_move (.inl rfl) rfl) ?_
   refine Lo u36 (v_move (.inl rfl) rfl) ?_
   refine Lo u36 (W18 rfl rfl rfl rfl rfl rfl rfl) ?_
   refine Lo u36 (v_storeC (VVal.int .i64 (-1)) rfl rfl rfl rfl rfl rfl rfl (by first | exact get_app rfl rfl | exact get_out (by assumption) | exact getE0 rfl rfl | exact get_out (get_app rfl rfl) | exact get_app rfl (by assumption) | assumption | (simp only [List.append_assoc, List.singleton_append, List.cons_append, List.nil_append]; refine getE (i := 0) rfl ?_ rfl; simp; done) | (simp only [List.append_assoc, List.singleton_append, List.cons_append, List.nil_append]; refine getE (i := 1) rfl ?_ rfl; simp; done) | (simp only [List.append_assoc, List.singleton_append, List.cons_append, List.nil_append]; refine getE (i := 2) rfl ?_ rfl; simp; done) | (simp only [List.append_assoc, List.singleton_append, List.cons_append, List.nil_append]; refine getE (i := 3) rfl ?_ rfl; simp; done) | (simp [*]; done)) (by first | exact has_len (s := (iniT rows.length k, 0#64)) (by rw [iniT_len (by omega)]; omega)) (by exact (set_app rfl).trans (congrArg (fun c => H ++ [VBlk.cells c true]) (splice_i (l := iniT rows.length k) (k := k) (r := -1) (by rw [iniT_len hk]; omega))))) ?_
   refine L_nil (K_blk (K_seq (B_region ?_)))
   refine Lo u36 (v_move (.inl rfl) rfl) ?_
   refine Lo u36 (W14 rfl rfl rfl) ?_
   refine Lo u36 (v_move (.inr rfl) rfl) ?_
   refine L_nil ?_
   have hE : (iniT rows.length k).set (k : Int).toNat (-1) = iniT rows.length (k + 1) := iniT_set (by omega)
   refine K_loop (mk 36 68719476710) (env' := u36) rfl ⟨k + 1, ?_, rfl, ?_⟩
   ·first | omega | (simp only []; omega)
   ·exact ⟨by omega, by rw [← hE]; rfl⟩
  ·try simp only [qB] at hc2
   refine B_exit (K_seqX (K_loopX (K_blkX (K_seq (B_seq (B_region ?_))))))
   refine Lo u36 (v_const (VVal.int .i64 0) (.inr rfl) rfl) ?_
   refine L_nil (K_seq (B_seq (B_seq (B_region ?_))))
   refine Lo u36 (v_const (VVal.int .i64 0) (.inr rfl) rfl) ?_
   refine L_nil (K_seq (B_block ?_))
   refine B_clear (mk 36 68719476630) (env' := u36) rfl ?_
   refine B_loopE (fun (k : Nat) => rows.length - k) (fun (k : Nat) => [(5, iI ((rsz rows k).2 : Nat)), (6, iI (k : Nat))]) (fun (k : Nat) G => (k ≤ rows.length) ∧ G = H ++ [haB (rsz rows k).1]) 0 rfl ?_ ?_
   ·refine ⟨?_, (by rw [show k = rows.length by omega, iniT_all]; rfl)⟩
    exact Nat.zero_le _
   rintro k _ ⟨hk, rfl⟩
   refine B_env (env' := u36) rfl ?_
   refine B_seq (B_seq (B_region ?_))
   refine Lo u36 (v_move (.inl rfl) rfl) ?_
   refine Lo u36 (v_move (.inl rfl) rfl) ?_
   refine Lo u36 (rfl) ?_
   refine Lo u36 (rfl) ?_
   refine L_nil (K_seq ?_)
   refine B_cond _ rfl (fun hc3 => ?_) (fun hc3 => ?_)
   ·try simp only [qB] at hc3
    refine B_skip (K_seq (B_seq (B_block (B_seq (B_region ?_)))))
    refine Lo u36 (v_alloc rfl rfl) ?_
    refine Lo u36 (v_storeC (VVal.int .u64 0) rfl rfl rfl rfl rfl rfl rfl (by first | exact get_app rfl rfl | exact get_out (by assumption) | exact getE0 rfl rfl | exact get_out (get_app rfl rfl) | exact get_app rfl (by assumption) | assumption | (simp only [List.append_assoc, List.singleton_append, List.cons_append, List.nil_append]; refine getE (i := 0) rfl ?_ rfl; simp; done) | (simp only [List.append_assoc, List.singleton_append, List.cons_append, List.nil_append]; refine getE (i := 1) rfl ?_ rfl; simp; done) | (simp only [List.append_assoc, List.singleton_append, List.cons_append, List.nil_append]; refine getE (i := 2) rfl ?_ rfl; simp; done) | (simp only [List.append_assoc, List.singleton_append, List.cons_append, List.nil_append]; refine getE (i := 3) rfl ?_ rfl; simp; done) | (simp [*]; done)) (by first | exact Nat.le_of_ble_eq_true rfl | (simp only [List.length_map, List.length_cons, List.length_nil]; omega) | omega | (simp; done) | (simp; omega)) (by first | exact setE0 rfl rfl | (simp only [List.append_assoc, List.singleton_append, List.cons_append, List.nil_append]; refine setE (i := 0) rfl ?_; simp; done) | (simp only [List.append_assoc, List.singleton_append, List.cons_append, List.nil_append]; refine setE (i := 1) rfl ?_; simp; done) | (simp only [List.append_assoc, List.singleton_append, List.cons_append, List.nil_append]; refine setE (i := 2) rfl ?_; simp; done) | (simp only [List.append_assoc, List.singleton_append, List.cons_append, List.nil_append]; refine setE (i := 3) rfl ?_; simp; done) | (refine setB rfl ?_; simp; done) | exact set_app rfl | exact set_out (lt_of_get (by assumption)) | rfl)) ?_
    refine L_nil (K_seq (B_seq (B_region ?_)))
    refine Lo u36 (v_move (.inl rfl) rfl) ?_
    refine Lo u36 (v_move (.inl rfl) rfl) ?_
    refine Lo u36 (v_move (.inl rfl) rfl) ?_
    refine L_call rfl rfl rfl (by exact turn_at H _ rows (rsz rows k).1 k (by omega) (rsz_len (by omega)) h62) ?_
    rintro _ _ ⟨rfl, rfl⟩
    refine Le u36 ?_
    refine L_nil (K_seq ?_)
    refine B_cond _ rfl (fun hc4 => ?_) (fun hc4 => ?_)
    ·try simp only [qB] at hc4
     refine B_region ?_
     refine Lo u36 (v_move (.inl rfl) rfl) ?_
     refine Lo u36 (W6j rfl rfl rfl) ?_
     refine Lo u36 (v_move (.inr rfl) rfl) ?_
     refine L_nil (K_blk (K_seq (B_region ?_)))
     refine Lo u36 (v_move (.inl rfl) rfl) ?_
     refine Lo u36 (W14 rfl rfl rfl) ?_
     refine Lo u36 (v_move (.inr rfl) rfl) ?_
     refine L_nil ?_
     first
       | (have hE : (((rsz rows k).2 : Nat) : Int) + 1 = ((rsz rows (k + 1)).2 : Nat) := by rw [rsz, if_pos (by assumption)]; rfl); rw [hE]
       | (have hE : (rsz rows k).2 = (rsz rows (k + 1)).2 := by rw [rsz]; simp only; rw [if_neg (not_of_f (by assumption))]); rw [hE]
     refine K_loopG (mk 36 68719476630) (env' := u36) rfl (Gh.dropTo (L := [haB (rsz rows (k + 1)).1]) (X := [seB _]) 1 rfl (BaseOk.refl _) (by first | (simp [VVal.underL, VVal.under, fzW_under]; done) | (simp [VVal.underL, VVal.under, fzW_under]; omega)) (by simp [haB_under])) ⟨k + 1, ?_, rfl, ?_⟩
     ·first | omega | (simp only []; omega)
     ·exact ⟨by omega, rfl⟩
    ·try simp only [qB] at hc4
     refine B_skip (K_blk (K_seq (B_region ?_)))
     refine Lo u36 (v_move (.inl rfl) rfl) ?_
     refine Lo u36 (W14 rfl rfl rfl) ?_
     refine Lo u36 (v_move (.inr rfl) rfl) ?_
     refine L_nil ?_
     first
       | (have hE : (((rsz rows k).2 : Nat) : Int) + 1 = ((rsz rows (k + 1)).2 : Nat) := by rw [rsz, if_pos (by assumption)]; rfl); rw [hE]
       | (have hE : (rsz rows k).2 = (rsz rows (k + 1)).2 := by rw [rsz]; simp only; rw [if_neg (not_of_f (by assumption))]); rw [hE]
     refine K_loopG (mk 36 68719476630) (env' := u36) rfl (Gh.dropTo (L := [haB (rsz rows (k + 1)).1]) (X := [seB _]) 1 rfl (BaseOk.refl _) (by first | (simp [VVal.underL, VVal.under, fzW_under]; done) | (simp [VVal.underL, VVal.under, fzW_under]; omega)) (by simp [haB_under])) ⟨k + 1, ?_, rfl, ?_⟩
     ·first | omega | (simp only []; omega)
     ·exact ⟨by omega, rfl⟩
   ·try simp only [qB] at hc3
    refine B_exit (K_seqX (K_loopX (K_blkX (K_seq (B_seq (B_region ?_))))))
    refine Lo u36 (v_move (.inl rfl) rfl) ?_
    refine Lo u36 (v_move (.inr rfl) rfl) ?_
    refine L_nil (K_seq (B_ret ?_))
    refine W6f (.inr rfl) (vres_tmp rfl rfl) ?_
    exact W6g
theorem refFull_spec {x : SW} (H : VHeap) (rows : List (BitVec 64)) (h62 : rows.length ≤ 1000000) : F (psys x) 101 [fzW rows] H fun v G => v = .bool (decide (rows.length ≤ 12) && fullB rows 0#64) ∧ G = H := by
 refine F_body Tryd.func101 rfl u13 rfl ?_
 refine B_seq (B_region ?_)
 refine Lo u13 (v_const (VVal.bool false) (.inr rfl) rfl) ?_
 refine L_nil (K_seq (B_seq (B_region ?_)))
 refine Lo u13 (v_move (.inl rfl) rfl) ?_
 refine Lo u13 (rfl) ?_
 refine Lo u13 (rfl) ?_
 refine Lo u13 (v_move (.inl rfl) rfl) ?_
 refine L_split 6 (env1 := u13) (env2 := u13) rfl rfl rfl (fun hg1 => ?_) (fun hg1 => ?_)
 ·try simp only [qB] at hg1
  refine Lo u13 (v_move (.inl rfl) rfl) ?_
  refine L_call rfl rfl rfl (by exact refSize_spec _ _ h62) ?_
  rintro _ _ ⟨rfl, rfl⟩
  refine Le u13 ?_
  refine Lo u13 (v_move (.inl rfl) rfl) ?_
  refine Lo u13 (rfl) ?_
  refine Lo u13 (rfl) ?_
  refine Lo u13 (v_pickT rfl rfl rfl) ?_
  refine Lo u13 (v_move (.inr rfl) rfl) ?_
  refine L_nil (K_seq (B_ret ?_))
  refine W10 (.inr rfl) (vres_tmp rfl rfl) ?_
  exact W6l
 ·try simp only [qB] at hg1
  refine Lf u13 ?_
  refine Lf u13 ?_
  refine Lf u13 ?_
  refine Lf u13 ?_
  refine Lf u13 ?_
  refine Lo u13 (v_pickFC (VVal.bool false) rfl rfl rfl) ?_
  refine Lo u13 (v_move (.inr rfl) rfl) ?_
  refine L_nil (K_seq (B_ret ?_))
  refine W10 (.inr rfl) (vres_tmp rfl rfl) ?_
  exact W6l
end Go.Proofs.YtnbihdflnjpinaaDoor.VT

set_option autoImplicit false
set_option linter.unusedVariables false
set_option linter.unusedSimpArgs false
set_option maxHeartbeats 4000000
set_option maxRecDepth 100000
namespace Go.Proofs.YtnbihdflnjpinaaDoor.VT
open Go Go.V Go.RowKit
theorem W6p {S : V.Sys} {H : VHeap} {fn : Func} {ex : Exit} {env : VEnv} {B L : VHeap} {v : VVal} {R : VVal → VHeap → Prop} (hx : ex = .normal ∨ ex = .ret) (hv : vresults S.C.T env (B ++ L) fn.results = some v) (h : R v B) (hB : BaseOk H B := by first | exact BaseOk.refl _ | exact BaseOk.set (BaseOk.refl _) _ rfl) (hu : v.under H.length = true := by first | rfl | simp [VVal.under, VVal.underL, mapN_under, *]) : fnK S fn H R ex env (B ++ L) := E_app hx hv hB hu h
theorem W6q {P : Prop} (h : P := by first | exact ⟨by rw [leV, if_neg (fun e => by rw [decide_eq_true e.1, e.2] at hc1; cases hc1)]; rfl, rfl⟩ | (obtain rfl : r = [] := List.eq_nil_of_length_eq_zero (by omega)); exact ⟨by rw [leV, if_pos hc1, hlst]; simp [lst], rfl⟩) : P := h
theorem W6r {T : TypeId → Option VTy} {H : VHeap} {op : Op} {ρ : Operand → VVal} {t : TypeId} {a : Operand} {y : VTy} {p v : VVal} (ho : op = .load t a) (ha : ρ a = p) (hy : T t = some y) (hd : isAggDesc y.desc = false) (h : LdOk H p v := by first | exact .inl ⟨_, _, rfl, by first | exact fget (α := BitVec 64) (n := 0) 0 (by omega) | rfl⟩ | exact .inr ⟨_, _, _, _, rfl, by first | exact get_app rfl rfl | exact get_out (by assumption) | exact getE0 rfl rfl | exact get_out (get_app rfl rfl) | exact get_app rfl (by assumption) | assumption | (simp only [List.append_assoc, List.singleton_append, List.cons_append, List.nil_append]; refine getE (i := 0) rfl ?_ rfl; simp; done) | (simp only [List.append_assoc, List.singleton_append, List.cons_append, List.nil_append]; refine getE (i := 1) rfl ?_ rfl; simp; done) | (simp only [List.append_assoc, List.singleton_append, List.cons_append, List.nil_append]; refine getE (i := 2) rfl ?_ rfl; simp; done) | (simp only [List.append_assoc, List.singleton_append, List.cons_append, List.nil_append]; refine getE (i := 3) rfl ?_ rfl; simp; done) | (simp [*]; done), by first | exact fget (α := BitVec 64) (n := 0) 0 (by omega) | rfl⟩) : vop T ρ H op = some (v, H) := v_ld ho ha hy hd h
def gvT (rows : List (BitVec 64)) (t : BitVec 64) (i : Nat) : List (BitVec 64) := msk ((rows.take i).drop 1) t
theorem gvT_1 {rows : List (BitVec 64)} {t : BitVec 64} : gvT rows t 1 = [] := by
  unfold gvT
  cases rows <;> rfl
theorem gvT_succ {rows : List (BitVec 64)} {t : BitVec 64} {i : Nat} (h1 : 1 ≤ i) (h : i < rows.length) : gvT rows t (i + 1) = gvT rows t i ++ [rows.getD (i : Int).toNat 0 &&& ~~~t] := by
  unfold gvT msk
  rw [List.take_succ_eq_append_getElem h, List.drop_append_of_le_length (by rw [List.length_take]; omega), List.map_append, Int.toNat_natCast, List.getD_eq_getElem?_getD, List.getElem?_eq_getElem h]; rfl
theorem gvT_all {rows : List (BitVec 64)} {t : BitVec 64} {i : Nat} (h : rows.length ≤ i) : gvT rows t i = msk (rows.drop 1) t := by
  unfold gvT; rw [List.take_of_length_le h]
theorem msk_fullB {l : List (BitVec 64)} {s t : BitVec 64} : fullB (msk l s) t = fullB l (s ||| t) := by unfold fullB; rw [msk_msk, msk_len]
theorem msk_w {w s t : BitVec 64} : (w &&& ~~~s) &&& ~~~t = w &&& ~~~(s ||| t) := word_ext fun i hi => by
  simp only [BitVec.getLsbD_and, BitVec.getLsbD_not, BitVec.getLsbD_or, hi, decide_true, Bool.true_and, Bool.not_or, Bool.and_assoc]
theorem lst_msk : ∀ {l : List (BitVec 64)} {s t : BitVec 64}, lst (msk l s) t = lst l (s ||| t)
  | [], s, t => rfl
  | w :: l, s, t => by
    show lst ((w &&& ~~~s) :: msk l s) t = _
    rw [lst, lst, msk_w]
    simp only [msk_fullB, BitVec.or_assoc, lst_msk]
theorem z_not (w : BitVec 64) : w &&& ~~~0#64 = w := word_ext fun i hi => by rw [BitVec.getLsbD_and, BitVec.getLsbD_not, BitVec.getLsbD_zero, decide_eq_true hi]; simp
theorem lst_first {w : BitVec 64} {l : List (BitVec 64)} {u : Nat} (hu : u < 64) (h1 : w.getLsbD u = true) (h2 : fullB (msk l (1#64 <<< u)) 0#64 = true) (h3 : ∀ v, v < u → w.getLsbD v = true → fullB (msk l (1#64 <<< v)) 0#64 = false) : lst (w :: l) 0#64 = u :: lst (msk l (1#64 <<< u)) 0#64 := by
  have hor : ∀ v : Nat, 0#64 ||| 1#64 <<< v = 1#64 <<< v ||| 0#64 := fun v => by simp
  have hx : pl w 0 = (List.range u).filter w.getLsbD ++ u :: pl w (u + 1) := by
    have e1 : pl w 0 = (List.range u).filter w.getLsbD ++ pl w u := by
      unfold pl
      rw [show (64 : Nat) - 0 = u + (64 - u) by omega, List.range_eq_range', List.range'_append_1 |>.symm, List.filter_append, Nat.zero_add]
    rw [e1, pl_step w u, if_pos hu, if_pos h1]
  rw [lst, z_not, hx, find_yes (c := u) (fun v hv => ?_) (by rw [hor, ← msk_fullB]; exact h2)]
  · simp only
    rw [hor, lst_msk]
  · have hv := List.mem_filter.1 hv
    rw [hor, ← msk_fullB]; exact h3 v (List.mem_range.1 hv.1) hv.2
theorem first_ex {w : BitVec 64} {l : List (BitVec 64)} (h : fullB (w :: l) 0#64 = true) : ∃ u, u < 64 ∧ w.getLsbD u = true ∧ fullB (msk l (1#64 <<< u)) 0#64 = true := by
  obtain ⟨u, h1, h2⟩ := mat_cons.1 (full0.1 h)
  exact ⟨u, BitVec.lt_of_getLsbD h1, h1, full0.2 h2⟩
theorem LV.appW {h : Nat} {X : VHeap} {v : VVal} {l : List (BitVec 64)} {w : BitVec 64} {n : Nat} (r : LV h 1 X v (l.map iW ++ [iW w]) n) : LV h 1 X v ((l ++ [w]).map iW) n := by rw [List.map_append]; exact r
theorem LV.appN {h : Nat} {X : VHeap} {v : VVal} {l : List Nat} {u : Nat} {n : Nat} (r : LV h 1 X v (l.map jN ++ [jN u]) n) : LV h 1 X v ((l ++ [u]).map jN) n := by rw [List.map_append]; exact r
theorem given_spec {x : SW} (H : VHeap) (rows : List (BitVec 64)) (u : Nat) (h62 : rows.length ≤ 1000000) : F (psys x) 102 [fzW rows, iI (u : Nat)] H fun v G => v = fzW (msk (rows.drop 1) (1#64 <<< u)) ∧ G = H := by
 refine F_body Tryd.func102 rfl u24 rfl ?_
 refine B_seq (B_region ?_)
 refine Lo u24 (v_const (VVal.slice none 0 0 true 0) (.inr rfl) rfl) ?_
 refine L_nil (K_seq (B_seq (B_region ?_)))
 refine Lo u24 (v_const (VVal.slice none 0 0 true 0) (.inr rfl) rfl) ?_
 refine L_nil (K_seq (B_seq (B_seq (B_region ?_))))
 refine Lo u24 (v_const (VVal.int .i64 1) (.inr rfl) rfl) ?_
 refine L_nil (K_seq (B_block ?_))
 refine B_clear (mk 24 16777116) (env' := u24) rfl ?_
 refine B_loopE (fun (⟨i, lv⟩ : Nat × VVal) => rows.length - i) (fun (⟨i, lv⟩ : Nat × VVal) => [(5, lv), (6, iI (i : Nat))]) (fun (⟨i, lv⟩ : Nat × VVal) G => (1 ≤ i ∧ (i ≤ rows.length ∨ i = 1)) ∧ ∃ X, G = H ++ X ∧ LV H.length 1 X lv ((gvT rows (1#64 <<< u) i).map iW) (i - 1)) ⟨1, _⟩ rfl ?_ ?_
 ·refine ⟨?_, ⟨_, rfl, by rw [gvT_1]; exact LV.nil _ _ _⟩⟩
  exact ⟨Nat.le_refl _, .inr rfl⟩
 rintro ⟨i, lv⟩ _ ⟨⟨hi1, hi2⟩, ⟨X, rfl, hl⟩⟩
 refine B_env (env' := u24) rfl ?_
 refine B_seq (B_seq (B_region ?_))
 refine Lo u24 (v_move (.inl rfl) rfl) ?_
 refine Lo u24 (v_move (.inl rfl) rfl) ?_
 refine Lo u24 (rfl) ?_
 refine Lo u24 (rfl) ?_
 refine L_nil (K_seq ?_)
 refine B_cond _ rfl (fun hc1 => ?_) (fun hc1 => ?_)
 ·try simp only [qB] at hc1
  refine B_skip (K_seq (B_seq (B_block ?_)))
  refine B_draw [0, 1, 2, 3, 4, 5, 6, 7, 8, 9, 10] #[0, 0, 0, 6, 14, 0, 32, 126, 254, 511, 1023] (by kernel_rfl) (by kernel_rfl) (by kernel_rfl) ?_
  refine Oo u24 .calm rfl (v_move (.inl rfl) rfl) ?_
  refine Oo u24 .calm rfl (v_move (.inl rfl) rfl) ?_
  refine Oo u24 .calm rfl (v_move (.inl rfl) rfl) ?_
  refine Oo u24 .calm rfl (W18 rfl rfl rfl rfl rfl rfl rfl) ?_
  refine Oo u24 .look rfl (W12 rfl rfl rfl rfl) ?_
  refine Oo u24 .calm rfl (v_move (.inl rfl) rfl) ?_
  refine Oo u24 .calm rfl (v_shl1 rfl rfl rfl (by first | assumption | omega | (simp [*]; done) | (simp at *; omega))) ?_
  refine Oo u24 .calm rfl (v_andNotW rfl rfl rfl) ?_
  refine Oo u24 .grow rfl (v_buildSlice rfl rfl (by decide) rfl) ?_
  refine O_opX .turn rfl rfl rfl (v_appX rfl rfl rfl rfl rfl rfl rfl hl rfl rfl (by decide) (by show (i - 1 + 1) * 8 ≤ _ ∧ i - 1 + 1 ≤ _; omega) (by decide)) rfl rfl ?_
  rintro _ _ ⟨Y1, rfl, rfl, hY1, hY2, hY3⟩
  refine O_env (env' := u24) rfl ?_
  refine Oo u24 .calm rfl (v_move (.inr rfl) rfl) ?_
  refine O_nil [] (by kernel_rfl) (trivial) ?_
  refine K_blk (K_seq (B_region ?_))
  refine Lo u24 (v_move (.inl rfl) rfl) ?_
  refine Lo u24 (W14 rfl rfl rfl) ?_
  refine Lo u24 (v_move (.inr rfl) rfl) ?_
  refine L_nil ?_
  refine K_loop (mk 24 16777116) (env' := u24) rfl ⟨⟨i + 1, _⟩, ?_, rfl, ?_⟩
  ·first | omega | (simp only []; omega)
  ·exact ⟨⟨by omega, .inl (by omega)⟩, _, rfl, by rw [gvT_succ hi1 (by omega), show i + 1 - 1 = i - 1 + 1 by omega]; exact LV.appW hY3⟩
 ·try simp only [qB] at hc1
  refine B_exit (K_seqX (K_loopX (K_blkX (K_seq (B_seq (B_region ?_))))))
  refine Lo u24 (v_move (.inl rfl) rfl) ?_
  refine Lo u24 (v_move (.inr rfl) rfl) ?_
  refine L_nil (K_seq (B_ret ?_))
  refine E_gh (.inr rfl) (vres_tmp rfl rfl) (Gh.ansLV (BaseOk.refl _) hl (mapW_under _ _)) ?_
  have hE := gvT_all (rows := rows) (t := 1#64 <<< u) (i := i) (by omega)
  have hlen : (gvT rows (1#64 <<< u) i).length = i - 1 := by unfold gvT; rw [msk_len, List.length_drop, List.length_take]; omega
  refine ⟨?_, rfl⟩
  rw [← hE]
  show _ = VVal.fsl ((gvT rows (1#64 <<< u) i).map iW) (gvT rows (1#64 <<< u) i).length 1 false
  rw [hlen]
theorem refFull_12 {x : SW} (H : VHeap) (rows : List (BitVec 64)) (h : rows.length ≤ 12) : F (psys x) 101 [fzW rows] H fun v G => v = .bool (fullB rows 0#64) ∧ G = H := by
  have := refFull_spec (x := x) H rows (by omega)
  rw [decide_eq_true h, Bool.true_and] at this; exact this
theorem getD_tail {l : List (BitVec 64)} (h : 0 < l.length) : ∃ w m, l = w :: m := by
  cases l with
  | nil => simp at h
  | cons w m => exact ⟨w, m, rfl⟩
theorem refLeast_spec {x : SW} (H : VHeap) (rows : List (BitVec 64)) (h62 : rows.length ≤ 1000000) : F (psys x) 83 [fzW rows] H fun v G => v = leV rows ∧ G = H := by
 refine F_body Tryd.func83 rfl u36 rfl ?_
 refine B_seq (B_region ?_)
 refine Lo u36 (v_const (VVal.slice none 0 0 true 0) (.inr rfl) rfl) ?_
 refine Lo u36 (v_const (VVal.bool false) (.inr rfl) rfl) ?_
 refine L_nil (K_seq (B_seq (B_seq (B_region ?_))))
 refine Lo u36 (v_move (.inl rfl) rfl) ?_
 refine L_call rfl rfl rfl (by exact refFull_spec _ rows h62) ?_
 rintro _ _ ⟨rfl, rfl⟩
 refine Le u36 ?_
 refine Lo u36 (rfl) ?_
 refine L_nil (K_seq ?_)
 refine B_cond _ rfl (fun hc1 => ?_) (fun hc1 => ?_)
 ·try simp only [qB] at hc1
  refine B_seq (B_region ?_)
  refine Lo u36 (v_const (VVal.slice none 0 0 true 0) (.inr rfl) rfl) ?_
  refine Lo u36 (v_const (VVal.bool false) (.inr rfl) rfl) ?_
  refine L_nil (K_seq ?_)
  refine B_gh (Gh.freezeNil 2 (es' := 1) rfl rfl) ?_
  refine B_ret (K_seqR ?_)
  refine W6p (.inr rfl) (vres_tmp2 rfl rfl rfl) ?_
  exact W6q
 ·try simp only [qB] at hc1
  refine B_skip (K_seq (B_seq (B_region ?_)))
  refine Lo u36 (v_const (VVal.slice none 0 0 true 0) (.inr rfl) rfl) ?_
  refine L_nil (K_seq (B_seq (B_block ?_)))
  refine B_clear (mk 36 68719476718) (env' := u36) rfl ?_
  refine B_loopE (fun (⟨r, ds, lv⟩ : List (BitVec 64) × List Nat × VVal) => r.length) (fun (⟨r, ds, lv⟩ : List (BitVec 64) × List Nat × VVal) => [(0, fzW r), (4, lv)]) (fun (⟨r, ds, lv⟩ : List (BitVec 64) × List Nat × VVal) G => (fullB r 0#64 = true ∧ r.length ≤ 12 ∧ ds.length + r.length = rows.length ∧ lst rows 0#64 = ds ++ lst r 0#64) ∧ ∃ X, G = H ++ X ∧ LV H.length 1 X lv (ds.map jN) ds.length) ⟨rows, [], _⟩ rfl ?_ ?_
  ·refine ⟨?_, ⟨_, rfl, LV.nil _ _ _⟩⟩
   exact ⟨hc1.2, hc1.1, by simp, by simp⟩
  rintro ⟨r, ds, lv⟩ _ ⟨⟨hfr, hr12, hdl, hlst⟩, ⟨X, rfl, hl⟩⟩
  refine B_env (env' := u36) rfl ?_
  refine B_seq (B_seq (B_region ?_))
  refine Lo u36 (v_move (.inl rfl) rfl) ?_
  refine Lo u36 (rfl) ?_
  refine Lo u36 (rfl) ?_
  refine L_nil (K_seq ?_)
  refine B_cond _ rfl (fun hc2 => ?_) (fun hc2 => ?_)
  ·try simp only [qB] at hc2
   refine B_skip (K_seq (B_block (B_seq ?_)))
   obtain ⟨w, m, rfl⟩ := getD_tail (l := r) (by omega)
   obtain ⟨u0, hu0, hw0, hf0⟩ := first_ex hfr
   refine B_region ?_
   refine Lo u36 (v_const (VVal.int .i64 0) (.inr rfl) rfl) ?_
   refine L_nil (K_seq (B_seq (B_block ?_)))
   refine B_clear (mk 36 68719476686) (env' := u36) rfl ?_
   refine B_loopE (fun (u : Nat) => 64 - u) (fun (u : Nat) => [(5, iI (u : Nat))]) (fun (u : Nat) G => (u ≤ u0 ∧ ∀ v, v < u → w.getLsbD v = true → fullB (msk m (1#64 <<< v)) 0#64 = false) ∧ G = H ++ X) 0 rfl ?_ ?_
   ·refine ⟨?_, rfl⟩
    exact ⟨Nat.zero_le _, fun v h => by omega⟩
   rintro u _ ⟨⟨hu, hno⟩, rfl⟩
   refine B_env (env' := u36) rfl ?_
   refine B_seq (B_seq (B_region ?_))
   refine Lo u36 (v_move (.inl rfl) rfl) ?_
   refine Lo u36 (W18 rfl rfl rfl rfl rfl rfl rfl) ?_
   refine Lo u36 (W6r rfl rfl rfl rfl) ?_
   refine Lo u36 (v_move (.inl rfl) rfl) ?_
   refine Lo u36 (v_shrW rfl rfl rfl (by first | assumption | omega | (simp [*]; done) | (simp at *; omega))) ?_
   refine Lo u36 (v_andW (b := 1#64) rfl rfl rfl) ?_
   refine Lo u36 (rfl) ?_
   refine Lo u36 (v_move (.inl rfl) rfl) ?_
   refine L_split 19 (env1 := u36) (env2 := u36) rfl rfl rfl (fun hg3 => ?_) (fun hg3 => ?_)
   ·try simp only [qB] at hg3
    refine Lf u36 ?_
    refine Lf u36 ?_
    refine Lf u36 ?_
    refine Lf u36 ?_
    refine Lf u36 ?_
    refine Lo u36 (v_pickTC (VVal.bool true) rfl rfl rfl) ?_
    refine L_nil (K_seq ?_)
    refine B_true rfl rfl ?_
    refine B_skip (K_seq (B_block (B_region ?_)))
    refine Lo u36 (v_move (.inl rfl) rfl) ?_
    refine Lo u36 (W14 rfl rfl rfl) ?_
    refine Lo u36 (v_move (.inr rfl) rfl) ?_
    refine L_nil (K_blk ?_)
    refine K_loop (mk 36 68719476686) (env' := u36) rfl ⟨u + 1, ?_, rfl, ?_⟩
    ·first | omega | (simp only []; omega)
    ·first | exact ⟨⟨Nat.lt_of_le_of_ne hu (fun e => by subst e; rw [sh0.1 (by assumption)] at hw0; cases hw0), fun v hv hb => by by_cases e : v = u; (subst e; rw [sh0.1 (by assumption)] at hb; cases hb); exact hno v (by omega) hb⟩, rfl⟩ | exact ⟨⟨Nat.lt_of_le_of_ne hu (fun e => by subst e; exact absurd hf0 (not_of_f (by assumption))), fun v hv hb => by by_cases e : v = u; (subst e; assumption); exact hno v (by omega) hb⟩, rfl⟩
   ·try simp only [qB] at hg3
    refine Lo u36 (v_move (.inl rfl) rfl) ?_
    refine Lo u36 (v_move (.inl rfl) rfl) ?_
    refine L_call rfl rfl rfl (by exact given_spec _ (w :: m) u (Nat.le_trans (show (w :: m).length ≤ 12 from hr12) (by decide))) ?_
    rintro _ _ ⟨rfl, rfl⟩
    refine Le u36 ?_
    refine L_call rfl rfl rfl (by exact refFull_12 _ (msk m (1#64 <<< u)) (by rw [msk_len]; simp only [List.length_cons] at hr12; omega)) ?_
    rintro _ _ ⟨rfl, rfl⟩
    refine Le u36 ?_
    refine Lo u36 (rfl) ?_
    refine Lo u36 (v_pickF rfl rfl rfl) ?_
    refine L_nil (K_seq ?_)
    refine B_cond _ rfl (fun hc4 => ?_) (fun hc4 => ?_)
    ·try simp only [qB] at hc4
     refine B_skip (K_seq (B_block (B_region ?_)))
     refine Lo u36 (v_move (.inl rfl) rfl) ?_
     refine Lo u36 (W14 rfl rfl rfl) ?_
     refine Lo u36 (v_move (.inr rfl) rfl) ?_
     refine L_nil (K_blk ?_)
     refine K_loop (mk 36 68719476686) (env' := u36) rfl ⟨u + 1, ?_, rfl, ?_⟩
     ·first | omega | (simp only []; omega)
     ·first | exact ⟨⟨Nat.lt_of_le_of_ne hu (fun e => by subst e; rw [sh0.1 (by assumption)] at hw0; cases hw0), fun v hv hb => by by_cases e : v = u; (subst e; rw [sh0.1 (by assumption)] at hb; cases hb); exact hno v (by omega) hb⟩, rfl⟩ | exact ⟨⟨Nat.lt_of_le_of_ne hu (fun e => by subst e; exact absurd hf0 (not_of_f (by assumption))), fun v hv hb => by by_cases e : v = u; (subst e; assumption); exact hno v (by omega) hb⟩, rfl⟩
    ·try simp only [qB] at hc4
     refine B_exit (K_seqX (K_loopX (K_blkX (K_seq (B_seq ?_)))))
     have hbit : w.getLsbD u = true := sh_not0 (by assumption)
     have hfu : fullB (msk m (1#64 <<< u)) 0#64 = true := by assumption
     simp only [List.length_cons] at hr12 hdl
     refine B_region ?_
     refine Lo u36 (v_move (.inl rfl) rfl) ?_
     refine Lo u36 (v_move (.inl rfl) rfl) ?_
     refine Lo u36 (v_buildSlice rfl rfl (by decide) rfl) ?_
     refine L_opX rfl rfl (v_appX rfl rfl rfl rfl rfl rfl rfl hl rfl rfl (by decide) (by show (ds.length + 1) * 8 ≤ _ ∧ ds.length + 1 ≤ _; omega) (by decide)) ?_
     rintro _ _ ⟨Y1, rfl, rfl, hY1, hY2, hY3⟩
     refine Le u36 ?_
     refine Lo u36 (v_move (.inr rfl) rfl) ?_
     refine L_nil (K_seq (B_region ?_))
     refine Lo u36 (v_move (.inl rfl) rfl) ?_
     refine Lo u36 (v_move (.inl rfl) rfl) ?_
     refine L_call rfl rfl rfl (by exact given_spec _ (w :: m) u (Nat.le_trans (show (w :: m).length ≤ 12 from hr12) (by decide))) ?_
     rintro _ _ ⟨rfl, rfl⟩
     refine Le u36 ?_
     refine Lo u36 (v_move (.inr rfl) rfl) ?_
     refine L_nil (K_blk ?_)
     refine K_loop (mk 36 68719476718) (env' := u36) rfl ⟨⟨msk m (1#64 <<< u), ds ++ [u], _⟩, ?_, rfl, ?_⟩
     ·show (msk m (1#64 <<< u)).length < (w :: m).length; rw [msk_len]; simp
     ·exact ⟨⟨hfu, by rw [msk_len]; omega, by rw [List.length_append, msk_len]; show ds.length + 1 + m.length = _; omega, hlst.trans ((congrArg (ds ++ ·) (lst_first (by omega) hbit hfu hno)).trans (by simp))⟩, _, rfl, by rw [List.length_append]; exact LV.appN hY3⟩
  ·try simp only [qB] at hc2
   refine B_exit (K_seqX (K_loopX (K_blkX (K_seq (B_seq (B_region ?_))))))
   refine Lo u36 (v_move (.inl rfl) rfl) ?_
   refine Lo u36 (v_move (.inr rfl) rfl) ?_
   refine Lo u36 (v_const (VVal.bool true) (.inr rfl) rfl) ?_
   refine L_nil (K_seq ?_)
   refine B_ghLV (env' := u36) 2 hl rfl rfl fun X2 _ _ => ?_
   refine B_ret ?_
   refine W6p (.inr rfl) (vres_tmp2 rfl rfl rfl) ?_
   exact W6q
end Go.Proofs.YtnbihdflnjpinaaDoor.VT

set_option autoImplicit false
set_option linter.unusedVariables false
set_option linter.unusedSimpArgs false
set_option maxHeartbeats 4000000
set_option maxRecDepth 100000
namespace Go.Proofs.YtnbihdflnjpinaaDoor.VT
open Go Go.V Go.RowKit
theorem Cut_few {x : SW} (H : VHeap) (p : Pb) (m : Nat) : F (psys x) 13 [.agg (pbB (fewP p m))] H fun v G => v = .agg (pbB (fewP p m)) ∧ G = H := by
  have := Cut_spec (x := x) H (fewP p m)
  rw [fewP_cut] at this; exact this
theorem hds_len' {p : Pb} {l : List Nat} (h : hds p (zI l) = true) : l.length = p.who.length ∧ l.length ≤ 12 := by
  obtain ⟨g, h1, _⟩ := hds_iff.1 h
  rw [zI_len] at h1
  exact ⟨h1, by rw [h1]; exact g.n12⟩
theorem leT_len {p : Pb} {l : List Nat} {ok : Bool} (h : leT (leA p) = .tuple [fzN l, .bool ok]) : l.length ≤ 12 := by
  cases e : leA p with
  | none =>
    rw [e] at h
    have h : VVal.tuple [fzN [], .bool false] = .tuple [fzN l, .bool ok] := h
    simp only [VVal.tuple.injEq, List.cons.injEq, VVal.fsl.injEq] at h
    have : 0 = l.length := h.1.2.1
    omega
  | some m =>
    rw [e] at h
    have h : VVal.tuple [fzN m, .bool true] = .tuple [fzN l, .bool ok] := h
    simp only [VVal.tuple.injEq, List.cons.injEq, VVal.fsl.injEq] at h
    have h1 : m.length = l.length := h.1.2.1
    have := (hds_len' (leA_some e)).2
    omega
theorem leT_ok {o : Option (List Nat)} {l : List Nat} {ok : Bool} (h : leT o = .tuple [fzN l, .bool ok]) : ok = o.isSome := by
  cases o with
  | none =>
    have h : VVal.tuple [fzN [], .bool false] = .tuple [fzN l, .bool ok] := h
    simp at h; simp [h]
  | some m =>
    have h : VVal.tuple [fzN m, .bool true] = .tuple [fzN l, .bool ok] := h
    simp at h; simp [h]
theorem kInts_N {x : SW} (H : VHeap) (l : List Nat) (h : l.length ≤ 12) : F (psys x) 24 [fzN l, fzN l] H fun v G => v = .bool true ∧ G = H := by
  have := kInts_spec (x := x) H (zI l) (zI l) (by rw [zI_len]; omega)
  rw [← fzN_is, decide_eq_true rfl] at this; exact this
end Go.Proofs.YtnbihdflnjpinaaDoor.VT

set_option autoImplicit false
set_option linter.unusedVariables false
set_option linter.unusedSimpArgs false
set_option maxHeartbeats 4000000
set_option maxRecDepth 100000
namespace Go.Proofs.YtnbihdflnjpinaaDoor.VT
open Go Go.V Go.RowKit
abbrev u11 {a0 a1 a2 a3 a4 a5 a6 a7 a8 a9 a10 : VVal} : VEnv := a0 :: a1 :: a2 :: a3 :: a4 :: a5 :: a6 :: a7 :: a8 :: a9 :: a10 :: []
theorem W6s {T : TypeId → Option VTy} {H : VHeap} {op : Op} {ρ : Operand → VVal} {t : TypeId} {a : Operand} {y : VTy} {p : VVal} {n : Nat} {vs : List VVal} (ho : op = .load t a) (ha : ρ a = p) (hy : T t = some y) (hd : isAggDesc y.desc = true) (hn : y.size = n) (h : LdOkA H p n vs := by first | exact .inl ⟨_, _, rfl, by first | rfl | assumption | exact fgetN (α := Nat) 0 (by omega)⟩ | exact .inr ⟨_, _, _, _, rfl, by first | exact get_app rfl rfl | exact get_out (by assumption) | exact getE0 rfl rfl | exact get_out (get_app rfl rfl) | exact get_app rfl (by assumption) | assumption | (simp only [List.append_assoc, List.singleton_append, List.cons_append, List.nil_append]; refine getE (i := 0) rfl ?_ rfl; simp; done) | (simp only [List.append_assoc, List.singleton_append, List.cons_append, List.nil_append]; refine getE (i := 1) rfl ?_ rfl; simp; done) | (simp only [List.append_assoc, List.singleton_append, List.cons_append, List.nil_append]; refine getE (i := 2) rfl ?_ rfl; simp; done) | (simp only [List.append_assoc, List.singleton_append, List.cons_append, List.nil_append]; refine getE (i := 3) rfl ?_ rfl; simp; done) | (simp [*]; done), by first | rfl | assumption | exact fgetN (α := Nat) 0 (by omega)⟩) : vop T ρ H op = some (.agg vs, H) := v_ldA ho ha hy hd hn h
theorem W6t {S : V.Sys} {H : VHeap} {fn : Func} {ex : Exit} {env : VEnv} {B L : VHeap} {v : VVal} {R : VVal → VHeap → Prop} (hx : ex = .normal ∨ ex = .ret) (hv : vresults S.C.T env (B ++ L) fn.results = some v) (h : R v B) (hB : BaseOk H B := by first | exact BaseOk.refl _ | exact BaseOk.set (BaseOk.refl _) _ rfl) (hu : v.under H.length = true := by first | rfl | exact (show ((fzN (plN a l)).under H.length && (true && true)) = true by rw [show (fzN (plN a l)).under H.length = true from mapN_under _ _]; rfl)) : fnK S fn H R ex env (B ++ L) := E_app hx hv hB hu h
theorem W6u {P : Prop} (h : P := by first | exact ⟨by rw [srF_0 hey, h7]; show _ = VVal.tuple [fzN (plN a l), .bool true]; rw [fzN_pl]; rfl, rfl⟩ | exact ⟨by rw [srF_0 hey, h6 (by assumption)]; rfl, rfl⟩ | exact ⟨by rw [srF_e (by rw [wsP_len]; assumption)]; rfl, rfl⟩) : P := h
theorem W6x {T : TypeId → Option VTy} {H : VHeap} {op : Op} {ρ : VEnv} {H' : VHeap} {t : TypeId} {a : Operand} {i : Nat} {v : VVal} {y : VTy} {b off : Nat} {cs new : List VVal} (ho : op = .store t a (.tmp i)) (hv : ρ[i]? = some v) (ha : ρ.eval a = .ptr (some (b, off))) (hy : T t = some y) (hx : v.cells = some new) (hn : new.length = y.size) (h1 : new.all VVal.one = true) (hb : H[b]? = some (.cells cs true) := by first | exact get_app rfl rfl | exact get_out (by assumption) | exact getE0 rfl rfl | exact get_out (get_app rfl rfl) | exact get_app rfl (by assumption) | assumption | (simp only [List.append_assoc, List.singleton_append, List.cons_append, List.nil_append]; refine getE (i := 0) rfl ?_ rfl; simp; done) | (simp only [List.append_assoc, List.singleton_append, List.cons_append, List.nil_append]; refine getE (i := 1) rfl ?_ rfl; simp; done) | (simp only [List.append_assoc, List.singleton_append, List.cons_append, List.nil_append]; refine getE (i := 2) rfl ?_ rfl; simp; done) | (simp only [List.append_assoc, List.singleton_append, List.cons_append, List.nil_append]; refine getE (i := 3) rfl ?_ rfl; simp; done) | (simp [*]; done)) (hl : off + new.length ≤ cs.length := by show 0 + k * 1 + 1 ≤ _; rw [List.length_map, plK_len (by omega)]; omega) (hH : H.set b (.cells (splice cs off new) true) = H' := by exact (set_app rfl).trans (by show _ ++ [VBlk.dead, VBlk.cells (splice (rcN (plK a l k)) (0 + k * 1) [iI ((l.getD (a.getD k 0) 0 : Nat) : Int)]) true] = _; rw [spl_N (by rw [plK_len (by omega)]; omega)])) : vop T ρ.eval H op = some (.skip, H') := v_storeT ho hv ha hy hx hn h1 hb hl hH
theorem W6z {S : V.Sys} {H : VHeap} {fn : Func} {ex : Exit} {env : VEnv} {B L : VHeap} {v : VVal} {R : VVal → VHeap → Prop} (hx : ex = .normal ∨ ex = .ret) (hv : vresults S.C.T env (B ++ L) fn.results = some v) (h : R v B) (hB : BaseOk H B := by first | exact BaseOk.refl _ | exact BaseOk.set (BaseOk.refl _) _ rfl) (hu : v.under H.length = true := by first | rfl | exact (show ((fzN l).under H.length && (true && true)) = true by rw [show (fzN l).under H.length = true from mapN_under _ _]; rfl)) : fnK S fn H R ex env (B ++ L) := E_app hx hv hB hu h
theorem W70 {P : Prop} (h : P := by first | exact ⟨by rw [srF_R hey, hsr, srR_yes (by omega) (h5 rfl)]; rfl, rfl⟩ | exact ⟨by rw [srF_R hey, hsr, srR_end (by omega)]; rfl, rfl⟩ | exact ⟨by rw [srF_e (by rw [wsP_len]; assumption)]; rfl, rfl⟩) : P := h
theorem W71 {T : TypeId → Option VTy} {H : VHeap} {op : Op} {ρ : Operand → VVal} {t : TypeId} {a : Operand} {y : VTy} {p : VVal} {n : Nat} {vs : List VVal} (ho : op = .load t a) (ha : ρ a = p) (hy : T t = some y) (hd : isAggDesc y.desc = true) (hn : y.size = n) (h : LdOkA H p n vs := by first | exact .inl ⟨_, _, rfl, by rfl⟩ | exact .inr ⟨_, _, _, _, rfl, by first | exact get_app rfl rfl | exact get_out (by assumption) | exact getE0 rfl rfl | exact get_out (get_app rfl rfl) | exact get_app rfl (by assumption) | assumption | (simp only [List.append_assoc, List.singleton_append, List.cons_append, List.nil_append]; refine getE (i := 0) rfl ?_ rfl; simp; done) | (simp only [List.append_assoc, List.singleton_append, List.cons_append, List.nil_append]; refine getE (i := 1) rfl ?_ rfl; simp; done) | (simp only [List.append_assoc, List.singleton_append, List.cons_append, List.nil_append]; refine getE (i := 2) rfl ?_ rfl; simp; done) | (simp only [List.append_assoc, List.singleton_append, List.cons_append, List.nil_append]; refine getE (i := 3) rfl ?_ rfl; simp; done) | (simp [*]; done), by rfl⟩) : vop T ρ H op = some (.agg vs, H) := v_ldA ho ha hy hd hn h
theorem W72 {P : Prop} (h : P := by first | exact ⟨he.symm, rfl⟩ | exact ⟨by rw [show leA p = none from if_neg (by assumption)]; rfl, rfl⟩) : P := h
theorem search_in {x : SW} {H Z : VHeap} {pv : VVal} {a : List Nat} {b i n c : Nat} {o : Option (List Nat)} (hZ : Z[i]? = some (.cells (rcN (a ++ [b])) true)) (h : F (psys x) 55 [pv, fzN (a ++ [b])] (H ++ Z.set i .dead) fun v G => v = leT o ∧ G = H ++ Z.set i .dead) (hn : n = a.length + 1) (hc : c = n) : F (psys x) 55 [pv, .slice (some (H.length + i, 0)) n c false 1] (H ++ Z) fun v G => v = leT o ∧ G = H ++ Z.set i .dead := by
  subst hc; subst hn
  exact F.pre (Gh.freezeL (H := H) (l := rcN (a ++ [b])) (vs' := [pv, fzN (a ++ [b])]) 1 i rfl hZ (cellsAt_all (by simp)) (Nat.le_refl _) (by simp)) h
theorem leV_o {ws : List (BitVec 64)} {a : List Nat} (h : (blkN ws a a.length).length ≤ 12) : ∃ l ok, leV (blkN ws a a.length) = .tuple [fzN l, .bool ok] ∧ (ok = true → plO ws a = some (plN a l) ∧ l.length = (blkN ws a a.length).length) ∧ (ok = false → plO ws a = none) := by
  unfold leV plO
  by_cases hf : fullB (blkN ws a a.length) 0#64 = true
  · rw [if_pos ⟨h, hf⟩, if_pos hf]
    refine ⟨_, true, rfl, fun _ => ⟨rfl, ?_⟩, fun e => (by cases e)⟩
    have := (lst_ok (fullB_iff.1 hf)).len
    rwa [msk_len] at this
  · rw [if_neg (fun e => hf e.2), if_neg hf]
    exact ⟨[], false, rfl, fun e => (by cases e), fun _ => rfl⟩
theorem search_0 {x : SW} (p : Pb) (hp : PbL p) (g : Go.V.Good p) (H : VHeap) (a : List Nat) (ha : Pat a) (hl : a.length = p.who.length) : F (psys x) 55 [.agg (pbB p), fzN a] H fun v G => v = leT (srF (wsP p) p.rules 0 a) ∧ G = H := by
 have h1 := hp.w
 have g1 := g.n12
 have hz := @szP_le a a.length
 have hbl := @blkN_len (wsP p) a a.length
 refine F_body Tryd.func55 rfl u73 rfl ?_
 refine B_seq (B_region ?_)
 refine Lo u73 (v_boxT rfl rfl rfl) ?_
 refine Lo u73 (v_const (VVal.slice none 0 0 true 0) (.inr rfl) rfl) ?_
 refine Lo u73 (v_const (VVal.bool false) (.inr rfl) rfl) ?_
 refine L_nil (K_seq (B_seq (B_seq ?_)))
 refine B_gh (Gh.freezePtrL (cs := pbB p) 2 0 rfl rfl rfl) ?_
 refine B_region ?_
 refine Lo u73 (W6s rfl rfl rfl rfl rfl) ?_
 refine Lo u73 (v_move (.inl rfl) rfl) ?_
 refine L_call rfl rfl rfl (by exact early_spec _ p hp a) ?_
 rintro _ _ ⟨rfl, rfl⟩
 refine Le u73 ?_
 refine Lo u73 (rfl) ?_
 refine L_nil (K_seq ?_)
 refine B_cond _ rfl (fun hc1 => ?_) (fun hc1 => ?_)
 ·try simp only [qB, qN] at hc1
  refine B_seq (B_region ?_)
  refine Lo u73 (v_const (VVal.slice none 0 0 true 0) (.inr rfl) rfl) ?_
  refine Lo u73 (v_const (VVal.bool false) (.inr rfl) rfl) ?_
  refine L_nil (K_seq ?_)
  refine B_gh (Gh.freezeNil 4 (es' := 1) rfl rfl) ?_
  refine B_ret (K_seqR ?_)
  refine W6t (.inr rfl) (vres_tmp2 rfl rfl rfl) ?_
  exact W6u
 ·try simp only [qB, qN] at hc1
  refine B_skip (K_seq (B_seq (B_seq ?_)))
  have hey : erlA (wsP p).length p.rules a = true := by rw [wsP_len]; assumption
  refine B_region ?_
  refine Lo u73 (v_move (.inl rfl) rfl) ?_
  refine Lo u73 (rfl) ?_
  refine Lo u73 (rfl) ?_
  refine Lo u73 (W4s rfl rfl rfl rfl) ?_
  refine Lo u73 (rfl) ?_
  refine Lo u73 (v_is true rfl (by rw [hl]; simp)) ?_
  refine L_nil (K_seq ?_)
  refine B_true rfl rfl ?_
  refine B_seq (B_region ?_)
  refine Lo u73 (W6s rfl rfl rfl rfl rfl) ?_
  refine Lo u73 (v_move (.inl rfl) rfl) ?_
  refine L_call rfl rfl rfl (by exact Rows_spec _ p g a ha (by omega)) ?_
  rintro _ _ ⟨rfl, rfl⟩
  refine Le u73 ?_
  refine L_call rfl rfl rfl (by exact refLeast_spec _ (blkN (wsP p) a a.length) (by omega)) ?_
  rintro v _ ⟨hv, rfl⟩; obtain ⟨l, ok, he, h5, h6⟩ := leV_o (ws := wsP p) (a := a) (by omega); rw [he] at hv; subst hv
  refine Le u73 ?_
  refine Lo u73 (v_move (.inl rfl) rfl) ?_
  refine Lo u73 (rfl) ?_
  refine Lo u73 (rfl) ?_
  refine Lo u73 (v_move (.inr rfl) rfl) ?_
  refine Lo u73 (v_move (.inr rfl) rfl) ?_
  refine L_nil (K_seq (B_seq (B_seq (B_region ?_))))
  refine Lo u73 (v_move (.inl rfl) rfl) ?_
  refine Lo u73 (rfl) ?_
  refine L_nil (K_seq ?_)
  refine B_cond _ rfl (fun hc2 => ?_) (fun hc2 => ?_)
  ·try simp only [qB, qN] at hc2
   refine B_seq (B_region ?_)
   refine Lo u73 (v_const (VVal.slice none 0 0 true 0) (.inr rfl) rfl) ?_
   refine Lo u73 (v_const (VVal.bool false) (.inr rfl) rfl) ?_
   refine L_nil (K_seq ?_)
   refine B_gh (Gh.freezeNil 4 (es' := 1) rfl rfl) ?_
   refine B_ret (K_seqR (K_seqR ?_))
   refine W6t (.inr rfl) (vres_tmp2 rfl rfl rfl) ?_
   exact W6u
  ·try simp only [qB, qN] at hc2
   refine B_skip (K_seq (B_seq ?_))
   have hok : ok = true := by assumption
   obtain ⟨h7, h8⟩ := h5 hok
   refine B_region ?_
   refine Lo u73 (v_move (.inl rfl) rfl) ?_
   refine Lo u73 (rfl) ?_
   refine Lo u73 (v_makeSlice rfl rfl rfl rfl rfl (by decide) ⟨by omega, Int.le_refl _, by show (a.length : Int) * (8 : Nat) ≤ _; omega, by omega⟩) ?_
   refine Lo u73 (v_move (.inr rfl) rfl) ?_
   refine L_nil (K_seq (B_seq (B_seq (B_region ?_))))
   refine Lo u73 (v_const (VVal.int .i64 0) (.inr rfl) rfl) ?_
   refine L_nil (K_seq (B_block ?_))
   refine B_clear (mk 73 9444732965739290426557) (env' := u73) rfl ?_
   refine B_loopE (fun (k : Nat) => a.length - k) (fun (k : Nat) => [(9, iI (k : Nat))]) (fun (k : Nat) G => (k ≤ a.length) ∧ G = H ++ [.dead, .cells (rcN (plK a l k)) true]) 0 rfl ?_ ?_
   ·refine ⟨?_, (by rw [show plK a l 0 = List.replicate a.length 0 from rfl, ← rep_rc]; rfl)⟩
    exact Nat.zero_le _
   rintro k _ ⟨hk9, rfl⟩
   refine B_env (env' := u73) rfl ?_
   refine B_seq (B_seq (B_region ?_))
   refine Lo u73 (v_move (.inl rfl) rfl) ?_
   refine Lo u73 (v_move (.inl rfl) rfl) ?_
   refine Lo u73 (rfl) ?_
   refine Lo u73 (rfl) ?_
   refine L_nil (K_seq ?_)
   refine B_cond _ rfl (fun hc3 => ?_) (fun hc3 => ?_)
   ·try simp only [qB, qN] at hc3
    refine B_skip (K_seq (B_seq (B_block ?_)))
    have hlt := Pat.lt ha (Nat.le_refl a.length) (i := k) (by omega)
    refine B_region ?_
    refine Lo u73 (v_move (.inl rfl) rfl) ?_
    refine Lo u73 (v_move (.inl rfl) rfl) ?_
    refine Lo u73 (v_move (.inl rfl) rfl) ?_
    refine Lo u73 (v_move (.inl rfl) rfl) ?_
    refine Lo u73 (v_move (.inl rfl) rfl) ?_
    refine Lo u73 (W18 rfl rfl rfl rfl rfl rfl rfl) ?_
    refine Lo u73 (W4s rfl rfl rfl rfl) ?_
    refine Lo u73 (W18 rfl rfl rfl rfl rfl rfl rfl) ?_
    refine Lo u73 (W4s rfl rfl rfl rfl) ?_
    refine Lo u73 (W18 rfl rfl rfl rfl rfl rfl rfl) ?_
    refine Lo u73 (W6x rfl rfl rfl rfl rfl rfl rfl) ?_
    refine L_nil (K_blk (K_seq (B_region ?_)))
    refine Lo u73 (v_move (.inl rfl) rfl) ?_
    refine Lo u73 (W14 rfl rfl rfl) ?_
    refine Lo u73 (v_move (.inr rfl) rfl) ?_
    refine L_nil ?_
    refine K_loop (mk 73 9444732965739290426557) (env' := u73) rfl ⟨k + 1, ?_, rfl, ?_⟩
    ·first | omega | (simp only []; omega)
    ·exact ⟨by omega, by rw [plK_step (by omega)]⟩
   ·try simp only [qB, qN] at hc3
    refine B_exit (K_seqX (K_loopX (K_blkX (K_seq (B_seq (B_region ?_))))))
    refine Lo u73 (v_move (.inl rfl) rfl) ?_
    refine Lo u73 (v_move (.inr rfl) rfl) ?_
    refine Lo u73 (v_const (VVal.bool true) (.inr rfl) rfl) ?_
    refine L_nil (K_seq ?_)
    obtain rfl : k = a.length := by omega
    rw [plK_all]
    refine B_gh (Gh.freezeL (l := rcN (plN a l)) 4 1 rfl rfl (cellsAt_all (by rw [List.length_map, plN_len]; rfl)) (Nat.le_refl _) rfl) ?_
    refine B_ret (K_seqR ?_)
    refine W6t (.inr rfl) (vres_tmp2 rfl rfl rfl) ?_
    exact W6u
theorem search_s {x : SW} (p : Pb) (hp : PbL p) (g : Go.V.Good p) (M : Nat) (ih : ∀ (H : VHeap) (a : List Nat), Pat a → a.length + M = p.who.length → F (psys x) 55 [.agg (pbB p), fzN a] H (fun v G => v = leT (srF (wsP p) p.rules M a) ∧ G = H)) (H : VHeap) (a : List Nat) (ha : Pat a) (hl : a.length + (M + 1) = p.who.length) : F (psys x) 55 [.agg (pbB p), fzN a] H fun v G => v = leT (srF (wsP p) p.rules (M + 1) a) ∧ G = H := by
 have h1 := hp.w
 have g1 := g.n12
 have hz := @szP_le a a.length
 have hbl := @blkN_len (wsP p) a a.length
 refine F_body Tryd.func55 rfl u73 rfl ?_
 refine B_seq (B_region ?_)
 refine Lo u73 (v_boxT rfl rfl rfl) ?_
 refine Lo u73 (v_const (VVal.slice none 0 0 true 0) (.inr rfl) rfl) ?_
 refine Lo u73 (v_const (VVal.bool false) (.inr rfl) rfl) ?_
 refine L_nil (K_seq (B_seq (B_seq ?_)))
 refine B_gh (Gh.freezePtrL (cs := pbB p) 2 0 rfl rfl rfl) ?_
 refine B_region ?_
 refine Lo u73 (W6s rfl rfl rfl rfl rfl) ?_
 refine Lo u73 (v_move (.inl rfl) rfl) ?_
 refine L_call rfl rfl rfl (by exact early_spec _ p hp a) ?_
 rintro _ _ ⟨rfl, rfl⟩
 refine Le u73 ?_
 refine Lo u73 (rfl) ?_
 refine L_nil (K_seq ?_)
 refine B_cond _ rfl (fun hc1 => ?_) (fun hc1 => ?_)
 ·try simp only [qB, qN] at hc1
  refine B_seq (B_region ?_)
  refine Lo u73 (v_const (VVal.slice none 0 0 true 0) (.inr rfl) rfl) ?_
  refine Lo u73 (v_const (VVal.bool false) (.inr rfl) rfl) ?_
  refine L_nil (K_seq ?_)
  refine B_gh (Gh.freezeNil 4 (es' := 1) rfl rfl) ?_
  refine B_ret (K_seqR ?_)
  refine W6z (.inr rfl) (vres_tmp2 rfl rfl rfl) ?_
  exact W70
 ·try simp only [qB, qN] at hc1
  refine B_skip (K_seq (B_seq (B_seq ?_)))
  have hey : erlA (wsP p).length p.rules a = true := by rw [wsP_len]; assumption
  refine B_region ?_
  refine Lo u73 (v_move (.inl rfl) rfl) ?_
  refine Lo u73 (rfl) ?_
  refine Lo u73 (rfl) ?_
  refine Lo u73 (W4s rfl rfl rfl rfl) ?_
  refine Lo u73 (rfl) ?_
  refine Lo u73 (v_is false rfl (by simp; omega)) ?_
  refine L_nil (K_seq ?_)
  refine B_false rfl rfl ?_
  refine B_skip (K_seq (B_seq (B_seq (B_region ?_))))
  refine Lo u73 (v_const (VVal.int .i64 0) (.inr rfl) rfl) ?_
  refine L_nil (K_seq (B_block ?_))
  refine B_clear (mk 73 9444732965739290426361) (env' := u73) rfl ?_
  refine B_loopE (fun (b : Nat) => szP a a.length + 1 - b) (fun (b : Nat) => [(10, iI (b : Nat))]) (fun (b : Nat) G => (b ≤ szP a a.length + 1 ∧ srR (wsP p) p.rules M a 0 = srR (wsP p) p.rules M a b) ∧ ∃ X, G = H ++ X) 0 rfl ?_ ?_
  ·refine ⟨?_, ⟨_, rfl⟩⟩
   exact ⟨Nat.zero_le _, rfl⟩
  rintro b _ ⟨⟨hb, hsr⟩, ⟨X, rfl⟩⟩
  refine B_env (env' := u73) rfl ?_
  refine B_seq (B_seq (B_region ?_))
  refine Lo u73 (v_move (.inl rfl) rfl) ?_
  refine Lo u73 (v_move (.inl rfl) rfl) ?_
  refine L_call rfl rfl rfl (by exact Size_spec _ a ha (by omega)) ?_
  rintro _ _ ⟨rfl, rfl⟩
  refine Le u73 ?_
  refine Lo u73 (rfl) ?_
  refine L_nil (K_seq ?_)
  refine B_cond _ rfl (fun hc2 => ?_) (fun hc2 => ?_)
  ·try simp only [qB, qN] at hc2
   refine B_skip (K_seq (B_seq (B_block (B_seq (B_region ?_)))))
   refine Lo u73 (v_const (VVal.slice none 0 0 true 0) (.inr rfl) rfl) ?_
   refine L_nil (K_seq (B_seq (B_region ?_)))
   refine Lo u73 (v_move (.inl rfl) rfl) ?_
   refine Lo u73 (v_move (.inl rfl) rfl) ?_
   refine L_opX rfl rfl (v_cpN rfl rfl rfl rfl rfl rfl rfl rfl (by show a.length * 8 ≤ _ ∧ _; omega)) ?_
   rintro w _ ⟨Z, rfl, hcp⟩
   refine Le u73 ?_
   refine Lo u73 (v_move (.inr rfl) rfl) ?_
   refine L_nil (K_seq (B_seq ?_))
   refine B_drawP #[0, 0, 0, 4, 14, 31, 63, 127, 127, 255, 1023] (by kernel_rfl) ?_
   refine P_seg [0, 1, 2, 3, 4] (bef := #[0, 0, 0, 4, 14, 31, 63, 127, 127, 255, 1023]) (by kernel_rfl) (by kernel_rfl) (by kernel_rfl) ?_
   refine O_opI (env' := u73) (x := .look _ _) rfl rfl rfl (W6s rfl rfl rfl rfl rfl) rfl rfl rfl ?_
   refine Oo u73 .calm rfl (v_move (.inl rfl) rfl) ?_
   refine Oo u73 .calm rfl (v_move (.inl rfl) rfl) ?_
   refine Oo u73 .grow rfl (v_buildSlice rfl rfl (by decide) rfl) ?_
   refine O_opXI (fun _ G => .turn _ G) rfl rfl rfl (v_cpApp rfl rfl rfl rfl rfl rfl rfl rfl hcp (by show (a.length + 1) * 8 ≤ _ ∧ _; omega)) (fun _ _ => rfl) ?_
   rintro _ _ ⟨Z2, i, rfl, rfl, hZ2⟩
   refine O_env (env' := u73) rfl ?_
   refine O_nil [_] (by rfl) (And.intro (And.intro (W6s rfl rfl rfl rfl rfl) (W6s rfl rfl rfl rfl rfl)) trivial) ?_
   refine P_call 5 (bef := #[0, 0, 0, 4, 14, 31, 63, 127, 127, 255, 1023]) (by kernel_rfl) (by kernel_rfl) rfl rfl rfl rfl (by exact search_in hZ2 (ih _ (a ++ [b]) (Pat_snoc ha (by omega)) (by simp; omega)) rfl rfl) ?_
   rintro v _ ⟨hv, rfl⟩; obtain ⟨l, ok, he, h5, h6⟩ := leT_eq (srF (wsP p) p.rules M (a ++ [b])); rw [he] at hv; subst hv
   refine P_env (env' := u73) rfl ?_
   refine P_seg [6, 7, 8, 9, 10] (bef := #[0, 0, 0, 4, 14, 31, 63, 127, 127, 255, 1023]) (by kernel_rfl) (by kernel_rfl) (by kernel_rfl) ?_
   refine Oo u73 .calm rfl (v_move (.inl rfl) rfl) ?_
   refine Oo u73 .calm rfl (rfl) ?_
   refine Oo u73 .calm rfl (rfl) ?_
   refine Oo u73 .calm rfl (v_move (.inr rfl) rfl) ?_
   refine Oo u73 .calm rfl (v_move (.inr rfl) rfl) ?_
   refine O_nil [] (by kernel_rfl) (trivial) ?_
   refine P_end (by kernel_rfl) ?_
   refine K_seq (B_seq (B_region ?_))
   refine Lo u73 (v_move (.inl rfl) rfl) ?_
   refine L_nil (K_seq ?_)
   refine B_cond _ rfl (fun hc3 => ?_) (fun hc3 => ?_)
   ·try simp only [qB, qN] at hc3
    have hok : ok = true := by assumption
    subst hok
    refine B_seq (B_region ?_)
    refine Lo u73 (v_move (.inl rfl) rfl) ?_
    refine Lo u73 (v_move (.inr rfl) rfl) ?_
    refine Lo u73 (v_const (VVal.bool true) (.inr rfl) rfl) ?_
    refine L_nil (K_seq (B_ret (K_blkR (K_seqR (K_loopR (K_blkR (K_seqR ?_)))))))
    refine W6z (.inr rfl) (vres_tmp2 rfl rfl rfl) ?_
    exact W70
   ·try simp only [qB, qN] at hc3
    have hok : ok = false := by assumption
    subst hok
    refine B_skip (K_blk (K_seq (B_region ?_)))
    refine Lo u73 (v_move (.inl rfl) rfl) ?_
    refine Lo u73 (W14 rfl rfl rfl) ?_
    refine Lo u73 (v_move (.inr rfl) rfl) ?_
    refine L_nil ?_
    refine K_loop (mk 73 9444732965739290426361) (env' := u73) rfl ⟨b + 1, ?_, rfl, ?_⟩
    ·first | omega | (simp only []; omega)
    ·exact ⟨⟨by omega, hsr.trans (srR_no (by omega) (h6 rfl).2)⟩, _, rfl⟩
  ·try simp only [qB, qN] at hc2
   refine B_exit (K_seqX (K_loopX (K_blkX (K_seq (B_seq (B_region ?_))))))
   refine Lo u73 (v_const (VVal.slice none 0 0 true 0) (.inr rfl) rfl) ?_
   refine Lo u73 (v_const (VVal.bool false) (.inr rfl) rfl) ?_
   refine L_nil (K_seq ?_)
   refine B_gh (Gh.freezeNil 4 (es' := 1) rfl rfl) ?_
   refine B_ret ?_
   refine W6z (.inr rfl) (vres_tmp2 rfl rfl rfl) ?_
   exact W70
theorem search_spec {x : SW} (p : Pb) (hp : PbL p) (g : Go.V.Good p) : ∀ (M : Nat) (H : VHeap) (a : List Nat), Pat a → a.length + M = p.who.length → F (psys x) 55 [.agg (pbB p), fzN a] H (fun v G => v = leT (srF (wsP p) p.rules M a) ∧ G = H)
  | 0, H, a, ha, hl => search_0 p hp g H a ha hl
  | M + 1, H, a, ha, hl => search_s p hp g M (fun H a b c => search_spec p hp g M H a b c) H a ha hl
theorem search_top {x : SW} (p : Pb) (hp : PbL p) (g : Go.V.Good p) (H : VHeap) : F (psys x) 55 [.agg (pbB p), niS] H (fun v G => ∃ l ok, v = .tuple [fzN l, .bool ok] ∧ leT (leA p) = .tuple [fzN l, .bool ok] ∧ G = H) := by
  refine F.pre (Gh.freezeNil (vs' := [.agg (pbB p), fzN []]) 1 rfl rfl) ?_
  refine (search_spec p hp g p.who.length H [] Pat_nil (Nat.zero_add _)).mono ?_
  rintro v G ⟨rfl, rfl⟩
  have h1 := srF_fd (u := p.users.toNat) (ws := wsP p) (rs := p.rules) fun r hr => by rw [wsP_len]; exact g.ru r hr
  have h2 : leA p = srF (wsP p) p.rules p.who.length [] := by
    unfold leA
    rw [if_pos (pck_good.2 g)]
    unfold rssP
    rw [← wsP_len, h1]
  rw [← h2]
  obtain ⟨l, ok, he, _, _⟩ := leT_eq (leA p)
  exact ⟨l, ok, he, he, rfl⟩
theorem fLeast_spec {x : SW} (H : VHeap) (p : Pb) (hp : PbL p) : F (psys x) 23 [.agg (pbB p)] H fun v G => v = leT (leA p) ∧ G = H := by
 refine F_body Tryd.func23 rfl u11 rfl ?_
 refine B_seq (B_region ?_)
 refine Lo u11 (v_boxT rfl rfl rfl) ?_
 refine Lo u11 (v_const (VVal.slice none 0 0 true 0) (.inr rfl) rfl) ?_
 refine Lo u11 (v_const (VVal.bool false) (.inr rfl) rfl) ?_
 refine L_nil (K_seq (B_seq (B_seq ?_)))
 refine B_gh (Gh.freezePtrL (cs := pbB p) 1 0 rfl rfl rfl) ?_
 refine B_region ?_
 refine Lo u11 (W71 rfl rfl rfl rfl rfl) ?_
 refine L_call rfl rfl rfl (by exact fpCheck_spec _ _ hp) ?_
 rintro _ _ ⟨rfl, rfl⟩
 refine Le u11 ?_
 refine Lo u11 (rfl) ?_
 refine L_nil (K_seq ?_)
 refine B_cond _ rfl (fun hc1 => ?_) (fun hc1 => ?_)
 ·try simp only [qB] at hc1
  refine B_seq (B_region ?_)
  refine Lo u11 (v_const (VVal.slice none 0 0 true 0) (.inr rfl) rfl) ?_
  refine Lo u11 (v_const (VVal.bool false) (.inr rfl) rfl) ?_
  refine L_nil (K_seq ?_)
  refine B_gh (Gh.freezeNil 2 (es' := 1) rfl rfl) ?_
  refine B_ret (K_seqR ?_)
  refine W6z (.inr rfl) (vres_tmp2 rfl rfl rfl) ?_
  exact W72
 ·try simp only [qB] at hc1
  refine B_skip (K_seq (B_seq ?_))
  have g : Go.V.Good p := pck_good.1 (by assumption)
  refine B_region ?_
  refine Lo u11 (W71 rfl rfl rfl rfl rfl) ?_
  refine L_call rfl rfl rfl (by exact search_top p hp g _) ?_
  rintro _ _ ⟨l, ok, rfl, he, rfl⟩
  refine Le u11 ?_
  refine Lo u11 (rfl) ?_
  refine Lo u11 (rfl) ?_
  refine Lo u11 (v_move (.inr rfl) rfl) ?_
  refine Lo u11 (v_move (.inr rfl) rfl) ?_
  refine L_nil (K_seq (B_ret ?_))
  refine W6z (.inr rfl) (vres_tmp2 rfl rfl rfl) ?_
  exact W72
end Go.Proofs.YtnbihdflnjpinaaDoor.VT
