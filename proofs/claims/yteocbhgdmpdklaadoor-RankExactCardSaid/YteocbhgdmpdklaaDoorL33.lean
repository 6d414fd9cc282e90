/- RankExact: the law -/
import Derived.Test.YteocbhgdmpdklaaDoorR1
import Derived.Test.YteocbhgdmpdklaaDoorS32
set_option autoImplicit false
set_option linter.unusedVariables false
set_option linter.unusedSimpArgs false
set_option maxHeartbeats 4000000
set_option maxRecDepth 100000
namespace Go.Proofs.YteocbhgdmpdklaaDoor.VT
open Go Go.V Go.RowKit

abbrev uL33n72 {a0 a1 a2 a3 a4 a5 a6 a7 a8 a9 a10 a11 a12 a13 a14 a15 a16 a17 a18 a19 a20 a21 a22 a23 a24 a25 a26 a27 a28 a29 a30 a31 a32 a33 a34 a35 a36 a37 a38 a39 a40 a41 a42 a43 a44 a45 a46 a47 a48 a49 a50 a51 a52 a53 a54 a55 a56 a57 a58 a59 a60 a61 a62 a63 a64 a65 a66 a67 a68 a69 a70 a71 : VVal} : VEnv := a0 :: a1 :: a2 :: a3 :: a4 :: a5 :: a6 :: a7 :: a8 :: a9 :: a10 :: a11 :: a12 :: a13 :: a14 :: a15 :: a16 :: a17 :: a18 :: a19 :: a20 :: a21 :: a22 :: a23 :: a24 :: a25 :: a26 :: a27 :: a28 :: a29 :: a30 :: a31 :: a32 :: a33 :: a34 :: a35 :: a36 :: a37 :: a38 :: a39 :: a40 :: a41 :: a42 :: a43 :: a44 :: a45 :: a46 :: a47 :: a48 :: a49 :: a50 :: a51 :: a52 :: a53 :: a54 :: a55 :: a56 :: a57 :: a58 :: a59 :: a60 :: a61 :: a62 :: a63 :: a64 :: a65 :: a66 :: a67 :: a68 :: a69 :: a70 :: a71 :: []

abbrev pS (h s : Nat) : Nat := h + 1 + 2 * s
abbrev qS (h s : Nat) : Nat := h + 2 + 2 * s
def lcE (h i s : Nat) : List VVal := if s < i then [.ptr (some (pS h s, 0)), .ptr (some (qS h s, 0))] else [.ptr none, .ptr none]
def lcT (h i : Nat) : List VVal := lcE h i 0 ++ lcE h i 1
def nilB : VBlk := .cells [.slice none 0 0 true 0] true
def objs : Nat → VHeap
  | 0 => []
  | i + 1 => objs i ++ [rkB rk0] ++ [nilB]
theorem objs_len : ∀ {i : Nat}, (objs i).length = 2 * i
  | 0 => rfl
  | i + 1 => by rw [objs, List.length_append, List.length_append, objs_len]; show 2 * i + 1 + 1 = _; omega
/-- as they are set up -/
def suX (h i : Nat) : VHeap := .cells (lcT h i) true :: objs i
theorem suX_len {h i : Nat} : (suX h i).length = 1 + 2 * i := by unfold suX; rw [List.length_cons, objs_len]; omega
theorem su_set {H : VHeap} {i : Nat} (hi : i < 2) : (H ++ (suX H.length i ++ [rkB rk0] ++ [nilB])).set (H.length + 0) (.cells (splice (lcT H.length i) (0 + i * 2) [.ptr (some (H.length + (suX H.length i).length, 0)), .ptr (some (H.length + (suX H.length i ++ [rkB rk0]).length, 0))]) true) = H ++ suX H.length (i + 1) := by
  rw [set_app rfl, List.length_append, suX_len]
  have h1 : splice (lcT H.length i) (0 + i * 2) [.ptr (some (H.length + (1 + 2 * i), 0)), .ptr (some (H.length + (1 + 2 * i + [rkB rk0].length), 0))] = lcT H.length (i + 1) := by
    have e1 : H.length + (1 + 2 * i) = pS H.length i := by show _ = H.length + 1 + 2 * i; omega
    have e2 : H.length + (1 + 2 * i + [rkB rk0].length) = qS H.length i := by show H.length + (1 + 2 * i + 1) = H.length + 2 + 2 * i; omega
    rw [e1, e2]
    obtain rfl | rfl : i = 0 ∨ i = 1 := by omega
    · rfl
    · rfl
  rw [h1]
  unfold suX
  rw [objs]; rfl
theorem lc_p {h i s : Nat} (hs : s < 2) (hi : s < i) : (lcT h i)[0 + s * 2 + 0]? = some (.ptr (some (pS h s, 0))) := by
  unfold lcT lcE
  obtain rfl | rfl : s = 0 ∨ s = 1 := by omega
  · rw [if_pos hi]; rfl
  · rw [if_pos (show 0 < i by omega), if_pos hi]; rfl
theorem lc_at {h s : Nat} (hs : s < 2) : cellsAt (lcT h 2) (0 + s * 2) 2 = some [.ptr (some (pS h s, 0)), .ptr (some (qS h s, 0))] := by
  obtain rfl | rfl : s = 0 ∨ s = 1 := by omega
  · rfl
  · rfl
/-- which of two -/
def sd (n : Int) : Nat := (BitVec.ofInt 64 n &&& BitVec.ofInt 64 1).toNat
theorem sd_lt {n : Int} : sd n < 2 := by
  unfold sd
  rw [BitVec.toNat_and]
  exact Nat.lt_of_le_of_lt Nat.and_le_right (by decide)
theorem and_sd {n : Int} : VVal.int .i64 (vbits .and .i64 n 1) = iI (sd n : Nat) := by
  have h := @sd_lt n
  show VVal.int .i64 (IntKind.i64.wrap ((sd n : Nat) : Int)) = _
  rw [wrap_i _ (by omega)]
theorem op_all {l : List OpT} {n : Int} (h : 0 ≤ n ∧ n < l.length) : cellsAt (l.flatMap enO) (n.toNat * 5) 5 = some (enO (l.getD n.toNat dOp)) := by
  have hn : n.toNat < l.length := by omega
  have hlen : ∀ l : List OpT, (l.flatMap enO).length = l.length * 5 := by
    intro l
    induction l with
    | nil => rfl
    | cons a l ih => rw [List.flatMap_cons, List.length_append, ih]; show 5 + l.length * 5 = (l.length + 1) * 5; omega
  unfold cellsAt
  rw [if_pos (by rw [hlen]; omega)]
  congr 1
  apply List.ext_getElem?
  intro i
  rw [List.getElem?_take]
  by_cases hi : i < 5
  · rw [if_pos hi, List.getElem?_drop, flat_get (c := 5) (fun _ => rfl) dOp l n.toNat i hn hi]
  · rw [if_neg hi]
    have : (enO (l.getD n.toNat dOp)).length = 5 := rfl
    rw [List.getElem?_eq_none (by omega)]
/-- two hierarchies of each kind, nobody's block another one's -/
structure Two (H G : VHeap) : Prop where
  ex : ∃ X, G = H ++ X
  cell : G[H.length]? = some (.cells (lcT H.length 2) true)
  len : H.length + 5 ≤ G.length
  sides : ∃ (Js : Nat → List (BitVec 64)) (Ls : Nat → List (Int × Int)) (vs : Nat → VVal), (∀ s, s < 2 → Side G (pS H.length s) (qS H.length s) (Js s) (Ls s) (vs s) ∧ ∀ n, vidx (vs s) = some n → H.length + 5 ≤ n) ∧ ∀ s s' n, s < 2 → s' < 2 → s ≠ s' → vidx (vs s) = some n → vidx (vs s') ≠ some n
theorem two_init {H : VHeap} : Two H (H ++ suX H.length 2) := by
  refine ⟨⟨_, rfl⟩, get_app (j := 0) rfl rfl, (by rw [List.length_append, suX_len]; omega), fun _ => rk0, fun _ => [], fun _ => .slice none 0 0 true 0, fun s hs => ⟨?_, fun n e => (by cases e)⟩, fun _ _ _ _ _ _ e => (by cases e)⟩
  have hp : (suX H.length 2)[1 + 2 * s]? = some (rkB rk0) := by
    obtain rfl | rfl : s = 0 ∨ s = 1 := by omega
    · rfl
    · rfl
  have hq : (suX H.length 2)[2 + 2 * s]? = some nilB := by
    obtain rfl | rfl : s = 0 ∨ s = 1 := by omega
    · rfl
    · rfl
  have e1 : pS H.length s = H.length + (1 + 2 * s) := by show H.length + 1 + 2 * s = _; omega
  have e2 : qS H.length s = H.length + (2 + 2 * s) := by show H.length + 2 + 2 * s = _; omega
  refine ⟨(by rw [e1]; exact get_app rfl hp), ⟨(by rw [e2]; exact get_app rfl hq), LV.nil _ _ _, fun e => (by cases e)⟩, (by show H.length + 1 + 2 * s ≠ H.length + 2 + 2 * s; omega), fun e => (by cases e), Rk.zero, ⟨List.nodup_nil, fun p => ?_⟩⟩
  rw [Rk.zero.mem_lkL]
  constructor
  · intro h; cases h
  · rintro ⟨a, b, h, _⟩; rw [lk_0] at h; cases h
theorem lv_in {G : VHeap} {es : Nat} {v : VVal} {cs : List VVal} {len n : Nat} (l : LV 0 es G v cs len) (e : vidx v = some n) : n < G.length := by
  rcases l.2 with ⟨_, rfl⟩ | ⟨_, b, rfl, hb⟩
  · cases e
  · simp only [vidx, Option.some.injEq] at e
    have := (List.getElem?_eq_some_iff.1 hb).1
    omega
theorem two_play {H G G' : VHeap} {s : Nat} (t : Two H G) (hs : s < 2) {Js : Nat → List (BitVec 64)} {Ls : Nat → List (Int × Int)} {vs : Nat → VVal} (h1 : ∀ s, s < 2 → Side G (pS H.length s) (qS H.length s) (Js s) (Ls s) (vs s) ∧ ∀ n, vidx (vs s) = some n → H.length + 5 ≤ n) (h2 : ∀ s s' n, s < 2 → s' < 2 → s ≠ s' → vidx (vs s) = some n → vidx (vs s') ≠ some n)
    {J' : List (BitVec 64)} {L' : List (Int × Int)} {v' : VVal} (sd : Side G' (pS H.length s) (qS H.length s) J' L' v') (u : Upd2 G G' (pS H.length s) (qS H.length s) (vs s) v') : Two H G' := by
  have hl := t.len
  have hu := u.len
  have hv : ∀ n, vidx (vs s) = some n → H.length + 5 ≤ n := (h1 s hs).2
  have hlow : ∀ i, i ≤ H.length → G'[i]? = G[i]? := fun i hi => u.fr i (by omega) (by show i ≠ H.length + 1 + 2 * s; omega) (by show i ≠ H.length + 2 + 2 * s; omega) fun e => by have := hv i e; omega
  obtain ⟨X, hX⟩ := t.ex
  have hnv : ∀ n, vidx v' = some n → H.length + 5 ≤ n := fun n e => by
    rcases u.nv with e2 | e2
    · rw [e2] at e; exact hv n e
    · have := e2 n e; omega
  refine ⟨⟨G'.drop H.length, ?_⟩, by rw [hlow _ (Nat.le_refl _)]; exact t.cell, by omega, fun k => if k = s then J' else Js k, fun k => if k = s then L' else Ls k, fun k => if k = s then v' else vs k, fun k hk => ?_, fun k k' n hk hk' hne e => ?_⟩
  · have : G'.take H.length = H := by
      apply List.ext_getElem?
      intro i
      rw [List.getElem?_take]
      by_cases hi : i < H.length
      · rw [if_pos hi, hlow i (by omega), hX, List.getElem?_append_left hi]
      · rw [if_neg hi, List.getElem?_eq_none (by omega)]
    rw [← this, List.length_take, Nat.min_eq_left (by omega), List.take_append_drop]
  · by_cases e : k = s
    · subst e; simp only [if_true]; exact ⟨sd, hnv⟩
    · simp only [if_neg e]
      obtain ⟨s1, s2⟩ := h1 k hk
      have hfr : ∀ i, i < G.length → i ≠ pS H.length s → i ≠ qS H.length s → vidx (vs s) ≠ some i → G'[i]? = G[i]? := u.fr
      refine ⟨⟨?_, ⟨?_, s1.rl.l.frame fun i hi => ?_, s1.rl.n⟩, s1.pq, s1.pv, s1.rk, s1.co⟩, s2⟩
      · rw [hfr _ (by show H.length + 1 + 2 * k < _; omega) (by show H.length + 1 + 2 * k ≠ H.length + 1 + 2 * s; omega) (by show H.length + 1 + 2 * k ≠ H.length + 2 + 2 * s; omega) fun e2 => by have := hv _ e2; have h9 : H.length + 5 ≤ H.length + 1 + 2 * k := this; omega]; exact s1.pc
      · rw [hfr _ (by show H.length + 2 + 2 * k < _; omega) (by show H.length + 2 + 2 * k ≠ H.length + 1 + 2 * s; omega) (by show H.length + 2 + 2 * k ≠ H.length + 2 + 2 * s; omega) fun e2 => by have := hv _ e2; have h9 : H.length + 5 ≤ H.length + 2 + 2 * k := this; omega]; exact s1.rl.c
      · rw [Nat.zero_add] at hi
        have hi5 := s2 i hi
        exact hfr i (lv_in s1.rl.l hi) (by show i ≠ H.length + 1 + 2 * s; omega) (by show i ≠ H.length + 2 + 2 * s; omega) fun e2 => h2 s k i hs hk (Ne.symm e) e2 hi
  · by_cases e1 : k = s
    · subst e1
      have hk's : ¬ k' = k := Ne.symm hne
      simp only [if_true, if_neg hk's] at e ⊢
      intro e3
      have hin := lv_in (h1 k' hk').1.rl.l e3
      rcases u.nv with e2 | e2
      · rw [e2] at e; exact h2 k k' n hk hk' hne e e3
      · have := e2 n e; omega
    · simp only [if_neg e1] at e
      by_cases e4 : k' = s
      · subst e4
        simp only [if_true]
        intro e3
        have hin := lv_in (h1 k hk).1.rl.l e
        rcases u.nv with e2 | e2
        · rw [e2] at e3; exact h2 k k' n hk hk' hne e e3
        · have := e2 n e3; omega
      · simp only [if_neg e4]; exact h2 k k' n hk hk' hne e
theorem plays_two {x : SW} {H G : VHeap} {s : Nat} (t : Two H G) (hs : s < 2) (o : OpT) : F (psys x) 45 [.agg [.ptr (some (pS H.length s, 0)), .ptr (some (qS H.length s, 0))], .agg (enO o)] G fun u G' => u = .bool true ∧ Two H G' := by
  obtain ⟨Js, Ls, vs, h1, h2⟩ := t.sides
  obtain ⟨s1, _⟩ := h1 s hs
  have hlen : (Ls s).length ≤ 1000000 := by
    rw [co_len s1.co]
    have := @lkTo_len (Js s) 64
    show (lkTo (Js s) 64).length ≤ _; omega
  exact (plays_spec G _ _ (Js s) (Ls s) (vs s) s1 hlen o).mono fun u G' h => by
    obtain ⟨hu, J', L', v', a, _, c⟩ := h
    exact ⟨hu, two_play t hs h1 h2 a c⟩

theorem RankExact_walk {x : SW} (H : VHeap) (ops : List OpT) (hl : ops.length * 40 ≤ 140737488355328) : F (psys x) 11 [fzO ops] H fun v G => v = .bool true ∧ G = H := by
  refine F_body Tryd.func11 rfl uL33n72 rfl ?_
  refine B_seq ?_
  refine B_region ?_
  refine L_op (env' := uL33n72) rfl rfl (v_const (VVal.bool false) (.inr rfl) rfl) rfl ?_
  refine L_nil ?_
  refine K_seq ?_
  refine B_seq ?_
  refine B_region ?_
  refine L_op (env' := uL33n72) rfl rfl (v_alloc rfl rfl) rfl ?_
  refine L_nil ?_
  refine K_seq ?_
  refine B_seq ?_
  refine B_seq ?_
  refine B_region ?_
  refine L_op (env' := uL33n72) rfl rfl (v_const (VVal.int .i64 0) (.inr rfl) rfl) rfl ?_
  refine L_nil ?_
  refine K_seq ?_
  refine B_block ?_
  refine B_clear (false :: true :: true :: false :: false :: true :: true :: true :: true :: true :: true :: true :: true :: true :: true :: true :: true :: true :: true :: true :: true :: true :: true :: true :: true :: true :: true :: true :: true :: true :: true :: true :: true :: true :: true :: true :: true :: true :: true :: true :: true :: true :: true :: true :: true :: true :: true :: true :: true :: true :: true :: true :: true :: true :: true :: true :: true :: true :: true :: true :: true :: true :: true :: true :: true :: true :: true :: true :: true :: true :: true :: true :: []) (env' := uL33n72) rfl ?_
  refine B_loopE (fun (i : Nat) => 2 - i) (fun (i : Nat) => [(4, iI (i : Nat))]) (fun (i : Nat) G => (i ≤ 2) ∧ G = H ++ suX H.length i) 0 rfl ?_ ?_
  · refine ⟨?_, rfl⟩
    exact Nat.zero_le _
  rintro i _ ⟨hi, rfl⟩
  refine B_env (env' := uL33n72) rfl ?_
  refine B_seq ?_
  refine B_seq ?_
  refine B_region ?_
  refine L_op (env' := uL33n72) rfl rfl (v_move (.inl rfl) rfl) rfl ?_
  refine L_op (env' := uL33n72) rfl rfl (rfl) rfl ?_
  refine L_nil ?_
  refine K_seq ?_
  refine B_cond _ rfl (fun hc1 => ?_) (fun hc1 => ?_)
  · try simp only [decide_eq_true_eq, decide_eq_false_iff_not, Bool.not_eq_true', Bool.not_eq_false', bne_iff_ne, beq_iff_eq, Bool.and_eq_true, Bool.or_eq_true, Bool.not_eq_true, ge_iff_le, gt_iff_lt, Int.not_le, Int.not_lt, beq_eq_false_iff_ne, bne_eq_false_iff_eq, ne_eq, Decidable.not_not, wd_zero, wd_one, wd_inj] at hc1
    refine B_skip ?_
    refine K_seq ?_
    refine B_seq ?_
    refine B_block ?_
    refine B_seq ?_
    refine B_region ?_
    refine L_op (env' := uL33n72) rfl rfl (v_move (.inl rfl) rfl) rfl ?_
    refine L_call rfl rfl rfl (by exact rkNew_loc _ _) ?_
    rintro _ _ ⟨rfl, rfl⟩
    refine L_env (env' := uL33n72) rfl ?_
    refine L_op (env' := uL33n72) rfl rfl (rfl) rfl ?_
    refine L_op (env' := uL33n72) rfl rfl (v_boxT rfl rfl rfl) rfl ?_
    refine L_op (env' := uL33n72) rfl rfl (rfl) rfl ?_
    refine L_op (env' := uL33n72) rfl rfl (by first | exact v_idxFA rfl rfl rfl rfl rfl rfl (by first | assumption | omega | (simp [*]; done) | (simp at *; omega)) | exact v_idxA rfl rfl rfl rfl rfl rfl (by first | assumption | omega | (simp [*]; done) | (simp at *; omega))) rfl ?_
    refine L_op (env' := uL33n72) rfl rfl (v_storeT rfl rfl rfl rfl rfl rfl rfl (by first | exact hT.cell | exact get_app rfl rfl) (by show 0 + i * 2 + 2 ≤ (lcT H.length i).length; (have h9 : (lcT H.length i).length = 4 := by unfold lcT lcE; split <;> split <;> rfl); omega) (by exact su_set (by omega))) rfl ?_
    refine L_nil ?_
    refine K_seq ?_
    refine B_seq ?_
    refine B_region ?_
    refine L_op (env' := uL33n72) rfl rfl (v_move (.inl rfl) rfl) rfl ?_
    refine L_op (env' := uL33n72) rfl rfl (by first | exact v_idxFA rfl rfl rfl rfl rfl rfl (by first | assumption | omega | (simp [*]; done) | (simp at *; omega)) | exact v_idxA rfl rfl rfl rfl rfl rfl (by first | assumption | omega | (simp [*]; done) | (simp at *; omega))) rfl ?_
    refine L_op (env' := uL33n72) rfl rfl (rfl) rfl ?_
    refine L_op (env' := uL33n72) rfl rfl (by first | exact v_loadF rfl rfl rfl rfl (by exact lc_p (by omega) (by omega)) | exact v_load rfl rfl rfl rfl (by first | exact hT.cell | exact get_app rfl rfl) (by exact lc_p (by omega) (by omega))) rfl ?_
    refine L_op (env' := uL33n72) rfl rfl (rfl) rfl ?_
    refine L_op (env' := uL33n72) rfl rfl (v_move (.inl rfl) rfl) rfl ?_
    refine L_call rfl rfl rfl (by exact rkWakes_spec _) ?_
    rintro _ _ ⟨rfl, rfl⟩
    refine L_env (env' := uL33n72) rfl ?_
    refine L_op (env' := uL33n72) rfl rfl (rfl) rfl ?_
    refine L_op (env' := uL33n72) rfl rfl (v_pickF rfl rfl rfl) rfl ?_
    refine L_nil ?_
    refine K_seq ?_
    refine B_false rfl rfl ?_
    refine B_skip ?_
    refine K_blk ?_
    refine K_seq ?_
    refine B_region ?_
    refine L_op (env' := uL33n72) rfl rfl (v_move (.inl rfl) rfl) rfl ?_
    refine L_op (env' := uL33n72) rfl rfl (v_addI rfl rfl rfl (by first | assumption | omega | (simp [*]; done) | (simp at *; omega))) rfl ?_
    refine L_op (env' := uL33n72) rfl rfl (v_move (.inr rfl) rfl) rfl ?_
    refine L_nil ?_
    refine K_loop (false :: true :: true :: false :: false :: true :: true :: true :: true :: true :: true :: true :: true :: true :: true :: true :: true :: true :: true :: true :: true :: true :: true :: true :: true :: true :: true :: true :: true :: true :: true :: true :: true :: true :: true :: true :: true :: true :: true :: true :: true :: true :: true :: true :: true :: true :: true :: true :: true :: true :: true :: true :: true :: true :: true :: true :: true :: true :: true :: true :: true :: true :: true :: true :: true :: true :: true :: true :: true :: true :: true :: true :: []) (env' := uL33n72) rfl ⟨i + 1, ?_, rfl, ?_⟩
    · first | omega | (simp only []; omega)
    · exact ⟨by omega, rfl⟩
  · try simp only [decide_eq_true_eq, decide_eq_false_iff_not, Bool.not_eq_true', Bool.not_eq_false', bne_iff_ne, beq_iff_eq, Bool.and_eq_true, Bool.or_eq_true, Bool.not_eq_true, ge_iff_le, gt_iff_lt, Int.not_le, Int.not_lt, beq_eq_false_iff_ne, bne_eq_false_iff_eq, ne_eq, Decidable.not_not, wd_zero, wd_one, wd_inj] at hc1
    refine B_exit ?_
    refine K_seqX ?_
    refine K_loopX ?_
    refine K_blkX ?_
    refine K_seq ?_
    refine B_seqJ (true :: true :: true :: false :: true :: true :: true :: true :: true :: true :: true :: true :: true :: true :: true :: true :: true :: true :: true :: true :: true :: true :: true :: true :: true :: true :: true :: true :: true :: true :: true :: true :: true :: true :: true :: true :: true :: true :: true :: true :: true :: true :: true :: true :: true :: true :: true :: true :: true :: true :: true :: true :: true :: true :: true :: true :: true :: true :: true :: true :: true :: true :: true :: true :: true :: true :: true :: true :: true :: true :: true :: true :: []) (fun (k : Nat) => []) (fun (k : Nat) G => (k ≤ 120) ∧ Two H G) ?_ ?_
    · skip
      refine B_seq ?_
      refine B_region ?_
      refine L_op (env' := uL33n72) rfl rfl (v_const (VVal.int .i64 0) (.inr rfl) rfl) rfl ?_
      refine L_nil ?_
      refine K_seq ?_
      refine B_block ?_
      refine B_clear (false :: true :: true :: false :: true :: false :: true :: true :: true :: true :: true :: true :: true :: true :: true :: true :: true :: true :: true :: true :: true :: true :: true :: true :: true :: true :: true :: true :: true :: true :: true :: true :: true :: true :: true :: true :: true :: true :: true :: true :: true :: true :: true :: true :: true :: true :: true :: true :: true :: true :: true :: true :: true :: true :: true :: true :: true :: true :: true :: true :: true :: true :: true :: true :: true :: true :: true :: true :: true :: true :: true :: true :: []) (env' := uL33n72) rfl ?_
      refine B_loopE (fun (k : Nat) => 120 - k) (fun (k : Nat) => [(5, iI (k : Nat))]) (fun (k : Nat) G => (k ≤ 120) ∧ Two H G) 0 rfl ?_ ?_
      · refine ⟨?_, (by rw [show i = 2 by omega]; exact two_init)⟩
        exact Nat.zero_le _
      rintro k G ⟨hk, hT⟩
      refine B_env (env' := uL33n72) rfl ?_
      refine B_seq ?_
      refine B_seq ?_
      refine B_region ?_
      refine L_op (env' := uL33n72) rfl rfl (v_move (.inl rfl) rfl) rfl ?_
      refine L_op (env' := uL33n72) rfl rfl (v_move (.inl rfl) rfl) rfl ?_
      refine L_op (env' := uL33n72) rfl rfl (rfl) rfl ?_
      refine L_op (env' := uL33n72) rfl rfl (rfl) rfl ?_
      refine L_op (env' := uL33n72) rfl rfl (v_move (.inl rfl) rfl) rfl ?_
      refine L_split 31 (env1 := uL33n72) (env2 := uL33n72) rfl rfl rfl (fun hg2 => ?_) (fun hg2 => ?_)
      · try simp only [decide_eq_true_eq, decide_eq_false_iff_not, Bool.not_eq_true', Bool.not_eq_false', bne_iff_ne, beq_iff_eq, Bool.and_eq_true, Bool.or_eq_true, Bool.not_eq_true, ge_iff_le, gt_iff_lt, Int.not_le, Int.not_lt, beq_eq_false_iff_ne, bne_eq_false_iff_eq, ne_eq, Decidable.not_not, wd_zero, wd_one, wd_inj] at hg2
        refine L_op (env' := uL33n72) rfl rfl (v_move (.inl rfl) rfl) rfl ?_
        refine L_op (env' := uL33n72) rfl rfl (rfl) rfl ?_
        refine L_op (env' := uL33n72) rfl rfl (v_pickT rfl rfl rfl) rfl ?_
        refine L_nil ?_
        refine K_seq ?_
        refine B_cond _ rfl (fun hc3 => ?_) (fun hc3 => ?_)
        · try simp only [decide_eq_true_eq, decide_eq_false_iff_not, Bool.not_eq_true', Bool.not_eq_false', bne_iff_ne, beq_iff_eq, Bool.and_eq_true, Bool.or_eq_true, Bool.not_eq_true, ge_iff_le, gt_iff_lt, Int.not_le, Int.not_lt, beq_eq_false_iff_ne, bne_eq_false_iff_eq, ne_eq, Decidable.not_not, wd_zero, wd_one, wd_inj] at hc3
          refine B_skip ?_
          refine K_seq ?_
          refine B_seq ?_
          refine B_block ?_
          refine B_seq ?_
          refine B_drawP #[0, 0, 3, 7, 15, 31, 63, 127, 0, 0, 768, 1792, 4095, 8191] (by kernel_rfl) ?_
          refine P_seg [0, 1, 2, 3, 4, 5, 6, 7, 8, 9, 10, 11] (bef := #[0, 0, 3, 7, 15, 31, 63, 127, 0, 0, 768, 1792, 4095, 8191]) (by kernel_rfl) (by kernel_rfl) (by kernel_rfl) ?_
          refine O_op (env' := uL33n72) (c := .calm) rfl rfl rfl (v_move (.inl rfl) rfl) rfl rfl rfl ?_
          refine O_op (env' := uL33n72) (c := .calm) rfl rfl rfl (v_move (.inl rfl) rfl) rfl rfl rfl ?_
          refine O_op (env' := uL33n72) (c := .calm) rfl rfl rfl (by first | exact v_idxF rfl rfl rfl rfl rfl rfl rfl (by first | assumption | omega | (simp [*]; done) | (simp at *; omega)) | exact v_idx rfl rfl rfl rfl rfl rfl rfl (by first | assumption | omega | (simp [*]; done) | (simp at *; omega))) rfl rfl rfl ?_
          refine O_op (env' := uL33n72) (c := .calm) rfl rfl rfl (rfl) rfl rfl rfl ?_
          refine O_op (env' := uL33n72) (c := .look) rfl rfl rfl (by first | exact v_loadF rfl rfl rfl rfl (by first | exact op_c0 (by omega) | rfl) | exact v_load rfl rfl rfl rfl (by first | exact hT.cell | exact get_app rfl rfl) (by first | exact op_c0 (by omega) | rfl)) rfl rfl rfl ?_
          refine O_op (env' := uL33n72) (c := .calm) rfl rfl rfl (v_val rfl and_sd) rfl rfl rfl ?_
          refine O_op (env' := uL33n72) (c := .calm) rfl rfl rfl (by first | exact v_idxFA rfl rfl rfl rfl rfl rfl (by have h9 := @sd_lt (ops.getD (k : Int).toNat dOp).1; omega) | exact v_idxA rfl rfl rfl rfl rfl rfl (by have h9 := @sd_lt (ops.getD (k : Int).toNat dOp).1; omega)) rfl rfl rfl ?_
          refine O_op (env' := uL33n72) (c := .look) rfl rfl rfl (by first | exact v_loadFA rfl rfl rfl rfl (by exact lc_at sd_lt) | exact v_loadA rfl rfl rfl rfl (by first | exact hT.cell | exact get_app rfl rfl) (by exact lc_at sd_lt)) rfl rfl rfl ?_
          refine O_op (env' := uL33n72) (c := .calm) rfl rfl rfl (v_move (.inl rfl) rfl) rfl rfl rfl ?_
          refine O_op (env' := uL33n72) (c := .calm) rfl rfl rfl (v_move (.inl rfl) rfl) rfl rfl rfl ?_
          refine O_op (env' := uL33n72) (c := .calm) rfl rfl rfl (by first | exact v_idxF rfl rfl rfl rfl rfl rfl rfl (by first | assumption | omega | (simp [*]; done) | (simp at *; omega)) | exact v_idx rfl rfl rfl rfl rfl rfl rfl (by first | assumption | omega | (simp [*]; done) | (simp at *; omega))) rfl rfl rfl ?_
          refine O_op (env' := uL33n72) (c := .look) rfl rfl rfl (by first | exact v_loadFA rfl rfl rfl rfl (by exact op_all (by omega)) | exact v_loadA rfl rfl rfl rfl (by first | exact hT.cell | exact get_app rfl rfl) (by exact op_all (by omega))) rfl rfl rfl ?_
          refine O_nil [] (by kernel_rfl) (trivial) ?_
          refine P_call 12 (bef := #[0, 0, 3, 7, 15, 31, 63, 127, 0, 0, 768, 1792, 4095, 8191]) (by kernel_rfl) (by kernel_rfl) rfl rfl rfl rfl (by exact plays_two hT sd_lt _) ?_
          rintro _ G2 ⟨rfl, hT2⟩
          refine P_env (env' := uL33n72) rfl ?_
          refine P_seg [13] (bef := #[0, 0, 3, 7, 15, 31, 63, 127, 0, 0, 768, 1792, 4095, 8191]) (by kernel_rfl) (by kernel_rfl) (by kernel_rfl) ?_
          refine O_op (env' := uL33n72) (c := .calm) rfl rfl rfl (rfl) rfl rfl rfl ?_
          refine O_nil [] (by kernel_rfl) (trivial) ?_
          refine P_end (by kernel_rfl) ?_
          refine K_seq ?_
          refine B_false rfl rfl ?_
          refine B_skip ?_
          refine K_blk ?_
          refine K_seq ?_
          refine B_region ?_
          refine L_op (env' := uL33n72) rfl rfl (v_move (.inl rfl) rfl) rfl ?_
          refine L_op (env' := uL33n72) rfl rfl (v_addI rfl rfl rfl (by first | assumption | omega | (simp [*]; done) | (simp at *; omega))) rfl ?_
          refine L_op (env' := uL33n72) rfl rfl (v_move (.inr rfl) rfl) rfl ?_
          refine L_nil ?_
          refine K_loop (false :: true :: true :: false :: true :: false :: true :: true :: true :: true :: true :: true :: true :: true :: true :: true :: true :: true :: true :: true :: true :: true :: true :: true :: true :: true :: true :: true :: true :: true :: true :: true :: true :: true :: true :: true :: true :: true :: true :: true :: true :: true :: true :: true :: true :: true :: true :: true :: true :: true :: true :: true :: true :: true :: true :: true :: true :: true :: true :: true :: true :: true :: true :: true :: true :: true :: true :: true :: true :: true :: true :: true :: []) (env' := uL33n72) rfl ⟨k + 1, ?_, rfl, ?_⟩
          · first | omega | (simp only []; omega)
          · exact ⟨by omega, hT2⟩
        · try simp only [decide_eq_true_eq, decide_eq_false_iff_not, Bool.not_eq_true', Bool.not_eq_false', bne_iff_ne, beq_iff_eq, Bool.and_eq_true, Bool.or_eq_true, Bool.not_eq_true, ge_iff_le, gt_iff_lt, Int.not_le, Int.not_lt, beq_eq_false_iff_ne, bne_eq_false_iff_eq, ne_eq, Decidable.not_not, wd_zero, wd_one, wd_inj] at hc3
          refine B_exit ?_
          refine K_seqX ?_
          refine K_loopX ?_
          refine K_blkX ?_
          refine K_loop (true :: true :: true :: false :: true :: true :: true :: true :: true :: true :: true :: true :: true :: true :: true :: true :: true :: true :: true :: true :: true :: true :: true :: true :: true :: true :: true :: true :: true :: true :: true :: true :: true :: true :: true :: true :: true :: true :: true :: true :: true :: true :: true :: true :: true :: true :: true :: true :: true :: true :: true :: true :: true :: true :: true :: true :: true :: true :: true :: true :: true :: true :: true :: true :: true :: true :: true :: true :: true :: true :: true :: true :: []) (env' := uL33n72) rfl ⟨k, rfl, ?_⟩
          exact ⟨hk, hT⟩
      · try simp only [decide_eq_true_eq, decide_eq_false_iff_not, Bool.not_eq_true', Bool.not_eq_false', bne_iff_ne, beq_iff_eq, Bool.and_eq_true, Bool.or_eq_true, Bool.not_eq_true, ge_iff_le, gt_iff_lt, Int.not_le, Int.not_lt, beq_eq_false_iff_ne, bne_eq_false_iff_eq, ne_eq, Decidable.not_not, wd_zero, wd_one, wd_inj] at hg2
        refine L_off (env' := uL33n72) rfl rfl ?_
        refine L_off (env' := uL33n72) rfl rfl ?_
        refine L_op (env' := uL33n72) rfl rfl (v_pickFC (VVal.bool false) rfl rfl rfl) rfl ?_
        refine L_nil ?_
        refine K_seq ?_
        refine B_false rfl rfl ?_
        refine B_exit ?_
        refine K_seqX ?_
        refine K_loopX ?_
        refine K_blkX ?_
        refine K_loop (true :: true :: true :: false :: true :: true :: true :: true :: true :: true :: true :: true :: true :: true :: true :: true :: true :: true :: true :: true :: true :: true :: true :: true :: true :: true :: true :: true :: true :: true :: true :: true :: true :: true :: true :: true :: true :: true :: true :: true :: true :: true :: true :: true :: true :: true :: true :: true :: true :: true :: true :: true :: true :: true :: true :: true :: true :: true :: true :: true :: true :: true :: true :: true :: true :: true :: true :: true :: true :: true :: true :: true :: []) (env' := uL33n72) rfl ⟨k, rfl, ?_⟩
        exact ⟨hk, hT⟩
    · rintro k G ⟨_, hT⟩
      refine B_env (env' := uL33n72) rfl ?_
      refine B_seq ?_
      refine B_seq ?_
      refine B_region ?_
      refine L_op (env' := uL33n72) rfl rfl (v_const (VVal.int .i64 0) (.inr rfl) rfl) rfl ?_
      refine L_nil ?_
      refine K_seq ?_
      refine B_block ?_
      refine B_clear (true :: true :: true :: false :: true :: true :: false :: true :: true :: true :: true :: true :: true :: true :: true :: true :: true :: true :: true :: true :: true :: true :: true :: true :: true :: true :: true :: true :: true :: true :: true :: true :: true :: true :: true :: true :: true :: true :: true :: true :: true :: true :: true :: true :: true :: true :: true :: true :: true :: true :: true :: true :: true :: true :: true :: true :: true :: true :: true :: true :: true :: true :: true :: true :: true :: true :: true :: true :: true :: true :: true :: true :: []) (env' := uL33n72) rfl ?_
      refine B_loopE (fun (k : Nat) => 2 - k) (fun (k : Nat) => [(6, iI (k : Nat))]) (fun (k : Nat) G => (k ≤ 2) ∧ Two H G) 0 rfl ?_ ?_
      · refine ⟨?_, hT⟩
        exact Nat.zero_le _
      rintro k G ⟨hk, hT⟩
      refine B_env (env' := uL33n72) rfl ?_
      refine B_seq ?_
      refine B_seq ?_
      refine B_region ?_
      refine L_op (env' := uL33n72) rfl rfl (v_move (.inl rfl) rfl) rfl ?_
      refine L_op (env' := uL33n72) rfl rfl (rfl) rfl ?_
      refine L_nil ?_
      refine K_seq ?_
      refine B_cond _ rfl (fun hc4 => ?_) (fun hc4 => ?_)
      · try simp only [decide_eq_true_eq, decide_eq_false_iff_not, Bool.not_eq_true', Bool.not_eq_false', bne_iff_ne, beq_iff_eq, Bool.and_eq_true, Bool.or_eq_true, Bool.not_eq_true, ge_iff_le, gt_iff_lt, Int.not_le, Int.not_lt, beq_eq_false_iff_ne, bne_eq_false_iff_eq, ne_eq, Decidable.not_not, wd_zero, wd_one, wd_inj] at hc4
        refine B_skip ?_
        refine K_seq ?_
        refine B_seq ?_
        refine B_block ?_
        refine B_seq ?_
        refine B_seq ?_
        refine B_region ?_
        refine L_op (env' := uL33n72) rfl rfl (v_const (VVal.int .i64 0) (.inr rfl) rfl) rfl ?_
        refine L_nil ?_
        refine K_seq ?_
        refine B_block ?_
        refine B_clear (true :: true :: true :: false :: true :: true :: false :: false :: true :: true :: true :: true :: true :: true :: true :: true :: true :: true :: true :: true :: true :: true :: true :: true :: true :: true :: true :: true :: true :: true :: true :: true :: true :: true :: true :: true :: true :: true :: true :: true :: true :: true :: true :: true :: true :: true :: true :: true :: true :: true :: true :: true :: true :: true :: true :: true :: true :: true :: true :: true :: true :: true :: true :: true :: true :: true :: true :: true :: true :: true :: true :: true :: []) (env' := uL33n72) rfl ?_
        refine B_loopE (fun (a : Nat) => 64 - a) (fun (a : Nat) => [(7, iI (a : Nat))]) (fun (a : Nat) G => (a ≤ 64) ∧ Two H G) 0 rfl ?_ ?_
        · refine ⟨?_, hT⟩
          exact Nat.zero_le _
        rintro a G ⟨ha, hT⟩
        refine B_env (env' := uL33n72) rfl ?_
        refine B_seq ?_
        refine B_seq ?_
        refine B_region ?_
        refine L_op (env' := uL33n72) rfl rfl (v_move (.inl rfl) rfl) rfl ?_
        refine L_op (env' := uL33n72) rfl rfl (rfl) rfl ?_
        refine L_nil ?_
        refine K_seq ?_
        refine B_cond _ rfl (fun hc5 => ?_) (fun hc5 => ?_)
        · try simp only [decide_eq_true_eq, decide_eq_false_iff_not, Bool.not_eq_true', Bool.not_eq_false', bne_iff_ne, beq_iff_eq, Bool.and_eq_true, Bool.or_eq_true, Bool.not_eq_true, ge_iff_le, gt_iff_lt, Int.not_le, Int.not_lt, beq_eq_false_iff_ne, bne_eq_false_iff_eq, ne_eq, Decidable.not_not, wd_zero, wd_one, wd_inj] at hc5
          refine B_skip ?_
          refine K_seq ?_
          refine B_seq ?_
          refine B_block ?_
          refine B_seq ?_
          refine B_region ?_
          refine L_op (env' := uL33n72) rfl rfl (v_move (.inl rfl) rfl) rfl ?_
          refine L_op (env' := uL33n72) rfl rfl (by first | exact v_idxFA rfl rfl rfl rfl rfl rfl (by first | assumption | omega | (simp [*]; done) | (simp at *; omega)) | exact v_idxA rfl rfl rfl rfl rfl rfl (by first | assumption | omega | (simp [*]; done) | (simp at *; omega))) rfl ?_
          refine L_op (env' := uL33n72) rfl rfl (by first | exact v_loadFA rfl rfl rfl rfl (by exact lc_at (by omega)) | exact v_loadA rfl rfl rfl rfl (by first | exact hT.cell | exact get_app rfl rfl) (by exact lc_at (by omega))) rfl ?_
          refine L_op (env' := uL33n72) rfl rfl (v_move (.inl rfl) rfl) rfl ?_
          refine L_op (env' := uL33n72) rfl rfl (rfl) rfl ?_
          refine L_call rfl rfl rfl (by exact plays_two hT (by omega) (0, 4, (a : Int), 0, 0#64, ())) ?_
          rintro _ G2 ⟨rfl, hT2⟩
          refine L_env (env' := uL33n72) rfl ?_
          refine L_op (env' := uL33n72) rfl rfl (rfl) rfl ?_
          refine L_nil ?_
          refine K_seq ?_
          refine B_false rfl rfl ?_
          refine B_skip ?_
          refine K_blk ?_
          refine K_seq ?_
          refine B_region ?_
          refine L_op (env' := uL33n72) rfl rfl (v_move (.inl rfl) rfl) rfl ?_
          refine L_op (env' := uL33n72) rfl rfl (v_addI rfl rfl rfl (by first | assumption | omega | (simp [*]; done) | (simp at *; omega))) rfl ?_
          refine L_op (env' := uL33n72) rfl rfl (v_move (.inr rfl) rfl) rfl ?_
          refine L_nil ?_
          refine K_loop (true :: true :: true :: false :: true :: true :: false :: false :: true :: true :: true :: true :: true :: true :: true :: true :: true :: true :: true :: true :: true :: true :: true :: true :: true :: true :: true :: true :: true :: true :: true :: true :: true :: true :: true :: true :: true :: true :: true :: true :: true :: true :: true :: true :: true :: true :: true :: true :: true :: true :: true :: true :: true :: true :: true :: true :: true :: true :: true :: true :: true :: true :: true :: true :: true :: true :: true :: true :: true :: true :: true :: true :: []) (env' := uL33n72) rfl ⟨a + 1, ?_, rfl, ?_⟩
          · first | omega | (simp only []; omega)
          · exact ⟨by omega, hT2⟩
        · try simp only [decide_eq_true_eq, decide_eq_false_iff_not, Bool.not_eq_true', Bool.not_eq_false', bne_iff_ne, beq_iff_eq, Bool.and_eq_true, Bool.or_eq_true, Bool.not_eq_true, ge_iff_le, gt_iff_lt, Int.not_le, Int.not_lt, beq_eq_false_iff_ne, bne_eq_false_iff_eq, ne_eq, Decidable.not_not, wd_zero, wd_one, wd_inj] at hc5
          refine B_exit ?_
          refine K_seqX ?_
          refine K_loopX ?_
          refine K_blkX ?_
          refine K_seq ?_
          refine B_seq ?_
          refine B_region ?_
          refine L_op (env' := uL33n72) rfl rfl (v_move (.inl rfl) rfl) rfl ?_
          refine L_op (env' := uL33n72) rfl rfl (by first | exact v_idxFA rfl rfl rfl rfl rfl rfl (by first | assumption | omega | (simp [*]; done) | (simp at *; omega)) | exact v_idxA rfl rfl rfl rfl rfl rfl (by first | assumption | omega | (simp [*]; done) | (simp at *; omega))) rfl ?_
          refine L_op (env' := uL33n72) rfl rfl (by first | exact v_loadFA rfl rfl rfl rfl (by exact lc_at (by omega)) | exact v_loadA rfl rfl rfl rfl (by first | exact hT.cell | exact get_app rfl rfl) (by exact lc_at (by omega))) rfl ?_
          refine L_op (env' := uL33n72) rfl rfl (rfl) rfl ?_
          refine L_call rfl rfl rfl (by exact plays_two hT (by omega) (0, 9, 0, 0, 0#64, ())) ?_
          rintro _ G2 ⟨rfl, hT2⟩
          refine L_env (env' := uL33n72) rfl ?_
          refine L_op (env' := uL33n72) rfl rfl (rfl) rfl ?_
          refine L_nil ?_
          refine K_seq ?_
          refine B_false rfl rfl ?_
          refine B_skip ?_
          refine K_blk ?_
          refine K_seq ?_
          refine B_region ?_
          refine L_op (env' := uL33n72) rfl rfl (v_move (.inl rfl) rfl) rfl ?_
          refine L_op (env' := uL33n72) rfl rfl (v_addI rfl rfl rfl (by first | assumption | omega | (simp [*]; done) | (simp at *; omega))) rfl ?_
          refine L_op (env' := uL33n72) rfl rfl (v_move (.inr rfl) rfl) rfl ?_
          refine L_nil ?_
          refine K_loop (true :: true :: true :: false :: true :: true :: false :: true :: true :: true :: true :: true :: true :: true :: true :: true :: true :: true :: true :: true :: true :: true :: true :: true :: true :: true :: true :: true :: true :: true :: true :: true :: true :: true :: true :: true :: true :: true :: true :: true :: true :: true :: true :: true :: true :: true :: true :: true :: true :: true :: true :: true :: true :: true :: true :: true :: true :: true :: true :: true :: true :: true :: true :: true :: true :: true :: true :: true :: true :: true :: true :: true :: []) (env' := uL33n72) rfl ⟨k + 1, ?_, rfl, ?_⟩
          · first | omega | (simp only []; omega)
          · exact ⟨by omega, hT2⟩
      · try simp only [decide_eq_true_eq, decide_eq_false_iff_not, Bool.not_eq_true', Bool.not_eq_false', bne_iff_ne, beq_iff_eq, Bool.and_eq_true, Bool.or_eq_true, Bool.not_eq_true, ge_iff_le, gt_iff_lt, Int.not_le, Int.not_lt, beq_eq_false_iff_ne, bne_eq_false_iff_eq, ne_eq, Decidable.not_not, wd_zero, wd_one, wd_inj] at hc4
        refine B_exit ?_
        refine K_seqX ?_
        refine K_loopX ?_
        refine K_blkX ?_
        refine K_seq ?_
        refine B_seq ?_
        refine B_region ?_
        refine L_op (env' := uL33n72) rfl rfl (v_const (VVal.bool true) (.inr rfl) rfl) rfl ?_
        refine L_nil ?_
        refine K_seq ?_
        obtain ⟨X9, hX9⟩ := hT.ex
        rw [hX9]
        refine B_ret ?_
        refine E_app (.inr rfl) (vres_tmp rfl rfl) (by first | exact BaseOk.refl _ | exact BaseOk.set (BaseOk.refl _) _ rfl) (by first | rfl | simp [VVal.under, VVal.underL, *]) ?_
        exact ⟨rfl, rfl⟩

theorem RankExact_law {x : SW} (ops : List OpT) (hl : ops.length * 40 ≤ 140737488351232) : F (psys x) 11 [fzO ops] [] fun v G => v = .bool true := by
  have hl : ops.length * 40 ≤ 140737488355328 := by omega
  exact (RankExact_walk [] ops hl).mono fun v G h => h.1
end Go.Proofs.YteocbhgdmpdklaaDoor.VT
