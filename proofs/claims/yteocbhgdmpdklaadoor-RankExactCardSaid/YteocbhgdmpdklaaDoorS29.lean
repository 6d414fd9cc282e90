/- the document's hierarchy: what changes; walks -/
import Derived.Test.YteocbhgdmpdklaaDoorS26
set_option autoImplicit false
set_option linter.unusedVariables false
set_option linter.unusedSimpArgs false
set_option maxHeartbeats 4000000
set_option maxRecDepth 100000
namespace Go.Proofs.YteocbhgdmpdklaaDoor.VT
open Go Go.V Go.RowKit

abbrev uS29n38 {a0 a1 a2 a3 a4 a5 a6 a7 a8 a9 a10 a11 a12 a13 a14 a15 a16 a17 a18 a19 a20 a21 a22 a23 a24 a25 a26 a27 a28 a29 a30 a31 a32 a33 a34 a35 a36 a37 : VVal} : VEnv := a0 :: a1 :: a2 :: a3 :: a4 :: a5 :: a6 :: a7 :: a8 :: a9 :: a10 :: a11 :: a12 :: a13 :: a14 :: a15 :: a16 :: a17 :: a18 :: a19 :: a20 :: a21 :: a22 :: a23 :: a24 :: a25 :: a26 :: a27 :: a28 :: a29 :: a30 :: a31 :: a32 :: a33 :: a34 :: a35 :: a36 :: a37 :: []
abbrev uS29n56 {a0 a1 a2 a3 a4 a5 a6 a7 a8 a9 a10 a11 a12 a13 a14 a15 a16 a17 a18 a19 a20 a21 a22 a23 a24 a25 a26 a27 a28 a29 a30 a31 a32 a33 a34 a35 a36 a37 a38 a39 a40 a41 a42 a43 a44 a45 a46 a47 a48 a49 a50 a51 a52 a53 a54 a55 : VVal} : VEnv := a0 :: a1 :: a2 :: a3 :: a4 :: a5 :: a6 :: a7 :: a8 :: a9 :: a10 :: a11 :: a12 :: a13 :: a14 :: a15 :: a16 :: a17 :: a18 :: a19 :: a20 :: a21 :: a22 :: a23 :: a24 :: a25 :: a26 :: a27 :: a28 :: a29 :: a30 :: a31 :: a32 :: a33 :: a34 :: a35 :: a36 :: a37 :: a38 :: a39 :: a40 :: a41 :: a42 :: a43 :: a44 :: a45 :: a46 :: a47 :: a48 :: a49 :: a50 :: a51 :: a52 :: a53 :: a54 :: a55 :: []
abbrev uS29n62 {a0 a1 a2 a3 a4 a5 a6 a7 a8 a9 a10 a11 a12 a13 a14 a15 a16 a17 a18 a19 a20 a21 a22 a23 a24 a25 a26 a27 a28 a29 a30 a31 a32 a33 a34 a35 a36 a37 a38 a39 a40 a41 a42 a43 a44 a45 a46 a47 a48 a49 a50 a51 a52 a53 a54 a55 a56 a57 a58 a59 a60 a61 : VVal} : VEnv := a0 :: a1 :: a2 :: a3 :: a4 :: a5 :: a6 :: a7 :: a8 :: a9 :: a10 :: a11 :: a12 :: a13 :: a14 :: a15 :: a16 :: a17 :: a18 :: a19 :: a20 :: a21 :: a22 :: a23 :: a24 :: a25 :: a26 :: a27 :: a28 :: a29 :: a30 :: a31 :: a32 :: a33 :: a34 :: a35 :: a36 :: a37 :: a38 :: a39 :: a40 :: a41 :: a42 :: a43 :: a44 :: a45 :: a46 :: a47 :: a48 :: a49 :: a50 :: a51 :: a52 :: a53 :: a54 :: a55 :: a56 :: a57 :: a58 :: a59 :: a60 :: a61 :: []

/-- what a change leaves -/
structure Upd (H G : VHeap) (q : Nat) (v v' : VVal) : Prop where
  len : H.length ≤ G.length
  fr : ∀ i, i < H.length → i ≠ q → vidx v ≠ some i → G[i]? = H[i]?
  nv : vidx v' = vidx v ∨ ∀ n, vidx v' = some n → H.length ≤ n
theorem Upd.same {H X : VHeap} {q : Nat} {v : VVal} : Upd H (H ++ X) q v v := ⟨by simp, fun i hi _ _ => List.getElem?_append_left hi, .inl rfl⟩
theorem v_appRL {T : TypeId → Option VTy} {ρ : Operand → VVal} {H : VHeap} {op : Op} {s x : Operand} {ats : Array TypeId} {t u e : TypeId} {z : VTy} {du : TypeDesc} {v : VVal} {cs new : List VVal} {len k : Nat} {kx : Nat}
    (ho : op = .call { callee := .builtin .append, args := #[s, x], argTypes := ats }) (hat : ats = #[t, u]) (hz : velem T t = some (e, z)) (hu : (T u).map (·.desc) = some du) (hdu : isSeq du = true)
    (hs : ρ s = v) (hx : ρ x = .slice (some (H.length + 0, 0)) k kx true z.size) (l : LV 0 z.size H v cs len) (hn : new.length = k * z.size) (h1 : new.all VVal.one = true) (hp : 0 < z.size)
    (hb : (len + k) * z.bytes ≤ 140737488355328 ∧ len + k ≤ 140737488355328) (hk : 0 < k) :
    ∃ w G, vop T ρ (H ++ [.cells new true]) op = some (w, G) ∧ ∃ Y1, w = .slice (some (H.length + 1, 0)) (len + k) (len + k) false z.size ∧ G = Y1 ++ [.cells new true, .cells (cs ++ new) true] ∧ Y1.length = H.length ∧ (∀ i, vidx v ≠ some i → Y1[i]? = H[i]?) ∧
      LV 0 z.size (Y1 ++ [.cells new true, .cells (cs ++ new) true]) (.slice (some (H.length + 1, 0)) (len + k) (len + k) false z.size) (cs ++ new) (len + k) := by
  have := v_appX (T := T) (ρ := ρ) (H := []) (op := op) (Y := H) (kx := kx) ho hat hz hu hdu hs (by rw [hx]; simp) l hn h1 hp hb hk
  obtain ⟨w, G, h2, Y1, rfl, rfl, h3, h4, h5⟩ := this
  simp only [List.length_nil, Nat.zero_add] at h2 h4 h5
  exact ⟨_, _, h2, Y1, rfl, rfl, h3, h4, h5⟩
theorem lv_base {H X : VHeap} {es : Nat} {v : VVal} {cs : List VVal} {len : Nat} (l : LV H.length es X v cs len) : LV 0 es (H ++ X) v cs len := by
  refine ⟨l.1, ?_⟩
  rcases l.2 with h | ⟨h1, b, rfl, hb⟩
  · exact .inl h
  · exact .inr ⟨h1, H.length + b, by rw [Nat.zero_add], get_app rfl hb⟩
theorem lv_at {h es : Nat} {X : VHeap} {v : VVal} {cs : List VVal} {len : Nat} (l : LV h es X v cs len) {n : Nat} (e : vidx v = some n) : h ≤ n := by
  rcases l.2 with ⟨_, rfl⟩ | ⟨_, b, rfl, _⟩
  · simp [vidx] at e
  · simp only [vidx, Option.some.injEq] at e; omega
/-- .. a new list behind the pointer -/
theorem rl_new {H X : VHeap} {q : Nat} {L L' : List (Int × Int)} {v lv : VVal} (r : RL H q L v) (l : LV H.length 2 X lv (L'.flatMap enP) L'.length) : RL ((H ++ X).set q (.cells [lv] true)) q L' lv ∧ Upd H ((H ++ X).set q (.cells [lv] true)) q v lv := by
  have hq := lt_of_get r.c
  have hne : vidx lv ≠ some q := fun e => by have := lv_at l e; omega
  refine ⟨⟨List.getElem?_set_self (by simp; omega), (lv_base l).frame fun i hi => ?_, hne⟩, by simp, fun i hi h1 _ => ?_, .inr fun n e => lv_at l e⟩
  · rw [Nat.zero_add] at hi
    rw [List.getElem?_set_ne (fun e => hne (by rw [hi, e]))]
  · rw [List.getElem?_set_ne (Ne.symm h1)]; exact List.getElem?_append_left hi
theorem rl_app {H Y1 : VHeap} {q : Nat} {L : List (Int × Int)} {v : VVal} {k1 k2 : VBlk} {p : Int × Int} (r : RL H q L v) (h1 : Y1.length = H.length) (h2 : ∀ i, vidx v ≠ some i → Y1[i]? = H[i]?) {w : VVal} {a b c : Nat} {ex : Bool} (hw : w = .slice (some (H.length + 1, 0)) a b ex c) (l : LV 0 2 (Y1 ++ [k1, k2]) w (L.flatMap enP ++ [iI p.1, iI p.2]) (L.length + 1)) :
    RL ((Y1 ++ [k1, k2]).set q (.cells [w] true)) q (L ++ [p]) w ∧ Upd H ((Y1 ++ [k1, k2]).set q (.cells [w] true)) q v w := by
  have hq := lt_of_get r.c
  have hv : vidx w = some (H.length + 1) := by rw [hw]; rfl
  refine ⟨⟨List.getElem?_set_self (by simp; omega), (LV.pair l).frame fun i hi => ?_, by rw [hv]; simp only [ne_eq, Option.some.injEq]; omega⟩, by simp; omega, fun i hi h3 h4 => ?_, .inr fun n e => by rw [hv] at e; simp only [Option.some.injEq] at e; omega⟩
  · rw [Nat.zero_add, hv] at hi
    simp only [Option.some.injEq] at hi
    rw [List.getElem?_set_ne (by omega)]
  · rw [List.getElem?_set_ne (Ne.symm h3), List.getElem?_append_left (by omega)]; exact h2 i h4
theorem co_lay {L : List (Int × Int)} {J : List (BitVec 64)} (c : CoL L J) (r : Rk J) {a b : Int} (h : (0 ≤ a ∧ a < 64) ∧ 0 ≤ b ∧ b < 64) (hh : hasB J a b = false) (hs : (blw J b).getLsbD a.toNat = false) : CoL (L ++ [(a, b)]) (ovJ J a b) := by
  have r' : Rk (ovJ J a b) := r.ovJ
  have hs' : a.toNat < J.length := by rw [r.len]; omega
  rw [(ov0 h hh hs).2] at r' ⊢
  have hlk : lk J a.toNat b.toNat = false := by
    unfold hasB at hh; rw [decide_eq_true h.1, decide_eq_true h.2, Bool.true_and, Bool.true_and] at hh; exact hh
  have hno : (a, b) ∉ L := fun hm => by
    obtain ⟨x, y, hl, e⟩ := r.mem_lkL.1 ((c.mem _).1 hm)
    simp only [Prod.mk.injEq] at e
    rw [e.1, e.2, Int.toNat_natCast, Int.toNat_natCast, hl] at hlk; cases hlk
  refine ⟨?_, fun p => ?_⟩
  · rw [List.nodup_append]
    exact ⟨c.nd, by simp, fun x hx y hy => by
      rw [List.mem_singleton.1 hy]
      exact fun e => hno (e ▸ hx)⟩
  · rw [List.mem_append, List.mem_singleton, c.mem, r.mem_lkL, r'.mem_lkL]
    constructor
    · rintro (⟨x, y, hl, rfl⟩ | rfl)
      · exact ⟨x, y, by rw [lk_lay hs' (by omega), hl]; rfl, rfl⟩
      · exact ⟨a.toNat, b.toNat, by rw [lk_lay hs' (by omega)]; simp, Prod.ext (show a = _ by omega) (show b = _ by omega)⟩
    · rintro ⟨x, y, hl, rfl⟩
      rw [lk_lay hs' (by omega), Bool.or_eq_true, Bool.and_eq_true, decide_eq_true_eq, decide_eq_true_eq] at hl
      rcases hl with hl | ⟨h1, h2⟩
      · exact .inl ⟨x, y, hl, rfl⟩
      · right; exact Prod.ext (show (x : Int) = a by omega) (show (y : Int) = b by omega)
/-- what a change tells and leaves -/
abbrev RR (H : VHeap) (q : Nat) (L : List (Int × Int)) (v : VVal) (e : Int) (J' : List (BitVec 64)) (u : VVal) (G : VHeap) : Prop := u = iI e ∧ ∃ L' v', RL G q L' v' ∧ CoL L' J' ∧ L'.length ≤ L.length + 1 ∧ Upd H G q v v'
theorem has_B {L : List (Int × Int)} {J : List (BitVec 64)} (c : CoL L J) (r : Rk J) {a b : Int} (h : (0 ≤ a ∧ a < 64) ∧ 0 ≤ b ∧ b < 64) : hasL L a b = hasB J a b := by
  have := co_has c r (a := a.toNat) (b := b.toNat) (by omega)
  rw [Int.toNat_of_nonneg h.1.1, Int.toNat_of_nonneg h.2.1] at this
  rw [this]
  unfold hasB; rw [decide_eq_true h.1, decide_eq_true h.2, Bool.true_and, Bool.true_and]

theorem rOver_spec {x : SW} (H : VHeap) (q : Nat) (L : List (Int × Int)) (v : VVal) (hr : RL H q L v) (hL : L.length ≤ 1000000) (J : List (BitVec 64)) (r : Rk J) (co : CoL L J) (a b : Int) : F (psys x) 70 [.ptr (some (q, 0)), iI a, iI b] H fun u G => RR H q L v (ovE J a b) (ovJ J a b) u G := by
  refine F_body Tryd.func70 rfl uS29n38 rfl ?_
  refine B_seq ?_
  refine B_region ?_
  refine L_op (env' := uS29n38) rfl rfl (v_const (VVal.int .i64 0) (.inr rfl) rfl) rfl ?_
  refine L_nil ?_
  refine K_seq ?_
  refine B_seq ?_
  refine B_seq ?_
  refine B_region ?_
  refine L_op (env' := uS29n38) rfl rfl (v_move (.inl rfl) rfl) rfl ?_
  refine L_call rfl rfl rfl (by exact place_spec _ _) ?_
  rintro _ _ ⟨rfl, rfl⟩
  refine L_env (env' := uS29n38) rfl ?_
  refine L_op (env' := uS29n38) rfl rfl (rfl) rfl ?_
  refine L_op (env' := uS29n38) rfl rfl (v_move (.inl rfl) rfl) rfl ?_
  refine L_split 10 (env1 := uS29n38) (env2 := uS29n38) rfl rfl rfl (fun hg1 => ?_) (fun hg1 => ?_)
  · try simp only [decide_eq_true_eq, decide_eq_false_iff_not, Bool.not_eq_true', Bool.not_eq_false', bne_iff_ne, beq_iff_eq, Bool.and_eq_true, Bool.or_eq_true, Bool.not_eq_true, ge_iff_le, gt_iff_lt, Int.not_le, Int.not_lt, beq_eq_false_iff_ne, bne_eq_false_iff_eq, ne_eq, Decidable.not_not, wd_zero, wd_one, wd_inj] at hg1
    refine L_off (env' := uS29n38) rfl rfl ?_
    refine L_off (env' := uS29n38) rfl rfl ?_
    refine L_off (env' := uS29n38) rfl rfl ?_
    refine L_op (env' := uS29n38) rfl rfl (v_pickTC (VVal.bool true) rfl rfl rfl) rfl ?_
    refine L_nil ?_
    refine K_seq ?_
    refine B_true rfl rfl ?_
    refine B_seq ?_
    refine B_region ?_
    refine L_op (env' := uS29n38) rfl rfl (v_const (VVal.int .i64 1) (.inr rfl) rfl) rfl ?_
    refine L_nil ?_
    refine K_seq ?_
    refine B_ret ?_
    refine K_seqR ?_
    refine E_keep (.inr rfl) (vres_tmp rfl rfl) ?_
    first
      | exact ⟨by rw [(ov1 (J := J) (s := a) (j := b) (by omega)).1], L, v, hr.app _, by rw [(ov1 (J := J) (s := a) (j := b) (by omega)).2]; exact co, by omega, Upd.same⟩
      | exact ⟨by rw [(ov5 (J := J) (s := a) (j := b) (by omega) (by assumption)).1], L, v, hr.app _, by rw [(ov5 (J := J) (s := a) (j := b) (by omega) (by assumption)).2]; exact co, by omega, Upd.same⟩
      | exact ⟨by rw [(ov6 (J := J) (s := a) (j := b) (by omega) (by assumption) (sh1.1 (by assumption))).1], L, v, hr.app _, by rw [(ov6 (J := J) (s := a) (j := b) (by omega) (by assumption) (sh1.1 (by assumption))).2]; exact co, by omega, Upd.same⟩
      | (have hov := ov0 (J := J) (s := a) (j := b) (by omega) (by assumption) (sh1n.1 (by assumption)); have hrl := rl_app (p := (a, b)) hr hY1 hY2 rfl hY3; exact ⟨by rw [hov.1], _, _, hrl.1, co_lay co r (by omega) (by assumption) (sh1n.1 (by assumption)), by rw [List.length_append]; exact Nat.le_refl _, hrl.2⟩)
  · try simp only [decide_eq_true_eq, decide_eq_false_iff_not, Bool.not_eq_true', Bool.not_eq_false', bne_iff_ne, beq_iff_eq, Bool.and_eq_true, Bool.or_eq_true, Bool.not_eq_true, ge_iff_le, gt_iff_lt, Int.not_le, Int.not_lt, beq_eq_false_iff_ne, bne_eq_false_iff_eq, ne_eq, Decidable.not_not, wd_zero, wd_one, wd_inj] at hg1
    refine L_op (env' := uS29n38) rfl rfl (v_move (.inl rfl) rfl) rfl ?_
    refine L_call rfl rfl rfl (by exact place_spec _ _) ?_
    rintro _ _ ⟨rfl, rfl⟩
    refine L_env (env' := uS29n38) rfl ?_
    refine L_op (env' := uS29n38) rfl rfl (rfl) rfl ?_
    refine L_op (env' := uS29n38) rfl rfl (v_pickF rfl rfl rfl) rfl ?_
    refine L_nil ?_
    refine K_seq ?_
    refine B_cond _ rfl (fun hc2 => ?_) (fun hc2 => ?_)
    · try simp only [decide_eq_true_eq, decide_eq_false_iff_not, Bool.not_eq_true', Bool.not_eq_false', bne_iff_ne, beq_iff_eq, Bool.and_eq_true, Bool.or_eq_true, Bool.not_eq_true, ge_iff_le, gt_iff_lt, Int.not_le, Int.not_lt, beq_eq_false_iff_ne, bne_eq_false_iff_eq, ne_eq, Decidable.not_not, wd_zero, wd_one, wd_inj] at hc2
      refine B_seq ?_
      refine B_region ?_
      refine L_op (env' := uS29n38) rfl rfl (v_const (VVal.int .i64 1) (.inr rfl) rfl) rfl ?_
      refine L_nil ?_
      refine K_seq ?_
      refine B_ret ?_
      refine K_seqR ?_
      refine E_keep (.inr rfl) (vres_tmp rfl rfl) ?_
      first
        | exact ⟨by rw [(ov1 (J := J) (s := a) (j := b) (by omega)).1], L, v, hr.app _, by rw [(ov1 (J := J) (s := a) (j := b) (by omega)).2]; exact co, by omega, Upd.same⟩
        | exact ⟨by rw [(ov5 (J := J) (s := a) (j := b) (by omega) (by assumption)).1], L, v, hr.app _, by rw [(ov5 (J := J) (s := a) (j := b) (by omega) (by assumption)).2]; exact co, by omega, Upd.same⟩
        | exact ⟨by rw [(ov6 (J := J) (s := a) (j := b) (by omega) (by assumption) (sh1.1 (by assumption))).1], L, v, hr.app _, by rw [(ov6 (J := J) (s := a) (j := b) (by omega) (by assumption) (sh1.1 (by assumption))).2]; exact co, by omega, Upd.same⟩
        | (have hov := ov0 (J := J) (s := a) (j := b) (by omega) (by assumption) (sh1n.1 (by assumption)); have hrl := rl_app (p := (a, b)) hr hY1 hY2 rfl hY3; exact ⟨by rw [hov.1], _, _, hrl.1, co_lay co r (by omega) (by assumption) (sh1n.1 (by assumption)), by rw [List.length_append]; exact Nat.le_refl _, hrl.2⟩)
    · try simp only [decide_eq_true_eq, decide_eq_false_iff_not, Bool.not_eq_true', Bool.not_eq_false', bne_iff_ne, beq_iff_eq, Bool.and_eq_true, Bool.or_eq_true, Bool.not_eq_true, ge_iff_le, gt_iff_lt, Int.not_le, Int.not_lt, beq_eq_false_iff_ne, bne_eq_false_iff_eq, ne_eq, Decidable.not_not, wd_zero, wd_one, wd_inj] at hc2
      refine B_skip ?_
      refine K_seq ?_
      refine B_seq ?_
      refine B_seq ?_
      refine B_region ?_
      refine L_op (env' := uS29n38) rfl rfl (v_move (.inl rfl) rfl) rfl ?_
      refine L_op (env' := uS29n38) rfl rfl (v_move (.inl rfl) rfl) rfl ?_
      refine L_op (env' := uS29n38) rfl rfl (v_move (.inl rfl) rfl) rfl ?_
      refine L_call rfl rfl rfl (by exact rHas_spec _ _ _ _ (hr.app _) hL _ _) ?_
      rintro u2 _ ⟨hv, rfl⟩; obtain rfl : u2 = .bool (hasB J a b) := hv.trans (by rw [has_B co r (by omega)])
      refine L_env (env' := uS29n38) rfl ?_
      refine L_nil ?_
      refine K_seq ?_
      refine B_cond _ rfl (fun hc3 => ?_) (fun hc3 => ?_)
      · try simp only [decide_eq_true_eq, decide_eq_false_iff_not, Bool.not_eq_true', Bool.not_eq_false', bne_iff_ne, beq_iff_eq, Bool.and_eq_true, Bool.or_eq_true, Bool.not_eq_true, ge_iff_le, gt_iff_lt, Int.not_le, Int.not_lt, beq_eq_false_iff_ne, bne_eq_false_iff_eq, ne_eq, Decidable.not_not, wd_zero, wd_one, wd_inj] at hc3
        refine B_seq ?_
        refine B_region ?_
        refine L_op (env' := uS29n38) rfl rfl (v_const (VVal.int .i64 5) (.inr rfl) rfl) rfl ?_
        refine L_nil ?_
        refine K_seq ?_
        refine B_ret ?_
        refine K_seqR ?_
        refine E_keep (.inr rfl) (vres_tmp rfl rfl) ?_
        first
          | exact ⟨by rw [(ov1 (J := J) (s := a) (j := b) (by omega)).1], L, v, hr.app _, by rw [(ov1 (J := J) (s := a) (j := b) (by omega)).2]; exact co, by omega, Upd.same⟩
          | exact ⟨by rw [(ov5 (J := J) (s := a) (j := b) (by omega) (by assumption)).1], L, v, hr.app _, by rw [(ov5 (J := J) (s := a) (j := b) (by omega) (by assumption)).2]; exact co, by omega, Upd.same⟩
          | exact ⟨by rw [(ov6 (J := J) (s := a) (j := b) (by omega) (by assumption) (sh1.1 (by assumption))).1], L, v, hr.app _, by rw [(ov6 (J := J) (s := a) (j := b) (by omega) (by assumption) (sh1.1 (by assumption))).2]; exact co, by omega, Upd.same⟩
          | (have hov := ov0 (J := J) (s := a) (j := b) (by omega) (by assumption) (sh1n.1 (by assumption)); have hrl := rl_app (p := (a, b)) hr hY1 hY2 rfl hY3; exact ⟨by rw [hov.1], _, _, hrl.1, co_lay co r (by omega) (by assumption) (sh1n.1 (by assumption)), by rw [List.length_append]; exact Nat.le_refl _, hrl.2⟩)
      · try simp only [decide_eq_true_eq, decide_eq_false_iff_not, Bool.not_eq_true', Bool.not_eq_false', bne_iff_ne, beq_iff_eq, Bool.and_eq_true, Bool.or_eq_true, Bool.not_eq_true, ge_iff_le, gt_iff_lt, Int.not_le, Int.not_lt, beq_eq_false_iff_ne, bne_eq_false_iff_eq, ne_eq, Decidable.not_not, wd_zero, wd_one, wd_inj] at hc3
        refine B_skip ?_
        refine K_seq ?_
        refine B_seq ?_
        refine B_seq ?_
        refine B_region ?_
        refine L_op (env' := uS29n38) rfl rfl (v_move (.inl rfl) rfl) rfl ?_
        refine L_op (env' := uS29n38) rfl rfl (v_move (.inl rfl) rfl) rfl ?_
        refine L_call rfl rfl rfl (by exact rBelow_spec _ _ _ _ (hr.app _) hL J r co _) ?_
        rintro _ _ ⟨rfl, rfl⟩
        refine L_env (env' := uS29n38) rfl ?_
        refine L_op (env' := uS29n38) rfl rfl (v_move (.inl rfl) rfl) rfl ?_
        refine L_op (env' := uS29n38) rfl rfl (v_shrW rfl rfl rfl (by first | assumption | omega | (simp [*]; done) | (simp at *; omega))) rfl ?_
        refine L_op (env' := uS29n38) rfl rfl (v_andW (b := 1#64) rfl rfl rfl) rfl ?_
        refine L_op (env' := uS29n38) rfl rfl (rfl) rfl ?_
        refine L_nil ?_
        refine K_seq ?_
        refine B_cond _ rfl (fun hc4 => ?_) (fun hc4 => ?_)
        · try simp only [decide_eq_true_eq, decide_eq_false_iff_not, Bool.not_eq_true', Bool.not_eq_false', bne_iff_ne, beq_iff_eq, Bool.and_eq_true, Bool.or_eq_true, Bool.not_eq_true, ge_iff_le, gt_iff_lt, Int.not_le, Int.not_lt, beq_eq_false_iff_ne, bne_eq_false_iff_eq, ne_eq, Decidable.not_not, wd_zero, wd_one, wd_inj] at hc4
          refine B_seq ?_
          refine B_region ?_
          refine L_op (env' := uS29n38) rfl rfl (v_const (VVal.int .i64 6) (.inr rfl) rfl) rfl ?_
          refine L_nil ?_
          refine K_seq ?_
          refine B_ret ?_
          refine K_seqR ?_
          refine E_keep (.inr rfl) (vres_tmp rfl rfl) ?_
          first
            | exact ⟨by rw [(ov1 (J := J) (s := a) (j := b) (by omega)).1], L, v, hr.app _, by rw [(ov1 (J := J) (s := a) (j := b) (by omega)).2]; exact co, by omega, Upd.same⟩
            | exact ⟨by rw [(ov5 (J := J) (s := a) (j := b) (by omega) (by assumption)).1], L, v, hr.app _, by rw [(ov5 (J := J) (s := a) (j := b) (by omega) (by assumption)).2]; exact co, by omega, Upd.same⟩
            | exact ⟨by rw [(ov6 (J := J) (s := a) (j := b) (by omega) (by assumption) (sh1.1 (by assumption))).1], L, v, hr.app _, by rw [(ov6 (J := J) (s := a) (j := b) (by omega) (by assumption) (sh1.1 (by assumption))).2]; exact co, by omega, Upd.same⟩
            | (have hov := ov0 (J := J) (s := a) (j := b) (by omega) (by assumption) (sh1n.1 (by assumption)); have hrl := rl_app (p := (a, b)) hr hY1 hY2 rfl hY3; exact ⟨by rw [hov.1], _, _, hrl.1, co_lay co r (by omega) (by assumption) (sh1n.1 (by assumption)), by rw [List.length_append]; exact Nat.le_refl _, hrl.2⟩)
        · try simp only [decide_eq_true_eq, decide_eq_false_iff_not, Bool.not_eq_true', Bool.not_eq_false', bne_iff_ne, beq_iff_eq, Bool.and_eq_true, Bool.or_eq_true, Bool.not_eq_true, ge_iff_le, gt_iff_lt, Int.not_le, Int.not_lt, beq_eq_false_iff_ne, bne_eq_false_iff_eq, ne_eq, Decidable.not_not, wd_zero, wd_one, wd_inj] at hc4
          refine B_skip ?_
          refine K_seq ?_
          refine B_seq ?_
          refine B_region ?_
          refine L_op (env' := uS29n38) rfl rfl (v_move (.inl rfl) rfl) rfl ?_
          refine L_op (env' := uS29n38) rfl rfl (v_move (.inl rfl) rfl) rfl ?_
          refine L_op (env' := uS29n38) rfl rfl (rfl) rfl ?_
          refine L_op (env' := uS29n38) rfl rfl (rfl) rfl ?_
          refine L_op (env' := uS29n38) rfl rfl (by first | exact v_loadF rfl rfl rfl rfl (by rfl) | exact v_load rfl rfl rfl rfl (by first | exact get_out hr.c | exact get_app rfl rfl) (by rfl)) rfl ?_
          refine L_op (env' := uS29n38) rfl rfl (v_move (.inl rfl) rfl) rfl ?_
          refine L_op (env' := uS29n38) rfl rfl (v_move (.inl rfl) rfl) rfl ?_
          refine L_op (env' := uS29n38) rfl rfl (rfl) rfl ?_
          refine L_op (env' := uS29n38) rfl rfl (v_buildSlice rfl rfl (by decide) rfl) rfl ?_
          refine L_opX rfl rfl (v_appRL rfl rfl rfl rfl rfl rfl rfl hr.l rfl rfl (by decide) (by show (_ + 1) * 16 ≤ _ ∧ _ + 1 ≤ _; omega) (by decide)) ?_
          rintro _ _ ⟨Y1, rfl, rfl, hY1, hY2, hY3⟩
          refine L_env (env' := uS29n38) rfl ?_
          refine L_op (env' := uS29n38) rfl rfl (rfl) rfl ?_
          refine L_op (env' := uS29n38) rfl rfl (rfl) rfl ?_
          refine L_op (env' := uS29n38) rfl rfl (v_storeT rfl rfl rfl rfl rfl rfl rfl (by exact get_append ((hY2 q hr.n).trans hr.c)) (by first | exact Nat.le_of_ble_eq_true rfl | (simp only [List.length_map, List.length_cons, List.length_nil]; omega) | omega | (simp; done) | (simp; omega)) (by first | exact set_app rfl | exact set_out (lt_of_get (by assumption)) | rfl)) rfl ?_
          refine L_nil ?_
          refine K_seq ?_
          refine B_seq ?_
          refine B_region ?_
          refine L_op (env' := uS29n38) rfl rfl (v_const (VVal.int .i64 0) (.inr rfl) rfl) rfl ?_
          refine L_nil ?_
          refine K_seq ?_
          refine B_ret ?_
          refine E_keep (.inr rfl) (vres_tmp rfl rfl) ?_
          first
            | exact ⟨by rw [(ov1 (J := J) (s := a) (j := b) (by omega)).1], L, v, hr.app _, by rw [(ov1 (J := J) (s := a) (j := b) (by omega)).2]; exact co, by omega, Upd.same⟩
            | exact ⟨by rw [(ov5 (J := J) (s := a) (j := b) (by omega) (by assumption)).1], L, v, hr.app _, by rw [(ov5 (J := J) (s := a) (j := b) (by omega) (by assumption)).2]; exact co, by omega, Upd.same⟩
            | exact ⟨by rw [(ov6 (J := J) (s := a) (j := b) (by omega) (by assumption) (sh1.1 (by assumption))).1], L, v, hr.app _, by rw [(ov6 (J := J) (s := a) (j := b) (by omega) (by assumption) (sh1.1 (by assumption))).2]; exact co, by omega, Upd.same⟩
            | (have hov := ov0 (J := J) (s := a) (j := b) (by omega) (by assumption) (sh1n.1 (by assumption)); have hrl := rl_app (p := (a, b)) hr hY1 hY2 rfl hY3; exact ⟨by rw [hov.1], _, _, hrl.1, co_lay co r (by omega) (by assumption) (sh1n.1 (by assumption)), by rw [List.length_append]; exact Nat.le_refl _, hrl.2⟩)

theorem nd_sub {α : Type} [DecidableEq α] : ∀ {l m : List α}, l.Nodup → (∀ x, x ∈ l → x ∈ m) → l.length ≤ m.length
  | [], m, _, _ => by simp
  | x :: l, m, hn, h => by
    have hx := h x (List.mem_cons_self ..)
    have hn' := List.nodup_cons.1 hn
    have := nd_sub (l := l) (m := m.erase x) hn'.2 fun y hy => by
      have hne : y ≠ x := fun e => hn'.1 (e ▸ hy)
      exact (List.mem_erase_of_ne hne).2 (h y (List.mem_cons_of_mem _ hy))
    rw [List.length_erase_of_mem hx] at this
    have hp := List.length_pos_of_mem hx
    rw [List.length_cons]; omega
theorem lkL_nd {J : List (BitVec 64)} : (lkL J).Nodup := List.nodup_iff_pairwise_ne.2 ((lkTo_rise (J := J) (n := 64)).imp fun h e => by
  subst e; unfold lexP at h; omega)
theorem co_len {L : List (Int × Int)} {J : List (BitVec 64)} (c : CoL L J) : L.length = (lkL J).length :=
  Nat.le_antisymm (nd_sub c.nd fun p h => (c.mem p).1 h) (nd_sub lkL_nd fun p h => (c.mem p).2 h)
/-- the links but one -/
def cutF (a b : Int) (p : Int × Int) : Bool := decide (p ≠ (a, b))
def cutL (L : List (Int × Int)) (a b : Int) (k : Nat) : List (Int × Int) := (L.take k).filter (cutF a b)
theorem cutL_le {L : List (Int × Int)} {a b : Int} {k : Nat} : (cutL L a b k).length ≤ k := Nat.le_trans (List.length_filter_le _ _) (by rw [List.length_take]; omega)
theorem takeP {L : List (Int × Int)} {k : Nat} (h : k < L.length) : L.take (k + 1) = L.take k ++ [L.getD (k : Int).toNat (0, 0)] := by
  rw [List.take_succ_eq_append_getElem h, Int.toNat_natCast, List.getD_eq_getElem?_getD, List.getElem?_eq_getElem h]; rfl
theorem cutL_yes {L : List (Int × Int)} {a b : Int} {k : Nat} (h : k < L.length) (hp : L.getD (k : Int).toNat (0, 0) ≠ (a, b)) : cutL L a b (k + 1) = cutL L a b k ++ [L.getD (k : Int).toNat (0, 0)] := by
  unfold cutL; rw [takeP h, List.filter_append, List.filter_cons, if_pos (by unfold cutF; exact decide_eq_true hp)]; rfl
theorem cutL_no {L : List (Int × Int)} {a b : Int} {k : Nat} (h : k < L.length) (hp : L.getD (k : Int).toNat (0, 0) = (a, b)) : cutL L a b (k + 1) = cutL L a b k := by
  unfold cutL; rw [takeP h, List.filter_append, List.filter_cons, if_neg (by unfold cutF; rw [hp]; simp)]; simp
theorem co_cut {L : List (Int × Int)} {J : List (BitVec 64)} (c : CoL L J) (r : Rk J) {a b : Int} (h : (0 ≤ a ∧ a < 64) ∧ 0 ≤ b ∧ b < 64) (hh : hasB J a b = true) : CoL (cutL L a b L.length) (ctJ J a b) := by
  have r' : Rk (ctJ J a b) := r.ctJ
  have hs' : a.toNat < J.length := by rw [r.len]; omega
  rw [(ct0 h hh).2] at r' ⊢
  unfold cutL; rw [List.take_length]
  refine ⟨List.Nodup.sublist List.filter_sublist c.nd, fun p => ?_⟩
  rw [List.mem_filter, c.mem, r.mem_lkL, r'.mem_lkL]
  constructor
  · rintro ⟨⟨x, y, hl, rfl⟩, hne⟩
    refine ⟨x, y, ?_, rfl⟩
    rw [lk_unl hs', hl]
    have hne : ((x : Int), (y : Int)) ≠ (a, b) := of_decide_eq_true hne
    have : ¬ (x = a.toNat ∧ y = b.toNat) := fun e => hne (Prod.ext (show (x : Int) = a by omega) (show (y : Int) = b by omega))
    simp only [Bool.true_and, Bool.not_eq_true', Bool.and_eq_false_iff, decide_eq_false_iff_not]
    by_cases e : x = a.toNat
    · exact .inr fun e2 => this ⟨e, e2⟩
    · exact .inl e
  · rintro ⟨x, y, hl, rfl⟩
    rw [lk_unl hs', Bool.and_eq_true] at hl
    refine ⟨⟨x, y, hl.1, rfl⟩, decide_eq_true fun e => ?_⟩
    simp only [Prod.mk.injEq] at e
    have h1 : x = a.toNat := by omega
    have h2 : y = b.toNat := by omega
    rw [decide_eq_true h1, decide_eq_true h2] at hl
    cases hl.2
theorem pair_neq {p : Int × Int} {a b : Int} : (!(p.1 == a && (p.2 == b && true))) = decide (p ≠ (a, b)) := by
  obtain ⟨x, y⟩ := p
  rw [Bool.eq_iff_iff, Bool.not_eq_true', decide_eq_true_eq, ne_eq, Prod.mk.injEq, Bool.and_true, ← Bool.not_eq_true, Bool.and_eq_true, beq_iff_eq, beq_iff_eq]

theorem rCut_spec {x : SW} (H : VHeap) (q : Nat) (L : List (Int × Int)) (v : VVal) (hr : RL H q L v) (hL : L.length ≤ 1000000) (J : List (BitVec 64)) (r : Rk J) (co : CoL L J) (a b : Int) : F (psys x) 71 [.ptr (some (q, 0)), iI a, iI b] H fun u G => RR H q L v (ctE J a b) (ctJ J a b) u G := by
  refine F_body Tryd.func71 rfl uS29n56 rfl ?_
  refine B_seq ?_
  refine B_region ?_
  refine L_op (env' := uS29n56) rfl rfl (v_const (VVal.int .i64 0) (.inr rfl) rfl) rfl ?_
  refine L_nil ?_
  refine K_seq ?_
  refine B_seq ?_
  refine B_seq ?_
  refine B_region ?_
  refine L_op (env' := uS29n56) rfl rfl (v_move (.inl rfl) rfl) rfl ?_
  refine L_call rfl rfl rfl (by exact place_spec _ _) ?_
  rintro _ _ ⟨rfl, rfl⟩
  refine L_env (env' := uS29n56) rfl ?_
  refine L_op (env' := uS29n56) rfl rfl (rfl) rfl ?_
  refine L_op (env' := uS29n56) rfl rfl (v_move (.inl rfl) rfl) rfl ?_
  refine L_split 12 (env1 := uS29n56) (env2 := uS29n56) rfl rfl rfl (fun hg1 => ?_) (fun hg1 => ?_)
  · try simp only [decide_eq_true_eq, decide_eq_false_iff_not, Bool.not_eq_true', Bool.not_eq_false', bne_iff_ne, beq_iff_eq, Bool.and_eq_true, Bool.or_eq_true, Bool.not_eq_true, ge_iff_le, gt_iff_lt, Int.not_le, Int.not_lt, beq_eq_false_iff_ne, bne_eq_false_iff_eq, ne_eq, Decidable.not_not, wd_zero, wd_one, wd_inj] at hg1
    refine L_off (env' := uS29n56) rfl rfl ?_
    refine L_off (env' := uS29n56) rfl rfl ?_
    refine L_off (env' := uS29n56) rfl rfl ?_
    refine L_op (env' := uS29n56) rfl rfl (v_pickTC (VVal.bool true) rfl rfl rfl) rfl ?_
    refine L_nil ?_
    refine K_seq ?_
    refine B_true rfl rfl ?_
    refine B_seq ?_
    refine B_region ?_
    refine L_op (env' := uS29n56) rfl rfl (v_const (VVal.int .i64 1) (.inr rfl) rfl) rfl ?_
    refine L_nil ?_
    refine K_seq ?_
    refine B_ret ?_
    refine K_seqR ?_
    refine E_keep (.inr rfl) (vres_tmp rfl rfl) ?_
    first
      | exact ⟨by rw [(ct1 (J := J) (s := a) (j := b) (by omega)).1], L, v, hr.app _, by rw [(ct1 (J := J) (s := a) (j := b) (by omega)).2]; exact co, by omega, Upd.same⟩
      | exact ⟨by rw [(ct26 (J := J) (s := a) (j := b) (by omega) (by assumption)).1], L, v, hr.app _, by rw [(ct26 (J := J) (s := a) (j := b) (by omega) (by assumption)).2]; exact co, by omega, Upd.same⟩
      | (have hct := ct0 (J := J) (s := a) (j := b) (by omega) (by assumption); have hkL : k = L.length := (by omega); subst hkL; have hrl := rl_new hr hl; exact ⟨by rw [hct.1], _, _, hrl.1, co_cut co r (by omega) (by assumption), Nat.le_succ_of_le cutL_le, hrl.2⟩)
  · try simp only [decide_eq_true_eq, decide_eq_false_iff_not, Bool.not_eq_true', Bool.not_eq_false', bne_iff_ne, beq_iff_eq, Bool.and_eq_true, Bool.or_eq_true, Bool.not_eq_true, ge_iff_le, gt_iff_lt, Int.not_le, Int.not_lt, beq_eq_false_iff_ne, bne_eq_false_iff_eq, ne_eq, Decidable.not_not, wd_zero, wd_one, wd_inj] at hg1
    refine L_op (env' := uS29n56) rfl rfl (v_move (.inl rfl) rfl) rfl ?_
    refine L_call rfl rfl rfl (by exact place_spec _ _) ?_
    rintro _ _ ⟨rfl, rfl⟩
    refine L_env (env' := uS29n56) rfl ?_
    refine L_op (env' := uS29n56) rfl rfl (rfl) rfl ?_
    refine L_op (env' := uS29n56) rfl rfl (v_pickF rfl rfl rfl) rfl ?_
    refine L_nil ?_
    refine K_seq ?_
    refine B_cond _ rfl (fun hc2 => ?_) (fun hc2 => ?_)
    · try simp only [decide_eq_true_eq, decide_eq_false_iff_not, Bool.not_eq_true', Bool.not_eq_false', bne_iff_ne, beq_iff_eq, Bool.and_eq_true, Bool.or_eq_true, Bool.not_eq_true, ge_iff_le, gt_iff_lt, Int.not_le, Int.not_lt, beq_eq_false_iff_ne, bne_eq_false_iff_eq, ne_eq, Decidable.not_not, wd_zero, wd_one, wd_inj] at hc2
      refine B_seq ?_
      refine B_region ?_
      refine L_op (env' := uS29n56) rfl rfl (v_const (VVal.int .i64 1) (.inr rfl) rfl) rfl ?_
      refine L_nil ?_
      refine K_seq ?_
      refine B_ret ?_
      refine K_seqR ?_
      refine E_keep (.inr rfl) (vres_tmp rfl rfl) ?_
      first
        | exact ⟨by rw [(ct1 (J := J) (s := a) (j := b) (by omega)).1], L, v, hr.app _, by rw [(ct1 (J := J) (s := a) (j := b) (by omega)).2]; exact co, by omega, Upd.same⟩
        | exact ⟨by rw [(ct26 (J := J) (s := a) (j := b) (by omega) (by assumption)).1], L, v, hr.app _, by rw [(ct26 (J := J) (s := a) (j := b) (by omega) (by assumption)).2]; exact co, by omega, Upd.same⟩
        | (have hct := ct0 (J := J) (s := a) (j := b) (by omega) (by assumption); have hkL : k = L.length := (by omega); subst hkL; have hrl := rl_new hr hl; exact ⟨by rw [hct.1], _, _, hrl.1, co_cut co r (by omega) (by assumption), Nat.le_succ_of_le cutL_le, hrl.2⟩)
    · try simp only [decide_eq_true_eq, decide_eq_false_iff_not, Bool.not_eq_true', Bool.not_eq_false', bne_iff_ne, beq_iff_eq, Bool.and_eq_true, Bool.or_eq_true, Bool.not_eq_true, ge_iff_le, gt_iff_lt, Int.not_le, Int.not_lt, beq_eq_false_iff_ne, bne_eq_false_iff_eq, ne_eq, Decidable.not_not, wd_zero, wd_one, wd_inj] at hc2
      refine B_skip ?_
      refine K_seq ?_
      refine B_seq ?_
      refine B_seq ?_
      refine B_region ?_
      refine L_op (env' := uS29n56) rfl rfl (v_move (.inl rfl) rfl) rfl ?_
      refine L_op (env' := uS29n56) rfl rfl (v_move (.inl rfl) rfl) rfl ?_
      refine L_op (env' := uS29n56) rfl rfl (v_move (.inl rfl) rfl) rfl ?_
      refine L_call rfl rfl rfl (by exact rHas_spec _ _ _ _ (hr.app _) hL _ _) ?_
      rintro u2 _ ⟨hv, rfl⟩; obtain rfl : u2 = .bool (hasB J a b) := hv.trans (by rw [has_B co r (by omega)])
      refine L_env (env' := uS29n56) rfl ?_
      refine L_op (env' := uS29n56) rfl rfl (rfl) rfl ?_
      refine L_nil ?_
      refine K_seq ?_
      refine B_cond _ rfl (fun hc3 => ?_) (fun hc3 => ?_)
      · try simp only [decide_eq_true_eq, decide_eq_false_iff_not, Bool.not_eq_true', Bool.not_eq_false', bne_iff_ne, beq_iff_eq, Bool.and_eq_true, Bool.or_eq_true, Bool.not_eq_true, ge_iff_le, gt_iff_lt, Int.not_le, Int.not_lt, beq_eq_false_iff_ne, bne_eq_false_iff_eq, ne_eq, Decidable.not_not, wd_zero, wd_one, wd_inj] at hc3
        refine B_seq ?_
        refine B_region ?_
        refine L_op (env' := uS29n56) rfl rfl (v_const (VVal.int .i64 26) (.inr rfl) rfl) rfl ?_
        refine L_nil ?_
        refine K_seq ?_
        refine B_ret ?_
        refine K_seqR ?_
        refine E_keep (.inr rfl) (vres_tmp rfl rfl) ?_
        first
          | exact ⟨by rw [(ct1 (J := J) (s := a) (j := b) (by omega)).1], L, v, hr.app _, by rw [(ct1 (J := J) (s := a) (j := b) (by omega)).2]; exact co, by omega, Upd.same⟩
          | exact ⟨by rw [(ct26 (J := J) (s := a) (j := b) (by omega) (by assumption)).1], L, v, hr.app _, by rw [(ct26 (J := J) (s := a) (j := b) (by omega) (by assumption)).2]; exact co, by omega, Upd.same⟩
          | (have hct := ct0 (J := J) (s := a) (j := b) (by omega) (by assumption); have hkL : k = L.length := (by omega); subst hkL; have hrl := rl_new hr hl; exact ⟨by rw [hct.1], _, _, hrl.1, co_cut co r (by omega) (by assumption), Nat.le_succ_of_le cutL_le, hrl.2⟩)
      · try simp only [decide_eq_true_eq, decide_eq_false_iff_not, Bool.not_eq_true', Bool.not_eq_false', bne_iff_ne, beq_iff_eq, Bool.and_eq_true, Bool.or_eq_true, Bool.not_eq_true, ge_iff_le, gt_iff_lt, Int.not_le, Int.not_lt, beq_eq_false_iff_ne, bne_eq_false_iff_eq, ne_eq, Decidable.not_not, wd_zero, wd_one, wd_inj] at hc3
        refine B_skip ?_
        refine K_seq ?_
        refine B_seq ?_
        refine B_region ?_
        refine L_op (env' := uS29n56) rfl rfl (v_const (VVal.slice none 0 0 true 0) (.inr rfl) rfl) rfl ?_
        refine L_nil ?_
        refine K_seq ?_
        refine B_seq ?_
        refine B_seq ?_
        refine B_region ?_
        refine L_op (env' := uS29n56) rfl rfl (v_const (VVal.int .i64 0) (.inr rfl) rfl) rfl ?_
        refine L_nil ?_
        refine K_seq ?_
        refine B_block ?_
        refine B_clear [false,false,false,true,true,true,true,false,false,true,true,true,true,true,true,true,true,true,true,true,true,true,true,true,true,true,true,true,true,true,true,true,true,true,true,true,true,true,true,true,true,true,true,true,true,true,true,true,true,true,true,true,true,true,true,true] (env' := uS29n56) rfl ?_
        refine B_loopE (fun (⟨k, lv⟩ : Nat × VVal) => L.length - k) (fun (⟨k, lv⟩ : Nat × VVal) => [(7, lv), (8, iI (k : Nat))]) (fun (⟨k, lv⟩ : Nat × VVal) G => (k ≤ L.length) ∧ ∃ X, G = H ++ X ∧ LV H.length 2 X lv ((cutL L a b k).flatMap enP) (cutL L a b k).length) ⟨0, _⟩ rfl ?_ ?_
        · refine ⟨?_, ⟨_, rfl, LV.nil _ _ _⟩⟩
          exact Nat.zero_le _
        rintro ⟨k, lv⟩ _ ⟨hk, ⟨X, rfl, hl⟩⟩
        refine B_env (env' := uS29n56) rfl ?_
        refine B_seq ?_
        refine B_seq ?_
        refine B_region ?_
        refine L_op (env' := uS29n56) rfl rfl (v_move (.inl rfl) rfl) rfl ?_
        refine L_op (env' := uS29n56) rfl rfl (v_move (.inl rfl) rfl) rfl ?_
        refine L_op (env' := uS29n56) rfl rfl (rfl) rfl ?_
        refine L_op (env' := uS29n56) rfl rfl (rfl) rfl ?_
        refine L_op (env' := uS29n56) rfl rfl (by first | exact v_loadF rfl rfl rfl rfl (by first | rfl | exact pairs_at (by omega)) | exact v_load rfl rfl rfl rfl (by first | exact get_out hr.c | exact get_out hb1 | exact get_out hb2) (by first | rfl | exact pairs_at (by omega))) rfl ?_
        refine L_op (env' := uS29n56) rfl rfl (v_len rfl rfl rfl rfl hr.l) rfl ?_
        refine L_op (env' := uS29n56) rfl rfl (rfl) rfl ?_
        refine L_nil ?_
        refine K_seq ?_
        refine B_cond _ rfl (fun hc4 => ?_) (fun hc4 => ?_)
        · try simp only [decide_eq_true_eq, decide_eq_false_iff_not, Bool.not_eq_true', Bool.not_eq_false', bne_iff_ne, beq_iff_eq, Bool.and_eq_true, Bool.or_eq_true, Bool.not_eq_true, ge_iff_le, gt_iff_lt, Int.not_le, Int.not_lt, beq_eq_false_iff_ne, bne_eq_false_iff_eq, ne_eq, Decidable.not_not, wd_zero, wd_one, wd_inj] at hc4
          refine B_skip ?_
          refine K_seq ?_
          refine B_seq ?_
          refine B_block ?_
          refine B_seq ?_
          refine B_region ?_
          refine L_op (env' := uS29n56) rfl rfl (v_move (.inl rfl) rfl) rfl ?_
          refine L_op (env' := uS29n56) rfl rfl (rfl) rfl ?_
          refine L_op (env' := uS29n56) rfl rfl (rfl) rfl ?_
          refine L_op (env' := uS29n56) rfl rfl (by first | exact v_loadF rfl rfl rfl rfl (by first | rfl | exact pairs_at (by omega)) | exact v_load rfl rfl rfl rfl (by first | exact get_out hr.c | exact get_out hb1 | exact get_out hb2) (by first | rfl | exact pairs_at (by omega))) rfl ?_
          refine L_op (env' := uS29n56) rfl rfl (v_move (.inl rfl) rfl) rfl ?_
          refine L_opX rfl rfl (v_idxRL rfl rfl rfl rfl rfl rfl rfl hr.l (by omega)) ?_
          rintro _ _ ⟨b1, rfl, rfl, hb1⟩
          refine L_env (env' := uS29n56) rfl ?_
          refine L_op (env' := uS29n56) rfl rfl (by first | exact v_loadFA rfl rfl rfl rfl (by first | rfl | exact pairs_at (by omega)) | exact v_loadA rfl rfl rfl rfl (by first | exact get_out hr.c | exact get_out hb1 | exact get_out hb2) (by first | rfl | exact pairs_at (by omega))) rfl ?_
          refine L_op (env' := uS29n56) rfl rfl (v_move (.inl rfl) rfl) rfl ?_
          refine L_op (env' := uS29n56) rfl rfl (v_move (.inl rfl) rfl) rfl ?_
          refine L_op (env' := uS29n56) rfl rfl (rfl) rfl ?_
          refine L_op (env' := uS29n56) rfl rfl (v_is (decide (L.getD (k : Int).toNat (0, 0) ≠ (a, b))) rfl pair_neq) rfl ?_
          refine L_nil ?_
          refine K_seq ?_
          refine B_cond _ rfl (fun hc5 => ?_) (fun hc5 => ?_)
          · try simp only [decide_eq_true_eq, decide_eq_false_iff_not, Bool.not_eq_true', Bool.not_eq_false', bne_iff_ne, beq_iff_eq, Bool.and_eq_true, Bool.or_eq_true, Bool.not_eq_true, ge_iff_le, gt_iff_lt, Int.not_le, Int.not_lt, beq_eq_false_iff_ne, bne_eq_false_iff_eq, ne_eq, Decidable.not_not, wd_zero, wd_one, wd_inj] at hc5
            refine B_region ?_
            refine L_op (env' := uS29n56) rfl rfl (v_move (.inl rfl) rfl) rfl ?_
            refine L_op (env' := uS29n56) rfl rfl (v_move (.inl rfl) rfl) rfl ?_
            refine L_op (env' := uS29n56) rfl rfl (rfl) rfl ?_
            refine L_op (env' := uS29n56) rfl rfl (rfl) rfl ?_
            refine L_op (env' := uS29n56) rfl rfl (by first | exact v_loadF rfl rfl rfl rfl (by first | rfl | exact pairs_at (by omega)) | exact v_load rfl rfl rfl rfl (by first | exact get_out hr.c | exact get_out hb1 | exact get_out hb2) (by first | rfl | exact pairs_at (by omega))) rfl ?_
            refine L_op (env' := uS29n56) rfl rfl (v_move (.inl rfl) rfl) rfl ?_
            refine L_opX rfl rfl (v_idxRL rfl rfl rfl rfl rfl rfl rfl hr.l (by omega)) ?_
            rintro _ _ ⟨b2, rfl, rfl, hb2⟩
            refine L_env (env' := uS29n56) rfl ?_
            refine L_op (env' := uS29n56) rfl rfl (by first | exact v_loadFA rfl rfl rfl rfl (by first | rfl | exact pairs_at (by omega)) | exact v_loadA rfl rfl rfl rfl (by first | exact get_out hr.c | exact get_out hb1 | exact get_out hb2) (by first | rfl | exact pairs_at (by omega))) rfl ?_
            refine L_op (env' := uS29n56) rfl rfl (v_buildSlice rfl rfl (by decide) rfl) rfl ?_
            refine L_opX rfl rfl (v_appX rfl rfl rfl rfl rfl rfl rfl hl rfl rfl (by decide) (by have := cutL_le (L := L) (a := a) (b := b) (k := k); show (_ + 1) * 16 ≤ _ ∧ _ + 1 ≤ _; omega) (by decide)) ?_
            rintro _ _ ⟨Y1, rfl, rfl, hY1, hY2, hY3⟩
            refine L_env (env' := uS29n56) rfl ?_
            refine L_op (env' := uS29n56) rfl rfl (v_move (.inr rfl) rfl) rfl ?_
            refine L_nil ?_
            refine K_blk ?_
            refine K_seq ?_
            refine B_region ?_
            refine L_op (env' := uS29n56) rfl rfl (v_move (.inl rfl) rfl) rfl ?_
            refine L_op (env' := uS29n56) rfl rfl (v_addI rfl rfl rfl (by first | assumption | omega | (simp [*]; done) | (simp at *; omega))) rfl ?_
            refine L_op (env' := uS29n56) rfl rfl (v_move (.inr rfl) rfl) rfl ?_
            refine L_nil ?_
            refine K_loop [false,false,false,true,true,true,true,false,false,true,true,true,true,true,true,true,true,true,true,true,true,true,true,true,true,true,true,true,true,true,true,true,true,true,true,true,true,true,true,true,true,true,true,true,true,true,true,true,true,true,true,true,true,true,true,true] (env' := uS29n56) rfl ⟨⟨k + 1, _⟩, ?_, rfl, ?_⟩
            · first | omega | (simp only []; omega)
            · first | exact ⟨by omega, _, rfl, by rw [cutL_yes (by omega) (by assumption)]; exact LV.pair hY3⟩ | exact ⟨by omega, _, rfl, by rw [cutL_no (by omega) (by first | assumption | exact Decidable.not_not.1 (by assumption))]; exact hl⟩
          · try simp only [decide_eq_true_eq, decide_eq_false_iff_not, Bool.not_eq_true', Bool.not_eq_false', bne_iff_ne, beq_iff_eq, Bool.and_eq_true, Bool.or_eq_true, Bool.not_eq_true, ge_iff_le, gt_iff_lt, Int.not_le, Int.not_lt, beq_eq_false_iff_ne, bne_eq_false_iff_eq, ne_eq, Decidable.not_not, wd_zero, wd_one, wd_inj] at hc5
            refine B_skip ?_
            refine K_blk ?_
            refine K_seq ?_
            refine B_region ?_
            refine L_op (env' := uS29n56) rfl rfl (v_move (.inl rfl) rfl) rfl ?_
            refine L_op (env' := uS29n56) rfl rfl (v_addI rfl rfl rfl (by first | assumption | omega | (simp [*]; done) | (simp at *; omega))) rfl ?_
            refine L_op (env' := uS29n56) rfl rfl (v_move (.inr rfl) rfl) rfl ?_
            refine L_nil ?_
            refine K_loop [false,false,false,true,true,true,true,false,false,true,true,true,true,true,true,true,true,true,true,true,true,true,true,true,true,true,true,true,true,true,true,true,true,true,true,true,true,true,true,true,true,true,true,true,true,true,true,true,true,true,true,true,true,true,true,true] (env' := uS29n56) rfl ⟨⟨k + 1, _⟩, ?_, rfl, ?_⟩
            · first | omega | (simp only []; omega)
            · first | exact ⟨by omega, _, rfl, by rw [cutL_yes (by omega) (by assumption)]; exact LV.pair hY3⟩ | exact ⟨by omega, _, rfl, by rw [cutL_no (by omega) (by first | assumption | exact Decidable.not_not.1 (by assumption))]; exact hl⟩
        · try simp only [decide_eq_true_eq, decide_eq_false_iff_not, Bool.not_eq_true', Bool.not_eq_false', bne_iff_ne, beq_iff_eq, Bool.and_eq_true, Bool.or_eq_true, Bool.not_eq_true, ge_iff_le, gt_iff_lt, Int.not_le, Int.not_lt, beq_eq_false_iff_ne, bne_eq_false_iff_eq, ne_eq, Decidable.not_not, wd_zero, wd_one, wd_inj] at hc4
          refine B_exit ?_
          refine K_seqX ?_
          refine K_loopX ?_
          refine K_blkX ?_
          refine K_seq ?_
          refine B_seq ?_
          refine B_region ?_
          refine L_op (env' := uS29n56) rfl rfl (v_move (.inl rfl) rfl) rfl ?_
          refine L_op (env' := uS29n56) rfl rfl (v_move (.inl rfl) rfl) rfl ?_
          refine L_op (env' := uS29n56) rfl rfl (rfl) rfl ?_
          refine L_op (env' := uS29n56) rfl rfl (rfl) rfl ?_
          refine L_op (env' := uS29n56) rfl rfl (v_storeT rfl rfl rfl rfl (LV.cells hl) rfl (by simp [LV.one hl]) (get_out hr.c) (Nat.le_refl 1) rfl) rfl ?_
          refine L_nil ?_
          refine K_seq ?_
          refine B_seq ?_
          refine B_region ?_
          refine L_op (env' := uS29n56) rfl rfl (v_const (VVal.int .i64 0) (.inr rfl) rfl) rfl ?_
          refine L_nil ?_
          refine K_seq ?_
          refine B_ret ?_
          refine E_keep (.inr rfl) (vres_tmp rfl rfl) ?_
          first
            | exact ⟨by rw [(ct1 (J := J) (s := a) (j := b) (by omega)).1], L, v, hr.app _, by rw [(ct1 (J := J) (s := a) (j := b) (by omega)).2]; exact co, by omega, Upd.same⟩
            | exact ⟨by rw [(ct26 (J := J) (s := a) (j := b) (by omega) (by assumption)).1], L, v, hr.app _, by rw [(ct26 (J := J) (s := a) (j := b) (by omega) (by assumption)).2]; exact co, by omega, Upd.same⟩
            | (have hct := ct0 (J := J) (s := a) (j := b) (by omega) (by assumption); have hkL : k = L.length := (by omega); subst hkL; have hrl := rl_new hr hl; exact ⟨by rw [hct.1], _, _, hrl.1, co_cut co r (by omega) (by assumption), Nat.le_succ_of_le cutL_le, hrl.2⟩)

/-- the links that are not the place's -/
def drpL (L : List (Int × Int)) (a : Int) (k : Nat) : List (Int × Int) := (L.take k).filter fun p => decide (p.1 ≠ a) && decide (p.2 ≠ a)
theorem drpL_le {L : List (Int × Int)} {a : Int} {k : Nat} : (drpL L a k).length ≤ k := Nat.le_trans (List.length_filter_le _ _) (by rw [List.length_take]; omega)
theorem drpL_yes {L : List (Int × Int)} {a : Int} {k : Nat} (h : k < L.length) (h1 : ¬ (L.getD (k : Int).toNat (0, 0)).1 = a) (h2 : ¬ (L.getD (k : Int).toNat (0, 0)).2 = a) : drpL L a (k + 1) = drpL L a k ++ [L.getD (k : Int).toNat (0, 0)] := by
  unfold drpL; rw [takeP h, List.filter_append, List.filter_cons, if_pos (by rw [decide_eq_true h1, decide_eq_true h2]; rfl)]; rfl
theorem drpL_no {L : List (Int × Int)} {a : Int} {k : Nat} (h : k < L.length) (h1 : (L.getD (k : Int).toNat (0, 0)).1 = a ∨ (L.getD (k : Int).toNat (0, 0)).2 = a) : drpL L a (k + 1) = drpL L a k := by
  unfold drpL; rw [takeP h, List.filter_append, List.filter_cons, if_neg (by
    rw [Bool.and_eq_true, decide_eq_true_eq, decide_eq_true_eq]
    rintro ⟨h3, h4⟩
    exact h1.elim h3 h4)]; simp
theorem co_drop {L : List (Int × Int)} {J : List (BitVec 64)} (c : CoL L J) (r : Rk J) {a : Int} : CoL (drpL L a L.length) (drJ J a) ∧ (L.length : Int) - (drpL L a L.length).length = drN J a := by
  have hdr := drop_is r a
  have hf : drpL L a L.length = L.filter fun p => !isA a p := by
    unfold drpL; rw [List.take_length]
    apply List.filter_congr
    intro p _
    unfold isA
    by_cases h1 : p.1 = a <;> by_cases h2 : p.2 = a <;> simp [h1, h2]
  have hc : CoL (drpL L a L.length) (drJ J a) := by
    rw [hf]
    refine ⟨List.Nodup.sublist List.filter_sublist c.nd, fun p => ?_⟩
    rw [hdr.2, List.mem_filter, List.mem_filter, c.mem]
  refine ⟨hc, ?_⟩
  have h1 := co_len c
  have h2 := co_len hc
  have h3 : (lkL J).length = (lkL J).countP (isA a) + (lkL (drJ J a)).length := by
    rw [hdr.2, ← List.countP_eq_length_filter, List.length_eq_countP_add_countP (isA a)]
    congr 1
    apply List.countP_congr
    intro p _
    cases isA a p <;> simp
  rw [hdr.1]; omega

theorem rDrop_spec {x : SW} (H : VHeap) (q : Nat) (L : List (Int × Int)) (v : VVal) (hr : RL H q L v) (hL : L.length ≤ 1000000) (J : List (BitVec 64)) (r : Rk J) (co : CoL L J) (a : Int) : F (psys x) 72 [.ptr (some (q, 0)), iI a] H fun u G => RR H q L v (drN J a) (drJ J a) u G := by
  refine F_body Tryd.func72 rfl uS29n62 rfl ?_
  refine B_seq ?_
  refine B_region ?_
  refine L_op (env' := uS29n62) rfl rfl (v_const (VVal.int .i64 0) (.inr rfl) rfl) rfl ?_
  refine L_nil ?_
  refine K_seq ?_
  refine B_seq ?_
  refine B_region ?_
  refine L_op (env' := uS29n62) rfl rfl (v_const (VVal.slice none 0 0 true 0) (.inr rfl) rfl) rfl ?_
  refine L_nil ?_
  refine K_seq ?_
  refine B_seq ?_
  refine B_seq ?_
  refine B_region ?_
  refine L_op (env' := uS29n62) rfl rfl (v_const (VVal.int .i64 0) (.inr rfl) rfl) rfl ?_
  refine L_nil ?_
  refine K_seq ?_
  refine B_block ?_
  refine B_clear (false :: false :: true :: true :: true :: false :: false :: true :: true :: true :: true :: true :: true :: true :: true :: true :: true :: true :: true :: true :: true :: true :: true :: true :: true :: true :: true :: true :: true :: true :: true :: true :: true :: true :: true :: true :: true :: true :: true :: true :: true :: true :: true :: true :: true :: true :: true :: true :: true :: true :: true :: true :: true :: true :: true :: true :: true :: true :: true :: true :: true :: true :: []) (env' := uS29n62) rfl ?_
  refine B_loopE (fun (⟨k, lv⟩ : Nat × VVal) => L.length - k) (fun (⟨k, lv⟩ : Nat × VVal) => [(5, lv), (6, iI (k : Nat))]) (fun (⟨k, lv⟩ : Nat × VVal) G => (k ≤ L.length) ∧ ∃ X, G = H ++ X ∧ LV H.length 2 X lv ((drpL L a k).flatMap enP) (drpL L a k).length) ⟨0, _⟩ rfl ?_ ?_
  · refine ⟨?_, ⟨_, rfl, LV.nil _ _ _⟩⟩
    exact Nat.zero_le _
  rintro ⟨k, lv⟩ _ ⟨hk, ⟨X, rfl, hl⟩⟩
  refine B_env (env' := uS29n62) rfl ?_
  refine B_seq ?_
  refine B_seq ?_
  refine B_region ?_
  refine L_op (env' := uS29n62) rfl rfl (v_move (.inl rfl) rfl) rfl ?_
  refine L_op (env' := uS29n62) rfl rfl (v_move (.inl rfl) rfl) rfl ?_
  refine L_op (env' := uS29n62) rfl rfl (rfl) rfl ?_
  refine L_op (env' := uS29n62) rfl rfl (rfl) rfl ?_
  refine L_op (env' := uS29n62) rfl rfl (by first | exact v_loadF rfl rfl rfl rfl (by first | rfl | exact pairs_c0 (by omega) | exact pairs_c1 (by omega) | exact pairs_at (by omega)) | exact v_load rfl rfl rfl rfl (by first | exact get_out hr.c | exact get_out hb1 | exact get_out hb2 | exact get_out hb3) (by first | rfl | exact pairs_c0 (by omega) | exact pairs_c1 (by omega) | exact pairs_at (by omega))) rfl ?_
  refine L_op (env' := uS29n62) rfl rfl (v_len rfl rfl rfl rfl hr.l) rfl ?_
  refine L_op (env' := uS29n62) rfl rfl (rfl) rfl ?_
  refine L_nil ?_
  refine K_seq ?_
  refine B_cond _ rfl (fun hc1 => ?_) (fun hc1 => ?_)
  · try simp only [decide_eq_true_eq, decide_eq_false_iff_not, Bool.not_eq_true', Bool.not_eq_false', bne_iff_ne, beq_iff_eq, Bool.and_eq_true, Bool.or_eq_true, Bool.not_eq_true, ge_iff_le, gt_iff_lt, Int.not_le, Int.not_lt, beq_eq_false_iff_ne, bne_eq_false_iff_eq, ne_eq, Decidable.not_not, wd_zero, wd_one, wd_inj] at hc1
    refine B_skip ?_
    refine K_seq ?_
    refine B_seq ?_
    refine B_block ?_
    refine B_seq ?_
    refine B_region ?_
    refine L_op (env' := uS29n62) rfl rfl (v_move (.inl rfl) rfl) rfl ?_
    refine L_op (env' := uS29n62) rfl rfl (rfl) rfl ?_
    refine L_op (env' := uS29n62) rfl rfl (rfl) rfl ?_
    refine L_op (env' := uS29n62) rfl rfl (by first | exact v_loadF rfl rfl rfl rfl (by first | rfl | exact pairs_c0 (by omega) | exact pairs_c1 (by omega) | exact pairs_at (by omega)) | exact v_load rfl rfl rfl rfl (by first | exact get_out hr.c | exact get_out hb1 | exact get_out hb2 | exact get_out hb3) (by first | rfl | exact pairs_c0 (by omega) | exact pairs_c1 (by omega) | exact pairs_at (by omega))) rfl ?_
    refine L_op (env' := uS29n62) rfl rfl (v_move (.inl rfl) rfl) rfl ?_
    refine L_opX rfl rfl (v_idxRL rfl rfl rfl rfl rfl rfl rfl hr.l (by omega)) ?_
    rintro _ _ ⟨b1, rfl, rfl, hb1⟩
    refine L_env (env' := uS29n62) rfl ?_
    refine L_op (env' := uS29n62) rfl rfl (by first | exact v_idxFA rfl rfl rfl rfl rfl rfl (by first | assumption | omega | (simp [*]; done) | (simp at *; omega)) | exact v_idxA rfl rfl rfl rfl rfl rfl (by first | assumption | omega | (simp [*]; done) | (simp at *; omega))) rfl ?_
    refine L_op (env' := uS29n62) rfl rfl (by first | exact v_loadF rfl rfl rfl rfl (by first | rfl | exact pairs_c0 (by omega) | exact pairs_c1 (by omega) | exact pairs_at (by omega)) | exact v_load rfl rfl rfl rfl (by first | exact get_out hr.c | exact get_out hb1 | exact get_out hb2 | exact get_out hb3) (by first | rfl | exact pairs_c0 (by omega) | exact pairs_c1 (by omega) | exact pairs_at (by omega))) rfl ?_
    refine L_op (env' := uS29n62) rfl rfl (v_move (.inl rfl) rfl) rfl ?_
    refine L_op (env' := uS29n62) rfl rfl (rfl) rfl ?_
    refine L_op (env' := uS29n62) rfl rfl (v_move (.inl rfl) rfl) rfl ?_
    refine L_split 27 (env1 := uS29n62) (env2 := uS29n62) rfl rfl rfl (fun hg2 => ?_) (fun hg2 => ?_)
    · try simp only [decide_eq_true_eq, decide_eq_false_iff_not, Bool.not_eq_true', Bool.not_eq_false', bne_iff_ne, beq_iff_eq, Bool.and_eq_true, Bool.or_eq_true, Bool.not_eq_true, ge_iff_le, gt_iff_lt, Int.not_le, Int.not_lt, beq_eq_false_iff_ne, bne_eq_false_iff_eq, ne_eq, Decidable.not_not, wd_zero, wd_one, wd_inj] at hg2
      refine L_op (env' := uS29n62) rfl rfl (v_move (.inl rfl) rfl) rfl ?_
      refine L_op (env' := uS29n62) rfl rfl (rfl) rfl ?_
      refine L_op (env' := uS29n62) rfl rfl (rfl) rfl ?_
      refine L_op (env' := uS29n62) rfl rfl (by first | exact v_loadF rfl rfl rfl rfl (by first | rfl | exact pairs_c0 (by omega) | exact pairs_c1 (by omega) | exact pairs_at (by omega)) | exact v_load rfl rfl rfl rfl (by first | exact get_out hr.c | exact get_out hb1 | exact get_out hb2 | exact get_out hb3) (by first | rfl | exact pairs_c0 (by omega) | exact pairs_c1 (by omega) | exact pairs_at (by omega))) rfl ?_
      refine L_op (env' := uS29n62) rfl rfl (v_move (.inl rfl) rfl) rfl ?_
      refine L_opX rfl rfl (v_idxRL rfl rfl rfl rfl rfl rfl rfl hr.l (by omega)) ?_
      rintro _ _ ⟨b2, rfl, rfl, hb2⟩
      refine L_env (env' := uS29n62) rfl ?_
      refine L_op (env' := uS29n62) rfl rfl (by first | exact v_idxFA rfl rfl rfl rfl rfl rfl (by first | assumption | omega | (simp [*]; done) | (simp at *; omega)) | exact v_idxA rfl rfl rfl rfl rfl rfl (by first | assumption | omega | (simp [*]; done) | (simp at *; omega))) rfl ?_
      refine L_op (env' := uS29n62) rfl rfl (by first | exact v_loadF rfl rfl rfl rfl (by first | rfl | exact pairs_c0 (by omega) | exact pairs_c1 (by omega) | exact pairs_at (by omega)) | exact v_load rfl rfl rfl rfl (by first | exact get_out hr.c | exact get_out hb1 | exact get_out hb2 | exact get_out hb3) (by first | rfl | exact pairs_c0 (by omega) | exact pairs_c1 (by omega) | exact pairs_at (by omega))) rfl ?_
      refine L_op (env' := uS29n62) rfl rfl (v_move (.inl rfl) rfl) rfl ?_
      refine L_op (env' := uS29n62) rfl rfl (rfl) rfl ?_
      refine L_op (env' := uS29n62) rfl rfl (v_pickT rfl rfl rfl) rfl ?_
      refine L_nil ?_
      refine K_seq ?_
      refine B_cond _ rfl (fun hc3 => ?_) (fun hc3 => ?_)
      · try simp only [decide_eq_true_eq, decide_eq_false_iff_not, Bool.not_eq_true', Bool.not_eq_false', bne_iff_ne, beq_iff_eq, Bool.and_eq_true, Bool.or_eq_true, Bool.not_eq_true, ge_iff_le, gt_iff_lt, Int.not_le, Int.not_lt, beq_eq_false_iff_ne, bne_eq_false_iff_eq, ne_eq, Decidable.not_not, wd_zero, wd_one, wd_inj] at hc3
        refine B_region ?_
        refine L_op (env' := uS29n62) rfl rfl (v_move (.inl rfl) rfl) rfl ?_
        refine L_op (env' := uS29n62) rfl rfl (v_move (.inl rfl) rfl) rfl ?_
        refine L_op (env' := uS29n62) rfl rfl (rfl) rfl ?_
        refine L_op (env' := uS29n62) rfl rfl (rfl) rfl ?_
        refine L_op (env' := uS29n62) rfl rfl (by first | exact v_loadF rfl rfl rfl rfl (by first | rfl | exact pairs_c0 (by omega) | exact pairs_c1 (by omega) | exact pairs_at (by omega)) | exact v_load rfl rfl rfl rfl (by first | exact get_out hr.c | exact get_out hb1 | exact get_out hb2 | exact get_out hb3) (by first | rfl | exact pairs_c0 (by omega) | exact pairs_c1 (by omega) | exact pairs_at (by omega))) rfl ?_
        refine L_op (env' := uS29n62) rfl rfl (v_move (.inl rfl) rfl) rfl ?_
        refine L_opX rfl rfl (v_idxRL rfl rfl rfl rfl rfl rfl rfl hr.l (by omega)) ?_
        rintro _ _ ⟨b3, rfl, rfl, hb3⟩
        refine L_env (env' := uS29n62) rfl ?_
        refine L_op (env' := uS29n62) rfl rfl (by first | exact v_loadFA rfl rfl rfl rfl (by first | rfl | exact pairs_c0 (by omega) | exact pairs_c1 (by omega) | exact pairs_at (by omega)) | exact v_loadA rfl rfl rfl rfl (by first | exact get_out hr.c | exact get_out hb1 | exact get_out hb2 | exact get_out hb3) (by first | rfl | exact pairs_c0 (by omega) | exact pairs_c1 (by omega) | exact pairs_at (by omega))) rfl ?_
        refine L_op (env' := uS29n62) rfl rfl (v_buildSlice rfl rfl (by decide) rfl) rfl ?_
        refine L_opX rfl rfl (v_appX rfl rfl rfl rfl rfl rfl rfl hl rfl rfl (by decide) (by have := drpL_le (L := L) (a := a) (k := k); show (_ + 1) * 16 ≤ _ ∧ _ + 1 ≤ _; omega) (by decide)) ?_
        rintro _ _ ⟨Y1, rfl, rfl, hY1, hY2, hY3⟩
        refine L_env (env' := uS29n62) rfl ?_
        refine L_op (env' := uS29n62) rfl rfl (v_move (.inr rfl) rfl) rfl ?_
        refine L_nil ?_
        refine K_blk ?_
        refine K_seq ?_
        refine B_region ?_
        refine L_op (env' := uS29n62) rfl rfl (v_move (.inl rfl) rfl) rfl ?_
        refine L_op (env' := uS29n62) rfl rfl (v_addI rfl rfl rfl (by first | assumption | omega | (simp [*]; done) | (simp at *; omega))) rfl ?_
        refine L_op (env' := uS29n62) rfl rfl (v_move (.inr rfl) rfl) rfl ?_
        refine L_nil ?_
        refine K_loop (false :: false :: true :: true :: true :: false :: false :: true :: true :: true :: true :: true :: true :: true :: true :: true :: true :: true :: true :: true :: true :: true :: true :: true :: true :: true :: true :: true :: true :: true :: true :: true :: true :: true :: true :: true :: true :: true :: true :: true :: true :: true :: true :: true :: true :: true :: true :: true :: true :: true :: true :: true :: true :: true :: true :: true :: true :: true :: true :: true :: true :: true :: []) (env' := uS29n62) rfl ⟨⟨k + 1, _⟩, ?_, rfl, ?_⟩
        · first | omega | (simp only []; omega)
        · first | exact ⟨by omega, _, rfl, by rw [drpL_yes (by omega) (by assumption) (by assumption)]; exact LV.pair hY3⟩ | exact ⟨by omega, _, rfl, by rw [drpL_no (by omega) (by first | exact .inl (by assumption) | exact .inr (by assumption))]; exact hl⟩
      · try simp only [decide_eq_true_eq, decide_eq_false_iff_not, Bool.not_eq_true', Bool.not_eq_false', bne_iff_ne, beq_iff_eq, Bool.and_eq_true, Bool.or_eq_true, Bool.not_eq_true, ge_iff_le, gt_iff_lt, Int.not_le, Int.not_lt, beq_eq_false_iff_ne, bne_eq_false_iff_eq, ne_eq, Decidable.not_not, wd_zero, wd_one, wd_inj] at hc3
        refine B_skip ?_
        refine K_blk ?_
        refine K_seq ?_
        refine B_region ?_
        refine L_op (env' := uS29n62) rfl rfl (v_move (.inl rfl) rfl) rfl ?_
        refine L_op (env' := uS29n62) rfl rfl (v_addI rfl rfl rfl (by first | assumption | omega | (simp [*]; done) | (simp at *; omega))) rfl ?_
        refine L_op (env' := uS29n62) rfl rfl (v_move (.inr rfl) rfl) rfl ?_
        refine L_nil ?_
        refine K_loop (false :: false :: true :: true :: true :: false :: false :: true :: true :: true :: true :: true :: true :: true :: true :: true :: true :: true :: true :: true :: true :: true :: true :: true :: true :: true :: true :: true :: true :: true :: true :: true :: true :: true :: true :: true :: true :: true :: true :: true :: true :: true :: true :: true :: true :: true :: true :: true :: true :: true :: true :: true :: true :: true :: true :: true :: true :: true :: true :: true :: true :: true :: []) (env' := uS29n62) rfl ⟨⟨k + 1, _⟩, ?_, rfl, ?_⟩
        · first | omega | (simp only []; omega)
        · first | exact ⟨by omega, _, rfl, by rw [drpL_yes (by omega) (by assumption) (by assumption)]; exact LV.pair hY3⟩ | exact ⟨by omega, _, rfl, by rw [drpL_no (by omega) (by first | exact .inl (by assumption) | exact .inr (by assumption))]; exact hl⟩
    · try simp only [decide_eq_true_eq, decide_eq_false_iff_not, Bool.not_eq_true', Bool.not_eq_false', bne_iff_ne, beq_iff_eq, Bool.and_eq_true, Bool.or_eq_true, Bool.not_eq_true, ge_iff_le, gt_iff_lt, Int.not_le, Int.not_lt, beq_eq_false_iff_ne, bne_eq_false_iff_eq, ne_eq, Decidable.not_not, wd_zero, wd_one, wd_inj] at hg2
      refine L_off (env' := uS29n62) rfl rfl ?_
      refine L_off (env' := uS29n62) rfl rfl ?_
      refine L_off (env' := uS29n62) rfl rfl ?_
      refine L_off (env' := uS29n62) rfl rfl ?_
      refine L_off (env' := uS29n62) rfl rfl ?_
      refine L_off (env' := uS29n62) rfl rfl ?_
      refine L_off (env' := uS29n62) rfl rfl ?_
      refine L_off (env' := uS29n62) rfl rfl ?_
      refine L_off (env' := uS29n62) rfl rfl ?_
      refine L_off (env' := uS29n62) rfl rfl ?_
      refine L_op (env' := uS29n62) rfl rfl (v_pickFC (VVal.bool false) rfl rfl rfl) rfl ?_
      refine L_nil ?_
      refine K_seq ?_
      refine B_false rfl rfl ?_
      refine B_skip ?_
      refine K_blk ?_
      refine K_seq ?_
      refine B_region ?_
      refine L_op (env' := uS29n62) rfl rfl (v_move (.inl rfl) rfl) rfl ?_
      refine L_op (env' := uS29n62) rfl rfl (v_addI rfl rfl rfl (by first | assumption | omega | (simp [*]; done) | (simp at *; omega))) rfl ?_
      refine L_op (env' := uS29n62) rfl rfl (v_move (.inr rfl) rfl) rfl ?_
      refine L_nil ?_
      refine K_loop (false :: false :: true :: true :: true :: false :: false :: true :: true :: true :: true :: true :: true :: true :: true :: true :: true :: true :: true :: true :: true :: true :: true :: true :: true :: true :: true :: true :: true :: true :: true :: true :: true :: true :: true :: true :: true :: true :: true :: true :: true :: true :: true :: true :: true :: true :: true :: true :: true :: true :: true :: true :: true :: true :: true :: true :: true :: true :: true :: true :: true :: true :: []) (env' := uS29n62) rfl ⟨⟨k + 1, _⟩, ?_, rfl, ?_⟩
      · first | omega | (simp only []; omega)
      · first | exact ⟨by omega, _, rfl, by rw [drpL_yes (by omega) (by assumption) (by assumption)]; exact LV.pair hY3⟩ | exact ⟨by omega, _, rfl, by rw [drpL_no (by omega) (by first | exact .inl (by assumption) | exact .inr (by assumption))]; exact hl⟩
  · try simp only [decide_eq_true_eq, decide_eq_false_iff_not, Bool.not_eq_true', Bool.not_eq_false', bne_iff_ne, beq_iff_eq, Bool.and_eq_true, Bool.or_eq_true, Bool.not_eq_true, ge_iff_le, gt_iff_lt, Int.not_le, Int.not_lt, beq_eq_false_iff_ne, bne_eq_false_iff_eq, ne_eq, Decidable.not_not, wd_zero, wd_one, wd_inj] at hc1
    refine B_exit ?_
    refine K_seqX ?_
    refine K_loopX ?_
    refine K_blkX ?_
    refine K_seq ?_
    refine B_seq ?_
    refine B_region ?_
    refine L_op (env' := uS29n62) rfl rfl (v_move (.inl rfl) rfl) rfl ?_
    refine L_op (env' := uS29n62) rfl rfl (rfl) rfl ?_
    refine L_op (env' := uS29n62) rfl rfl (rfl) rfl ?_
    refine L_op (env' := uS29n62) rfl rfl (by first | exact v_loadF rfl rfl rfl rfl (by first | rfl | exact pairs_c0 (by omega) | exact pairs_c1 (by omega) | exact pairs_at (by omega)) | exact v_load rfl rfl rfl rfl (by first | exact get_out hr.c | exact get_out hb1 | exact get_out hb2 | exact get_out hb3) (by first | rfl | exact pairs_c0 (by omega) | exact pairs_c1 (by omega) | exact pairs_at (by omega))) rfl ?_
    refine L_op (env' := uS29n62) rfl rfl (v_len rfl rfl rfl rfl hr.l) rfl ?_
    refine L_op (env' := uS29n62) rfl rfl (v_move (.inl rfl) rfl) rfl ?_
    refine L_op (env' := uS29n62) rfl rfl (v_len rfl rfl rfl rfl hl) rfl ?_
    refine L_op (env' := uS29n62) rfl rfl (v_subI rfl rfl rfl (by have := drpL_le (L := L) (a := a) (k := k); omega)) rfl ?_
    refine L_op (env' := uS29n62) rfl rfl (v_move (.inr rfl) rfl) rfl ?_
    refine L_nil ?_
    refine K_seq ?_
    refine B_seq ?_
    refine B_region ?_
    refine L_op (env' := uS29n62) rfl rfl (v_move (.inl rfl) rfl) rfl ?_
    refine L_op (env' := uS29n62) rfl rfl (v_move (.inl rfl) rfl) rfl ?_
    refine L_op (env' := uS29n62) rfl rfl (rfl) rfl ?_
    refine L_op (env' := uS29n62) rfl rfl (rfl) rfl ?_
    refine L_op (env' := uS29n62) rfl rfl (v_storeT rfl rfl rfl rfl (LV.cells hl) rfl (by simp [LV.one hl]) (get_out hr.c) (Nat.le_refl 1) rfl) rfl ?_
    refine L_nil ?_
    refine K_seq ?_
    refine B_seq ?_
    refine B_region ?_
    refine L_op (env' := uS29n62) rfl rfl (v_move (.inl rfl) rfl) rfl ?_
    refine L_op (env' := uS29n62) rfl rfl (v_move (.inr rfl) rfl) rfl ?_
    refine L_nil ?_
    refine K_seq ?_
    refine B_ret ?_
    refine E_keep (.inr rfl) (vres_tmp rfl rfl) ?_
    have hkL : k = L.length := (by omega)
    subst hkL
    have hrl := rl_new hr hl
    have hcd := co_drop co r (a := a)
    exact ⟨congrArg iI hcd.2, _, _, hrl.1, hcd.1, Nat.le_succ_of_le drpL_le, hrl.2⟩
end Go.Proofs.YteocbhgdmpdklaaDoor.VT
