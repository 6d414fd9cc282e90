/- the reference's matchings: a try; walk -/
import Derived.Test.YtpekleeidllllaaDoorS6
import Derived.Test.YtpekleeidllllaaDoorP15
set_option autoImplicit false
set_option linter.unusedVariables false
set_option linter.unusedSimpArgs false
set_option maxHeartbeats 4000000
set_option maxRecDepth 100000
namespace Go.Proofs.YtpekleeidllllaaDoor.VT
open Go Go.V Go.RowKit

abbrev uS7n69 {a0 a1 a2 a3 a4 a5 a6 a7 a8 a9 a10 a11 a12 a13 a14 a15 a16 a17 a18 a19 a20 a21 a22 a23 a24 a25 a26 a27 a28 a29 a30 a31 a32 a33 a34 a35 a36 a37 a38 a39 a40 a41 a42 a43 a44 a45 a46 a47 a48 a49 a50 a51 a52 a53 a54 a55 a56 a57 a58 a59 a60 a61 a62 a63 a64 a65 a66 a67 a68 : VVal} : VEnv := a0 :: a1 :: a2 :: a3 :: a4 :: a5 :: a6 :: a7 :: a8 :: a9 :: a10 :: a11 :: a12 :: a13 :: a14 :: a15 :: a16 :: a17 :: a18 :: a19 :: a20 :: a21 :: a22 :: a23 :: a24 :: a25 :: a26 :: a27 :: a28 :: a29 :: a30 :: a31 :: a32 :: a33 :: a34 :: a35 :: a36 :: a37 :: a38 :: a39 :: a40 :: a41 :: a42 :: a43 :: a44 :: a45 :: a46 :: a47 :: a48 :: a49 :: a50 :: a51 :: a52 :: a53 :: a54 :: a55 :: a56 :: a57 :: a58 :: a59 :: a60 :: a61 :: a62 :: a63 :: a64 :: a65 :: a66 :: a67 :: a68 :: []

/-- the rows' places, the places that were met -/
abbrev haB (has : List Int) : VBlk := .cells (has.map iI) true
def trH (H : VHeap) (p q : Nat) (s : HSt) : VHeap := (H.set p (haB s.1)).set q (seB s.2)
section
variable {H L : VHeap} {p q : Nat} {s : HSt}
theorem trH_len {n : Nat} (h : H.length = n) : (trH H p q s).length = n := by unfold trH; rw [List.length_set, List.length_set]; exact h
theorem trH_id {has : List Int} {w : BitVec 64} (hp : H[p]? = some (haB has)) (hq : H[q]? = some (seB w)) : trH H p q (has, w) = H := by
  unfold trH; rw [← set_keep hp, ← set_keep hq]
theorem tr_q (hq : q < H.length) : (trH H p q s ++ L)[q]? = some (seB s.2) := by
  unfold trH; exact get_append (List.getElem?_set_self (by rw [List.length_set]; exact hq))
theorem tr_p (hp : p < H.length) (hpq : p ≠ q) : (trH H p q s ++ L)[p]? = some (haB s.1) := by
  unfold trH; exact get_append (by rw [List.getElem?_set_ne (Ne.symm hpq)]; exact List.getElem?_set_self hp)
theorem tr_setq {w : BitVec 64} (hq : q < H.length) : (trH H p q s ++ L).set q (seB w) = trH H p q (s.1, w) ++ L := by
  rw [set_out (by rw [trH_len rfl]; exact hq)]; unfold trH; rw [List.set_set]
theorem tr_setp0 {k : VBlk} (hp : p < H.length) (hpq : p ≠ q) : (trH H p q s ++ L).set p k = (H.set p k).set q (seB s.2) ++ L := by
  rw [set_out (by rw [trH_len rfl]; exact hp)]; unfold trH
  rw [List.set_comm _ _ (Ne.symm hpq), List.set_set]
theorem splice_i {l : List Int} {k : Nat} {r : Int} (h : k < l.length) : splice (l.map iI) (0 + k * 1) [iI r] = (l.set k r).map iI := by
  rw [show 0 + k * 1 = k by omega]
  unfold splice
  rw [List.map_set, List.set_eq_take_append_cons_drop, if_pos (by rw [List.length_map]; exact h)]; simp
theorem tr_setp {i : Nat} {r : Int} (hp : p < H.length) (hpq : p ≠ q) (hi : i < s.1.length) : (trH H p q s ++ L).set p (.cells (splice (s.1.map iI) (0 + i * 1) [iI r]) true) = trH H p q (s.1.set i r, s.2) ++ L := by
  rw [splice_i hi, tr_setp0 hp hpq]; rfl
theorem tr_tr {t : HSt} (hp : p < H.length) (hq : q < H.length) (hpq : p ≠ q) : trH (trH H p q s ++ L) p q t = trH H p q t ++ L := by
  have : trH (trH H p q s ++ L) p q t = ((trH H p q s ++ L).set p (haB t.1)).set q (seB t.2) := rfl
  rw [this, tr_setp0 hp hpq, set_out (by simp; exact hq), List.set_set]; rfl
theorem tr_base : BaseOk H (trH H p q s) := BaseOk.set (BaseOk.set (BaseOk.refl _) _ (by show VVal.underL _ (s.1.map iI) = true; exact mapI_under _ _)) _ rfl
theorem has_len {i : Nat} {v : VVal} (h : i < s.1.length) : 0 + i * 1 + [v].length ≤ (s.1.map iI).length := by
  show 0 + i * 1 + 1 ≤ (s.1.map iI).length
  rw [List.length_map]; omega
end
theorem trn_len {rows : List (BitVec 64)} : ∀ {n i : Nat} {s : HSt}, (trn rows n i s).2.1.length = s.1.length := by
  have hL : ∀ (g : Nat → HSt → Bool × HSt), (∀ k s, (g k s).2.1.length = s.1.length) → ∀ (i : Nat) (l : List Nat) (s : HSt), (trL g rows i l s).2.1.length = s.1.length := by
    intro g hg i l
    induction l with
    | nil => intro s; rfl
    | cons u l ih =>
      intro s
      rw [trL]
      split
      · exact ih s
      · split
        · simp
        · split
          · simp [hg]
          · rw [ih, hg]
  intro n
  induction n with
  | zero => intro i s; rfl
  | succ n ih => intro i s; rw [trn]; exact hL _ (fun k s => ih) i _ s
theorem trn_sub {rows : List (BitVec 64)} : ∀ {n i : Nat} {s : HSt}, subW s.2 (trn rows n i s).2.2 := by
  have hL : ∀ (g : Nat → HSt → Bool × HSt), (∀ k s, subW s.2 (g k s).2.2) → ∀ (i : Nat) (l : List Nat) (s : HSt), (∀ u, u ∈ l → u < 64) → subW s.2 (trL g rows i l s).2.2 := by
    intro g hg i l
    induction l with
    | nil => intro s _ _ h; exact h
    | cons u l ih =>
      intro s hl
      have hu := hl u (List.mem_cons_self ..)
      have hl' : ∀ v, v ∈ l → v < 64 := fun v hv => hl v (List.mem_cons_of_mem _ hv)
      have h1 : subW s.2 (s.2 ||| 1#64 <<< u) := fun a ha => (or1 hu).2 (.inl ha)
      have h2 := hg (fndK s.1 u) (s.1, s.2 ||| 1#64 <<< u)
      rw [trL]
      split
      · exact ih s hl'
      · split
        · exact h1
        · split
          · exact fun a ha => h2 a (h1 a ha)
          · exact fun a ha => ih _ hl' a (h2 a (h1 a ha))
  intro n
  induction n with
  | zero => intro i s _ h; exact h
  | succ n ih => intro i s; rw [trn]; exact hL _ (fun k s => ih) i _ s fun u hu => List.mem_range.1 hu
theorem sh_not0 {d : BitVec 64} {k : Nat} (h : ¬ d >>> k &&& 1#64 = 0#64) : d.getLsbD k = true := by rw [sh0] at h; simpa using h
theorem trL_range {g : Nat → HSt → Bool × HSt} {rows : List (BitVec 64)} {i u : Nat} {s : HSt} (hu : u < 64) : trL g rows i ((List.range 64).drop u) s = if (rows.getD i 0).getLsbD u = false ∨ s.2.getLsbD u = true then trL g rows i ((List.range 64).drop (u + 1)) s
    else if fndK s.1 u = s.1.length then (true, (s.1.set i (u : Int), s.2 ||| 1#64 <<< u))
    else if (g (fndK s.1 u) (s.1, s.2 ||| 1#64 <<< u)).1 = true then (true, ((g (fndK s.1 u) (s.1, s.2 ||| 1#64 <<< u)).2.1.set i (u : Int), (g (fndK s.1 u) (s.1, s.2 ||| 1#64 <<< u)).2.2))
    else trL g rows i ((List.range 64).drop (u + 1)) (g (fndK s.1 u) (s.1, s.2 ||| 1#64 <<< u)).2 := by
  rw [List.drop_eq_getElem_cons (by simpa using hu), trL]; simp only [List.getElem_range]

theorem turn_in {x : SW} {p q n : Nat} {ex : Bool} {rows : List (BitVec 64)} (hpq : p ≠ q) (ih : ∀ (H : VHeap) (i : Nat) (has : List Int) (S : BitVec 64), H[p]? = some (haB has) → H[q]? = some (seB S) → i < rows.length → has.length = rows.length → 64 - come 64 S < n → F (psys x) 34 [fzW rows, .slice (some (p, 0)) rows.length rows.length ex 1, .ptr (some (q, 0)), iI (i : Nat)] H fun v G => v = .bool (trn rows n i (has, S)).1 ∧ G = trH H p q (trn rows n i (has, S)).2) (H L : VHeap) (s : HSt) (hp : p < H.length) (hq : q < H.length) (i : Nat) (hi : i < rows.length) (hk : s.1.length = rows.length) (hm : 64 - come 64 s.2 < n) :
    F (psys x) 34 [fzW rows, .slice (some (p, 0)) rows.length rows.length ex 1, .ptr (some (q, 0)), iI (i : Nat)] (trH H p q s ++ L) fun v G => v = .bool (trn rows n i s).1 ∧ G = trH H p q (trn rows n i s).2 ++ L := by
  have := ih (trH H p q s ++ L) i s.1 s.2 (tr_p hp hpq) (tr_q hq) hi hk hm
  rw [tr_tr hp hq hpq] at this
  exact this

theorem turn_s {x : SW} (p q n : Nat) (ex : Bool) (rows : List (BitVec 64)) (hpq : p ≠ q) (h62 : rows.length ≤ 1000000) (ih : ∀ (H : VHeap) (i : Nat) (has : List Int) (S : BitVec 64), H[p]? = some (haB has) → H[q]? = some (seB S) → i < rows.length → has.length = rows.length → 64 - come 64 S < n → F (psys x) 34 [fzW rows, .slice (some (p, 0)) rows.length rows.length ex 1, .ptr (some (q, 0)), iI (i : Nat)] H fun v G => v = .bool (trn rows n i (has, S)).1 ∧ G = trH H p q (trn rows n i (has, S)).2) (H : VHeap) (i : Nat) (has : List Int) (S : BitVec 64) (hp : H[p]? = some (haB has)) (hq : H[q]? = some (seB S)) (hi : i < rows.length) (hhl : has.length = rows.length) (hm : 64 - come 64 S < n + 1) : F (psys x) 34 [fzW rows, .slice (some (p, 0)) rows.length rows.length ex 1, .ptr (some (q, 0)), iI (i : Nat)] H fun v G => v = .bool (trn rows (n + 1) i (has, S)).1 ∧ G = trH H p q (trn rows (n + 1) i (has, S)).2 := by
  have hpH := lt_of_get hp
  have hqH := lt_of_get hq
  refine F_body Tryd.func34 rfl uS7n69 rfl ?_
  refine B_seq ?_
  refine B_region ?_
  refine L_op (env' := uS7n69) rfl rfl (v_const (VVal.bool false) (.inr rfl) rfl) rfl ?_
  refine L_nil ?_
  refine K_seq ?_
  refine B_seq ?_
  refine B_seq ?_
  refine B_region ?_
  refine L_op (env' := uS7n69) rfl rfl (v_const (VVal.int .i64 0) (.inr rfl) rfl) rfl ?_
  refine L_nil ?_
  refine K_seq ?_
  refine B_block ?_
  refine B_clear (false :: false :: false :: false :: true :: true :: true :: true :: true :: false :: true :: true :: true :: true :: true :: true :: true :: true :: true :: true :: true :: true :: true :: true :: true :: true :: true :: true :: true :: true :: true :: true :: true :: true :: true :: true :: true :: true :: true :: true :: true :: true :: true :: true :: true :: true :: true :: true :: true :: true :: true :: true :: true :: true :: true :: true :: true :: true :: true :: true :: true :: true :: true :: true :: true :: true :: true :: true :: true :: []) (env' := uS7n69) rfl ?_
  refine B_loopE (fun (⟨u, s1⟩ : Nat × HSt) => 64 - u) (fun (⟨u, s1⟩ : Nat × HSt) => [(9, iI (u : Nat))]) (fun (⟨u, s1⟩ : Nat × HSt) G => (u ≤ 64 ∧ s1.1.length = rows.length ∧ 64 - come 64 s1.2 ≤ n ∧ trn rows (n + 1) i (has, S) = trL (trn rows n) rows i ((List.range 64).drop u) s1) ∧ G = trH H p q s1 ++ []) ⟨0, (has, S)⟩ rfl ?_ ?_
  · refine ⟨?_, (by rw [trH_id hp hq])⟩
    exact ⟨Nat.zero_le _, hhl, by show 64 - come 64 S ≤ n; omega, rfl⟩
  rintro ⟨u, s1⟩ _ ⟨⟨hu, hl1, hcm, hg⟩, rfl⟩
  refine B_env (env' := uS7n69) rfl ?_
  have hil : i < s1.1.length := by omega
  refine B_seq ?_
  refine B_seq ?_
  refine B_region ?_
  refine L_op (env' := uS7n69) rfl rfl (v_move (.inl rfl) rfl) rfl ?_
  refine L_op (env' := uS7n69) rfl rfl (rfl) rfl ?_
  refine L_nil ?_
  refine K_seq ?_
  refine B_cond _ rfl (fun hc1 => ?_) (fun hc1 => ?_)
  · try simp only [decide_eq_true_eq, decide_eq_false_iff_not, Bool.not_eq_true', Bool.not_eq_false', bne_iff_ne, beq_iff_eq, Bool.and_eq_true, Bool.or_eq_true, Bool.not_eq_true, ge_iff_le, gt_iff_lt, Int.not_le, Int.not_lt, beq_eq_false_iff_ne, bne_eq_false_iff_eq, ne_eq, Decidable.not_not, wd_zero, wd_one, wd_inj] at hc1
    refine B_skip ?_
    refine K_seq ?_
    refine B_seq ?_
    refine B_block ?_
    refine B_seq ?_
    refine B_seq ?_
    refine B_region ?_
    refine L_op (env' := uS7n69) rfl rfl (v_move (.inl rfl) rfl) rfl ?_
    refine L_op (env' := uS7n69) rfl rfl (v_move (.inl rfl) rfl) rfl ?_
    refine L_op (env' := uS7n69) rfl rfl (by first | exact v_idxF rfl rfl rfl rfl rfl rfl rfl (by first | assumption | omega | (simp [*]; done) | (simp at *; omega)) | exact v_idx rfl rfl rfl rfl rfl rfl rfl (by first | assumption | omega | (simp [*]; done) | (simp at *; omega))) rfl ?_
    refine L_op (env' := uS7n69) rfl rfl (by first | exact v_loadF rfl rfl rfl rfl (by first | exact fget (α := BitVec 64) 0 (by omega) | exact fget0 (α := Int) 0 (by omega) | rfl) | exact v_load rfl rfl rfl rfl (by first | exact tr_q hqH | exact tr_p hpH hpq) (by first | exact fget (α := BitVec 64) 0 (by omega) | exact fget0 (α := Int) 0 (by omega) | rfl)) rfl ?_
    refine L_op (env' := uS7n69) rfl rfl (v_move (.inl rfl) rfl) rfl ?_
    refine L_op (env' := uS7n69) rfl rfl (v_shrW rfl rfl rfl (by first | assumption | omega | (simp [*]; done) | (simp at *; omega))) rfl ?_
    refine L_op (env' := uS7n69) rfl rfl (v_andW (b := 1#64) rfl rfl rfl) rfl ?_
    refine L_op (env' := uS7n69) rfl rfl (rfl) rfl ?_
    refine L_op (env' := uS7n69) rfl rfl (v_move (.inl rfl) rfl) rfl ?_
    refine L_split 23 (env1 := uS7n69) (env2 := uS7n69) rfl rfl rfl (fun hg2 => ?_) (fun hg2 => ?_)
    · try simp only [decide_eq_true_eq, decide_eq_false_iff_not, Bool.not_eq_true', Bool.not_eq_false', bne_iff_ne, beq_iff_eq, Bool.and_eq_true, Bool.or_eq_true, Bool.not_eq_true, ge_iff_le, gt_iff_lt, Int.not_le, Int.not_lt, beq_eq_false_iff_ne, bne_eq_false_iff_eq, ne_eq, Decidable.not_not, wd_zero, wd_one, wd_inj] at hg2
      refine L_off (env' := uS7n69) rfl rfl ?_
      refine L_off (env' := uS7n69) rfl rfl ?_
      refine L_off (env' := uS7n69) rfl rfl ?_
      refine L_off (env' := uS7n69) rfl rfl ?_
      refine L_off (env' := uS7n69) rfl rfl ?_
      refine L_off (env' := uS7n69) rfl rfl ?_
      refine L_off (env' := uS7n69) rfl rfl ?_
      refine L_op (env' := uS7n69) rfl rfl (v_pickTC (VVal.bool true) rfl rfl rfl) rfl ?_
      refine L_nil ?_
      refine K_seq ?_
      refine B_true rfl rfl ?_
      refine B_exit ?_
      refine K_seqX ?_
      refine K_blkX ?_
      refine K_seq ?_
      refine B_region ?_
      refine L_op (env' := uS7n69) rfl rfl (v_move (.inl rfl) rfl) rfl ?_
      refine L_op (env' := uS7n69) rfl rfl (v_addI rfl rfl rfl (by first | assumption | omega | (simp [*]; done) | (simp at *; omega))) rfl ?_
      refine L_op (env' := uS7n69) rfl rfl (v_move (.inr rfl) rfl) rfl ?_
      refine L_nil ?_
      refine K_loop (false :: false :: false :: false :: true :: true :: true :: true :: true :: false :: true :: true :: true :: true :: true :: true :: true :: true :: true :: true :: true :: true :: true :: true :: true :: true :: true :: true :: true :: true :: true :: true :: true :: true :: true :: true :: true :: true :: true :: true :: true :: true :: true :: true :: true :: true :: true :: true :: true :: true :: true :: true :: true :: true :: true :: true :: true :: true :: true :: true :: true :: true :: true :: true :: true :: true :: true :: true :: true :: []) (env' := uS7n69) rfl ⟨⟨u + 1, s1⟩, ?_, rfl, ?_⟩
      · first | omega | (simp only []; omega)
      · first | exact ⟨⟨by omega, hl1, hcm, by rw [hg, trL_range (by omega), if_pos (.inl (sh0.1 (by assumption)))]⟩, rfl⟩ | exact ⟨⟨by omega, hl1, hcm, by rw [hg, trL_range (by omega), if_pos (.inr (sh1.1 (by assumption)))]⟩, rfl⟩ | exact ⟨⟨by omega, trn_len.trans hl1, (by have := come_le2 (trn_sub (rows := rows) (n := n) (i := k) (s := (s1.1, s1.2 ||| 1#64 <<< u))); show 64 - come 64 (trn rows n k (s1.1, s1.2 ||| 1#64 <<< u)).2.2 ≤ n; simp only at this; omega), by rw [hg, hf, if_neg (by omega), if_neg (not_of_f (by assumption))]⟩, rfl⟩
    · try simp only [decide_eq_true_eq, decide_eq_false_iff_not, Bool.not_eq_true', Bool.not_eq_false', bne_iff_ne, beq_iff_eq, Bool.and_eq_true, Bool.or_eq_true, Bool.not_eq_true, ge_iff_le, gt_iff_lt, Int.not_le, Int.not_lt, beq_eq_false_iff_ne, bne_eq_false_iff_eq, ne_eq, Decidable.not_not, wd_zero, wd_one, wd_inj] at hg2
      refine L_op (env' := uS7n69) rfl rfl (v_move (.inl rfl) rfl) rfl ?_
      refine L_op (env' := uS7n69) rfl rfl (rfl) rfl ?_
      refine L_op (env' := uS7n69) rfl rfl (by first | exact v_loadF rfl rfl rfl rfl (by first | exact fget (α := BitVec 64) 0 (by omega) | exact fget0 (α := Int) 0 (by omega) | rfl) | exact v_load rfl rfl rfl rfl (by first | exact tr_q hqH | exact tr_p hpH hpq) (by first | exact fget (α := BitVec 64) 0 (by omega) | exact fget0 (α := Int) 0 (by omega) | rfl)) rfl ?_
      refine L_op (env' := uS7n69) rfl rfl (v_move (.inl rfl) rfl) rfl ?_
      refine L_op (env' := uS7n69) rfl rfl (v_shrW rfl rfl rfl (by first | assumption | omega | (simp [*]; done) | (simp at *; omega))) rfl ?_
      refine L_op (env' := uS7n69) rfl rfl (v_andW (b := 1#64) rfl rfl rfl) rfl ?_
      refine L_op (env' := uS7n69) rfl rfl (rfl) rfl ?_
      refine L_op (env' := uS7n69) rfl rfl (v_pickF rfl rfl rfl) rfl ?_
      refine L_nil ?_
      refine K_seq ?_
      refine B_cond _ rfl (fun hc3 => ?_) (fun hc3 => ?_)
      · try simp only [decide_eq_true_eq, decide_eq_false_iff_not, Bool.not_eq_true', Bool.not_eq_false', bne_iff_ne, beq_iff_eq, Bool.and_eq_true, Bool.or_eq_true, Bool.not_eq_true, ge_iff_le, gt_iff_lt, Int.not_le, Int.not_lt, beq_eq_false_iff_ne, bne_eq_false_iff_eq, ne_eq, Decidable.not_not, wd_zero, wd_one, wd_inj] at hc3
        refine B_exit ?_
        refine K_seqX ?_
        refine K_blkX ?_
        refine K_seq ?_
        refine B_region ?_
        refine L_op (env' := uS7n69) rfl rfl (v_move (.inl rfl) rfl) rfl ?_
        refine L_op (env' := uS7n69) rfl rfl (v_addI rfl rfl rfl (by first | assumption | omega | (simp [*]; done) | (simp at *; omega))) rfl ?_
        refine L_op (env' := uS7n69) rfl rfl (v_move (.inr rfl) rfl) rfl ?_
        refine L_nil ?_
        refine K_loop (false :: false :: false :: false :: true :: true :: true :: true :: true :: false :: true :: true :: true :: true :: true :: true :: true :: true :: true :: true :: true :: true :: true :: true :: true :: true :: true :: true :: true :: true :: true :: true :: true :: true :: true :: true :: true :: true :: true :: true :: true :: true :: true :: true :: true :: true :: true :: true :: true :: true :: true :: true :: true :: true :: true :: true :: true :: true :: true :: true :: true :: true :: true :: true :: true :: true :: true :: true :: true :: []) (env' := uS7n69) rfl ⟨⟨u + 1, s1⟩, ?_, rfl, ?_⟩
        · first | omega | (simp only []; omega)
        · first | exact ⟨⟨by omega, hl1, hcm, by rw [hg, trL_range (by omega), if_pos (.inl (sh0.1 (by assumption)))]⟩, rfl⟩ | exact ⟨⟨by omega, hl1, hcm, by rw [hg, trL_range (by omega), if_pos (.inr (sh1.1 (by assumption)))]⟩, rfl⟩ | exact ⟨⟨by omega, trn_len.trans hl1, (by have := come_le2 (trn_sub (rows := rows) (n := n) (i := k) (s := (s1.1, s1.2 ||| 1#64 <<< u))); show 64 - come 64 (trn rows n k (s1.1, s1.2 ||| 1#64 <<< u)).2.2 ≤ n; simp only at this; omega), by rw [hg, hf, if_neg (by omega), if_neg (not_of_f (by assumption))]⟩, rfl⟩
      · try simp only [decide_eq_true_eq, decide_eq_false_iff_not, Bool.not_eq_true', Bool.not_eq_false', bne_iff_ne, beq_iff_eq, Bool.and_eq_true, Bool.or_eq_true, Bool.not_eq_true, ge_iff_le, gt_iff_lt, Int.not_le, Int.not_lt, beq_eq_false_iff_ne, bne_eq_false_iff_eq, ne_eq, Decidable.not_not, wd_zero, wd_one, wd_inj] at hc3
        refine B_skip ?_
        refine K_seq ?_
        refine B_seq ?_
        have hu64 : u < 64 := by omega
        have hbit : (rows.getD i 0).getLsbD u = true := sh_not0 (by assumption)
        have hseen : s1.2.getLsbD u = false := sh1n.1 (by assumption)
        have hcond : ¬ ((rows.getD i 0).getLsbD u = false ∨ s1.2.getLsbD u = true) := fun e => e.elim (fun h => by rw [hbit] at h; cases h) (fun h => by rw [hseen] at h; cases h)
        have hcg := come_grow (s := s1.2) (t := s1.2 ||| 1#64 <<< u) (fun a ha => (or1 hu64).2 (.inl ha)) ⟨u, (or1 hu64).2 (.inr rfl), hseen⟩
        have hcl := come_le (s1.2 ||| 1#64 <<< u)
        rw [trL_range hu64, if_neg hcond] at hg
        refine B_draw [0, 1, 2, 3, 4, 5, 6, 7, 8] #[0, 0, 2, 6, 0, 16, 62, 127, 255] (by kernel_rfl) (by kernel_rfl) (by kernel_rfl) ?_
        refine O_op (env' := uS7n69) (c := .calm) rfl rfl rfl (v_move (.inl rfl) rfl) rfl rfl rfl ?_
        refine O_op (env' := uS7n69) (c := .calm) rfl rfl rfl (v_move (.inl rfl) rfl) rfl rfl rfl ?_
        refine O_op (env' := uS7n69) (c := .calm) rfl rfl rfl (rfl) rfl rfl rfl ?_
        refine O_op (env' := uS7n69) (c := .look) rfl rfl rfl (by first | exact v_loadF rfl rfl rfl rfl (by first | exact fget (α := BitVec 64) 0 (by omega) | exact fget0 (α := Int) 0 (by omega) | rfl) | exact v_load rfl rfl rfl rfl (by first | exact tr_q hqH | exact tr_p hpH hpq) (by first | exact fget (α := BitVec 64) 0 (by omega) | exact fget0 (α := Int) 0 (by omega) | rfl)) rfl rfl rfl ?_
        refine O_op (env' := uS7n69) (c := .calm) rfl rfl rfl (v_move (.inl rfl) rfl) rfl rfl rfl ?_
        refine O_op (env' := uS7n69) (c := .calm) rfl rfl rfl (v_shl1 rfl rfl rfl (by first | assumption | omega | (simp [*]; done) | (simp at *; omega))) rfl rfl rfl ?_
        refine O_op (env' := uS7n69) (c := .calm) rfl rfl rfl (v_orW rfl rfl rfl) rfl rfl rfl ?_
        refine O_op (env' := uS7n69) (c := .calm) rfl rfl rfl (rfl) rfl rfl rfl ?_
        refine O_op (env' := uS7n69) (c := .turn) rfl rfl rfl (v_storeT rfl rfl rfl rfl rfl rfl rfl (by first | exact tr_q hqH | exact tr_p hpH hpq) (by first | exact Nat.le_of_ble_eq_true rfl | (simp only [List.length_map, List.length_cons, List.length_nil]; omega) | omega | (simp; done) | (simp; omega)) (by exact tr_setq hqH)) rfl rfl rfl ?_
        refine O_nil [] (by kernel_rfl) (trivial) ?_
        refine K_seq ?_
        refine B_seq ?_
        refine B_region ?_
        refine L_op (env' := uS7n69) rfl rfl (v_const (VVal.int .i64 0) (.inr rfl) rfl) rfl ?_
        refine L_nil ?_
        refine K_seq ?_
        refine B_seq ?_
        refine B_block ?_
        refine B_clear (false :: false :: false :: false :: true :: true :: true :: true :: true :: false :: false :: true :: true :: true :: true :: true :: true :: true :: true :: true :: true :: true :: true :: true :: true :: true :: true :: true :: true :: true :: true :: true :: true :: true :: true :: true :: true :: true :: true :: true :: true :: true :: true :: true :: true :: true :: true :: true :: true :: true :: true :: true :: true :: true :: true :: true :: true :: true :: true :: true :: true :: true :: true :: true :: true :: true :: true :: true :: true :: []) (env' := uS7n69) rfl ?_
        refine B_loopE (fun (k : Nat) => rows.length - k) (fun (k : Nat) => [(10, iI (k : Nat))]) (fun (k : Nat) G => (k ≤ rows.length ∧ ∀ j, j < k → s1.1.getD j 0 ≠ (u : Int)) ∧ G = trH H p q (s1.1, s1.2 ||| 1#64 <<< u) ++ []) 0 rfl ?_ ?_
        · refine ⟨?_, rfl⟩
          exact ⟨Nat.zero_le _, fun j h => by omega⟩
        rintro k _ ⟨⟨hk, hno⟩, rfl⟩
        refine B_env (env' := uS7n69) rfl ?_
        refine B_seq ?_
        refine B_seq ?_
        refine B_region ?_
        refine L_op (env' := uS7n69) rfl rfl (v_move (.inl rfl) rfl) rfl ?_
        refine L_op (env' := uS7n69) rfl rfl (v_move (.inl rfl) rfl) rfl ?_
        refine L_op (env' := uS7n69) rfl rfl (rfl) rfl ?_
        refine L_op (env' := uS7n69) rfl rfl (rfl) rfl ?_
        refine L_op (env' := uS7n69) rfl rfl (v_move (.inl rfl) rfl) rfl ?_
        refine L_split 44 (env1 := uS7n69) (env2 := uS7n69) rfl rfl rfl (fun hg4 => ?_) (fun hg4 => ?_)
        · try simp only [decide_eq_true_eq, decide_eq_false_iff_not, Bool.not_eq_true', Bool.not_eq_false', bne_iff_ne, beq_iff_eq, Bool.and_eq_true, Bool.or_eq_true, Bool.not_eq_true, ge_iff_le, gt_iff_lt, Int.not_le, Int.not_lt, beq_eq_false_iff_ne, bne_eq_false_iff_eq, ne_eq, Decidable.not_not, wd_zero, wd_one, wd_inj] at hg4
          refine L_op (env' := uS7n69) rfl rfl (v_move (.inl rfl) rfl) rfl ?_
          refine L_op (env' := uS7n69) rfl rfl (v_move (.inl rfl) rfl) rfl ?_
          refine L_op (env' := uS7n69) rfl rfl (by first | exact v_idxF rfl rfl rfl rfl rfl rfl rfl (by first | assumption | omega | (simp [*]; done) | (simp at *; omega)) | exact v_idx rfl rfl rfl rfl rfl rfl rfl (by first | assumption | omega | (simp [*]; done) | (simp at *; omega))) rfl ?_
          refine L_op (env' := uS7n69) rfl rfl (by first | exact v_loadF rfl rfl rfl rfl (by exact fget0 (α := Int) (l := s1.1) 0 (by omega)) | exact v_load rfl rfl rfl rfl (by first | exact tr_q hqH | exact tr_p hpH hpq) (by exact fget0 (α := Int) (l := s1.1) 0 (by omega))) rfl ?_
          refine L_op (env' := uS7n69) rfl rfl (v_move (.inl rfl) rfl) rfl ?_
          refine L_op (env' := uS7n69) rfl rfl (rfl) rfl ?_
          refine L_op (env' := uS7n69) rfl rfl (v_pickT rfl rfl rfl) rfl ?_
          refine L_nil ?_
          refine K_seq ?_
          refine B_cond _ rfl (fun hc5 => ?_) (fun hc5 => ?_)
          · try simp only [decide_eq_true_eq, decide_eq_false_iff_not, Bool.not_eq_true', Bool.not_eq_false', bne_iff_ne, beq_iff_eq, Bool.and_eq_true, Bool.or_eq_true, Bool.not_eq_true, ge_iff_le, gt_iff_lt, Int.not_le, Int.not_lt, beq_eq_false_iff_ne, bne_eq_false_iff_eq, ne_eq, Decidable.not_not, wd_zero, wd_one, wd_inj] at hc5
            refine B_skip ?_
            refine K_seq ?_
            refine B_block ?_
            refine B_region ?_
            refine L_op (env' := uS7n69) rfl rfl (v_move (.inl rfl) rfl) rfl ?_
            refine L_op (env' := uS7n69) rfl rfl (v_addI rfl rfl rfl (by first | assumption | omega | (simp [*]; done) | (simp at *; omega))) rfl ?_
            refine L_op (env' := uS7n69) rfl rfl (v_move (.inr rfl) rfl) rfl ?_
            refine L_nil ?_
            refine K_blk ?_
            refine K_loop (false :: false :: false :: false :: true :: true :: true :: true :: true :: false :: false :: true :: true :: true :: true :: true :: true :: true :: true :: true :: true :: true :: true :: true :: true :: true :: true :: true :: true :: true :: true :: true :: true :: true :: true :: true :: true :: true :: true :: true :: true :: true :: true :: true :: true :: true :: true :: true :: true :: true :: true :: true :: true :: true :: true :: true :: true :: true :: true :: true :: true :: true :: true :: true :: true :: true :: true :: true :: true :: []) (env' := uS7n69) rfl ⟨k + 1, ?_, rfl, ?_⟩
            · first | omega | (simp only []; omega)
            · exact ⟨⟨by omega, fun j hj => by by_cases e : j = k; (subst e; assumption); exact hno j (by omega)⟩, rfl⟩
          · try simp only [decide_eq_true_eq, decide_eq_false_iff_not, Bool.not_eq_true', Bool.not_eq_false', bne_iff_ne, beq_iff_eq, Bool.and_eq_true, Bool.or_eq_true, Bool.not_eq_true, ge_iff_le, gt_iff_lt, Int.not_le, Int.not_lt, beq_eq_false_iff_ne, bne_eq_false_iff_eq, ne_eq, Decidable.not_not, wd_zero, wd_one, wd_inj] at hc5
            refine B_exit ?_
            refine K_seqX ?_
            refine K_loopX ?_
            refine K_blkX ?_
            refine K_seq ?_
            refine B_seq ?_
            have hf : fndK s1.1 u = k := fndK_is (by omega) hno (by first | exact .inr (by assumption) | exact .inl (by omega))
            refine B_region ?_
            refine L_op (env' := uS7n69) rfl rfl (v_move (.inl rfl) rfl) rfl ?_
            refine L_op (env' := uS7n69) rfl rfl (v_move (.inl rfl) rfl) rfl ?_
            refine L_op (env' := uS7n69) rfl rfl (rfl) rfl ?_
            refine L_op (env' := uS7n69) rfl rfl (rfl) rfl ?_
            refine L_op (env' := uS7n69) rfl rfl (v_move (.inl rfl) rfl) rfl ?_
            refine L_split 58 (env1 := uS7n69) (env2 := uS7n69) rfl rfl rfl (fun hg6 => ?_) (fun hg6 => ?_)
            · try simp only [decide_eq_true_eq, decide_eq_false_iff_not, Bool.not_eq_true', Bool.not_eq_false', bne_iff_ne, beq_iff_eq, Bool.and_eq_true, Bool.or_eq_true, Bool.not_eq_true, ge_iff_le, gt_iff_lt, Int.not_le, Int.not_lt, beq_eq_false_iff_ne, bne_eq_false_iff_eq, ne_eq, Decidable.not_not, wd_zero, wd_one, wd_inj] at hg6
              refine L_off (env' := uS7n69) rfl rfl ?_
              refine L_off (env' := uS7n69) rfl rfl ?_
              refine L_off (env' := uS7n69) rfl rfl ?_
              refine L_off (env' := uS7n69) rfl rfl ?_
              refine L_off (env' := uS7n69) rfl rfl ?_
              refine L_op (env' := uS7n69) rfl rfl (v_pickTC (VVal.bool true) rfl rfl rfl) rfl ?_
              refine L_nil ?_
              refine K_seq ?_
              refine B_true rfl rfl ?_
              refine B_seq ?_
              refine B_region ?_
              refine L_op (env' := uS7n69) rfl rfl (v_move (.inl rfl) rfl) rfl ?_
              refine L_op (env' := uS7n69) rfl rfl (v_move (.inl rfl) rfl) rfl ?_
              refine L_op (env' := uS7n69) rfl rfl (v_move (.inl rfl) rfl) rfl ?_
              refine L_op (env' := uS7n69) rfl rfl (by first | exact v_idxF rfl rfl rfl rfl rfl rfl rfl (by first | assumption | omega | (simp [*]; done) | (simp at *; omega)) | exact v_idx rfl rfl rfl rfl rfl rfl rfl (by first | assumption | omega | (simp [*]; done) | (simp at *; omega))) rfl ?_
              refine L_op (env' := uS7n69) rfl rfl (v_storeT rfl rfl rfl rfl rfl rfl rfl (by first | exact tr_q hqH | exact tr_p hpH hpq) (by first | exact has_len (s := (s1.1, 0#64)) (show i < s1.1.length by omega) | exact has_len (s := (trn rows n k (s1.1, s1.2 ||| 1#64 <<< u)).2) (by rw [trn_len]; show i < s1.1.length; omega)) (by first | exact tr_setp hpH hpq (show i < s1.1.length by omega) | exact tr_setp hpH hpq (by rw [trn_len]; show i < s1.1.length; omega))) rfl ?_
              refine L_nil ?_
              refine K_seq ?_
              refine B_seq ?_
              refine B_region ?_
              refine L_op (env' := uS7n69) rfl rfl (v_const (VVal.bool true) (.inr rfl) rfl) rfl ?_
              refine L_nil ?_
              refine K_seq ?_
              refine B_ret ?_
              refine K_blkR ?_
              refine K_seqR ?_
              refine K_loopR ?_
              refine K_blkR ?_
              refine K_seqR ?_
              refine E_app (.inr rfl) (vres_tmp rfl rfl) (by exact tr_base) (by first | rfl | simp [VVal.under, VVal.underL, *]) ?_
              first
                | (obtain rfl : u = 64 := by omega); exact ⟨by rw [hg]; rfl, by rw [hg]; rfl⟩
                | exact ⟨by rw [hg, hf, if_pos (by omega)], by rw [hg, hf, if_pos (by omega)]; rfl⟩
                | exact ⟨by rw [hg, hf, if_neg (by omega), if_pos (by assumption)], by rw [hg, hf, if_neg (by omega), if_pos (by assumption)]; rfl⟩
            · try simp only [decide_eq_true_eq, decide_eq_false_iff_not, Bool.not_eq_true', Bool.not_eq_false', bne_iff_ne, beq_iff_eq, Bool.and_eq_true, Bool.or_eq_true, Bool.not_eq_true, ge_iff_le, gt_iff_lt, Int.not_le, Int.not_lt, beq_eq_false_iff_ne, bne_eq_false_iff_eq, ne_eq, Decidable.not_not, wd_zero, wd_one, wd_inj] at hg6
              refine L_op (env' := uS7n69) rfl rfl (v_move (.inl rfl) rfl) rfl ?_
              refine L_op (env' := uS7n69) rfl rfl (v_move (.inl rfl) rfl) rfl ?_
              refine L_op (env' := uS7n69) rfl rfl (v_move (.inl rfl) rfl) rfl ?_
              refine L_op (env' := uS7n69) rfl rfl (v_move (.inl rfl) rfl) rfl ?_
              refine L_call rfl rfl rfl (by exact turn_in hpq ih H _ (s1.1, s1.2 ||| 1#64 <<< u) hpH hqH k (by omega) hl1 (by show 64 - come 64 (s1.2 ||| 1#64 <<< u) < n; omega)) ?_
              rintro _ _ ⟨rfl, rfl⟩
              refine L_env (env' := uS7n69) rfl ?_
              refine L_op (env' := uS7n69) rfl rfl (v_pickF rfl rfl rfl) rfl ?_
              refine L_nil ?_
              refine K_seq ?_
              refine B_cond _ rfl (fun hc7 => ?_) (fun hc7 => ?_)
              · try simp only [decide_eq_true_eq, decide_eq_false_iff_not, Bool.not_eq_true', Bool.not_eq_false', bne_iff_ne, beq_iff_eq, Bool.and_eq_true, Bool.or_eq_true, Bool.not_eq_true, ge_iff_le, gt_iff_lt, Int.not_le, Int.not_lt, beq_eq_false_iff_ne, bne_eq_false_iff_eq, ne_eq, Decidable.not_not, wd_zero, wd_one, wd_inj] at hc7
                refine B_seq ?_
                refine B_region ?_
                refine L_op (env' := uS7n69) rfl rfl (v_move (.inl rfl) rfl) rfl ?_
                refine L_op (env' := uS7n69) rfl rfl (v_move (.inl rfl) rfl) rfl ?_
                refine L_op (env' := uS7n69) rfl rfl (v_move (.inl rfl) rfl) rfl ?_
                refine L_op (env' := uS7n69) rfl rfl (by first | exact v_idxF rfl rfl rfl rfl rfl rfl rfl (by first | assumption | omega | (simp [*]; done) | (simp at *; omega)) | exact v_idx rfl rfl rfl rfl rfl rfl rfl (by first | assumption | omega | (simp [*]; done) | (simp at *; omega))) rfl ?_
                refine L_op (env' := uS7n69) rfl rfl (v_storeT rfl rfl rfl rfl rfl rfl rfl (by first | exact tr_q hqH | exact tr_p hpH hpq) (by first | exact has_len (s := (s1.1, 0#64)) (show i < s1.1.length by omega) | exact has_len (s := (trn rows n k (s1.1, s1.2 ||| 1#64 <<< u)).2) (by rw [trn_len]; show i < s1.1.length; omega)) (by first | exact tr_setp hpH hpq (show i < s1.1.length by omega) | exact tr_setp hpH hpq (by rw [trn_len]; show i < s1.1.length; omega))) rfl ?_
                refine L_nil ?_
                refine K_seq ?_
                refine B_seq ?_
                refine B_region ?_
                refine L_op (env' := uS7n69) rfl rfl (v_const (VVal.bool true) (.inr rfl) rfl) rfl ?_
                refine L_nil ?_
                refine K_seq ?_
                refine B_ret ?_
                refine K_blkR ?_
                refine K_seqR ?_
                refine K_loopR ?_
                refine K_blkR ?_
                refine K_seqR ?_
                refine E_app (.inr rfl) (vres_tmp rfl rfl) (by exact tr_base) (by first | rfl | simp [VVal.under, VVal.underL, *]) ?_
                first
                  | (obtain rfl : u = 64 := by omega); exact ⟨by rw [hg]; rfl, by rw [hg]; rfl⟩
                  | exact ⟨by rw [hg, hf, if_pos (by omega)], by rw [hg, hf, if_pos (by omega)]; rfl⟩
                  | exact ⟨by rw [hg, hf, if_neg (by omega), if_pos (by assumption)], by rw [hg, hf, if_neg (by omega), if_pos (by assumption)]; rfl⟩
              · try simp only [decide_eq_true_eq, decide_eq_false_iff_not, Bool.not_eq_true', Bool.not_eq_false', bne_iff_ne, beq_iff_eq, Bool.and_eq_true, Bool.or_eq_true, Bool.not_eq_true, ge_iff_le, gt_iff_lt, Int.not_le, Int.not_lt, beq_eq_false_iff_ne, bne_eq_false_iff_eq, ne_eq, Decidable.not_not, wd_zero, wd_one, wd_inj] at hc7
                refine B_skip ?_
                refine K_blk ?_
                refine K_seq ?_
                refine B_region ?_
                refine L_op (env' := uS7n69) rfl rfl (v_move (.inl rfl) rfl) rfl ?_
                refine L_op (env' := uS7n69) rfl rfl (v_addI rfl rfl rfl (by first | assumption | omega | (simp [*]; done) | (simp at *; omega))) rfl ?_
                refine L_op (env' := uS7n69) rfl rfl (v_move (.inr rfl) rfl) rfl ?_
                refine L_nil ?_
                refine K_loop (false :: false :: false :: false :: true :: true :: true :: true :: true :: false :: true :: true :: true :: true :: true :: true :: true :: true :: true :: true :: true :: true :: true :: true :: true :: true :: true :: true :: true :: true :: true :: true :: true :: true :: true :: true :: true :: true :: true :: true :: true :: true :: true :: true :: true :: true :: true :: true :: true :: true :: true :: true :: true :: true :: true :: true :: true :: true :: true :: true :: true :: true :: true :: true :: true :: true :: true :: true :: true :: []) (env' := uS7n69) rfl ⟨⟨u + 1, (trn rows n k (s1.1, s1.2 ||| 1#64 <<< u)).2⟩, ?_, rfl, ?_⟩
                · first | omega | (simp only []; omega)
                · first | exact ⟨⟨by omega, hl1, hcm, by rw [hg, trL_range (by omega), if_pos (.inl (sh0.1 (by assumption)))]⟩, rfl⟩ | exact ⟨⟨by omega, hl1, hcm, by rw [hg, trL_range (by omega), if_pos (.inr (sh1.1 (by assumption)))]⟩, rfl⟩ | exact ⟨⟨by omega, trn_len.trans hl1, (by have := come_le2 (trn_sub (rows := rows) (n := n) (i := k) (s := (s1.1, s1.2 ||| 1#64 <<< u))); show 64 - come 64 (trn rows n k (s1.1, s1.2 ||| 1#64 <<< u)).2.2 ≤ n; simp only at this; omega), by rw [hg, hf, if_neg (by omega), if_neg (not_of_f (by assumption))]⟩, rfl⟩
        · try simp only [decide_eq_true_eq, decide_eq_false_iff_not, Bool.not_eq_true', Bool.not_eq_false', bne_iff_ne, beq_iff_eq, Bool.and_eq_true, Bool.or_eq_true, Bool.not_eq_true, ge_iff_le, gt_iff_lt, Int.not_le, Int.not_lt, beq_eq_false_iff_ne, bne_eq_false_iff_eq, ne_eq, Decidable.not_not, wd_zero, wd_one, wd_inj] at hg4
          refine L_off (env' := uS7n69) rfl rfl ?_
          refine L_off (env' := uS7n69) rfl rfl ?_
          refine L_off (env' := uS7n69) rfl rfl ?_
          refine L_off (env' := uS7n69) rfl rfl ?_
          refine L_off (env' := uS7n69) rfl rfl ?_
          refine L_off (env' := uS7n69) rfl rfl ?_
          refine L_op (env' := uS7n69) rfl rfl (v_pickFC (VVal.bool false) rfl rfl rfl) rfl ?_
          refine L_nil ?_
          refine K_seq ?_
          refine B_false rfl rfl ?_
          refine B_exit ?_
          refine K_seqX ?_
          refine K_loopX ?_
          refine K_blkX ?_
          refine K_seq ?_
          refine B_seq ?_
          have hf : fndK s1.1 u = k := fndK_is (by omega) hno (by first | exact .inr (by assumption) | exact .inl (by omega))
          refine B_region ?_
          refine L_op (env' := uS7n69) rfl rfl (v_move (.inl rfl) rfl) rfl ?_
          refine L_op (env' := uS7n69) rfl rfl (v_move (.inl rfl) rfl) rfl ?_
          refine L_op (env' := uS7n69) rfl rfl (rfl) rfl ?_
          refine L_op (env' := uS7n69) rfl rfl (rfl) rfl ?_
          refine L_op (env' := uS7n69) rfl rfl (v_move (.inl rfl) rfl) rfl ?_
          refine L_split 58 (env1 := uS7n69) (env2 := uS7n69) rfl rfl rfl (fun hg8 => ?_) (fun hg8 => ?_)
          · try simp only [decide_eq_true_eq, decide_eq_false_iff_not, Bool.not_eq_true', Bool.not_eq_false', bne_iff_ne, beq_iff_eq, Bool.and_eq_true, Bool.or_eq_true, Bool.not_eq_true, ge_iff_le, gt_iff_lt, Int.not_le, Int.not_lt, beq_eq_false_iff_ne, bne_eq_false_iff_eq, ne_eq, Decidable.not_not, wd_zero, wd_one, wd_inj] at hg8
            refine L_off (env' := uS7n69) rfl rfl ?_
            refine L_off (env' := uS7n69) rfl rfl ?_
            refine L_off (env' := uS7n69) rfl rfl ?_
            refine L_off (env' := uS7n69) rfl rfl ?_
            refine L_off (env' := uS7n69) rfl rfl ?_
            refine L_op (env' := uS7n69) rfl rfl (v_pickTC (VVal.bool true) rfl rfl rfl) rfl ?_
            refine L_nil ?_
            refine K_seq ?_
            refine B_true rfl rfl ?_
            refine B_seq ?_
            refine B_region ?_
            refine L_op (env' := uS7n69) rfl rfl (v_move (.inl rfl) rfl) rfl ?_
            refine L_op (env' := uS7n69) rfl rfl (v_move (.inl rfl) rfl) rfl ?_
            refine L_op (env' := uS7n69) rfl rfl (v_move (.inl rfl) rfl) rfl ?_
            refine L_op (env' := uS7n69) rfl rfl (by first | exact v_idxF rfl rfl rfl rfl rfl rfl rfl (by first | assumption | omega | (simp [*]; done) | (simp at *; omega)) | exact v_idx rfl rfl rfl rfl rfl rfl rfl (by first | assumption | omega | (simp [*]; done) | (simp at *; omega))) rfl ?_
            refine L_op (env' := uS7n69) rfl rfl (v_storeT rfl rfl rfl rfl rfl rfl rfl (by first | exact tr_q hqH | exact tr_p hpH hpq) (by first | exact has_len (s := (s1.1, 0#64)) (show i < s1.1.length by omega) | exact has_len (s := (trn rows n k (s1.1, s1.2 ||| 1#64 <<< u)).2) (by rw [trn_len]; show i < s1.1.length; omega)) (by first | exact tr_setp hpH hpq (show i < s1.1.length by omega) | exact tr_setp hpH hpq (by rw [trn_len]; show i < s1.1.length; omega))) rfl ?_
            refine L_nil ?_
            refine K_seq ?_
            refine B_seq ?_
            refine B_region ?_
            refine L_op (env' := uS7n69) rfl rfl (v_const (VVal.bool true) (.inr rfl) rfl) rfl ?_
            refine L_nil ?_
            refine K_seq ?_
            refine B_ret ?_
            refine K_blkR ?_
            refine K_seqR ?_
            refine K_loopR ?_
            refine K_blkR ?_
            refine K_seqR ?_
            refine E_app (.inr rfl) (vres_tmp rfl rfl) (by exact tr_base) (by first | rfl | simp [VVal.under, VVal.underL, *]) ?_
            first
              | (obtain rfl : u = 64 := by omega); exact ⟨by rw [hg]; rfl, by rw [hg]; rfl⟩
              | exact ⟨by rw [hg, hf, if_pos (by omega)], by rw [hg, hf, if_pos (by omega)]; rfl⟩
              | exact ⟨by rw [hg, hf, if_neg (by omega), if_pos (by assumption)], by rw [hg, hf, if_neg (by omega), if_pos (by assumption)]; rfl⟩
          · try simp only [decide_eq_true_eq, decide_eq_false_iff_not, Bool.not_eq_true', Bool.not_eq_false', bne_iff_ne, beq_iff_eq, Bool.and_eq_true, Bool.or_eq_true, Bool.not_eq_true, ge_iff_le, gt_iff_lt, Int.not_le, Int.not_lt, beq_eq_false_iff_ne, bne_eq_false_iff_eq, ne_eq, Decidable.not_not, wd_zero, wd_one, wd_inj] at hg8
            refine L_op (env' := uS7n69) rfl rfl (v_move (.inl rfl) rfl) rfl ?_
            refine L_op (env' := uS7n69) rfl rfl (v_move (.inl rfl) rfl) rfl ?_
            refine L_op (env' := uS7n69) rfl rfl (v_move (.inl rfl) rfl) rfl ?_
            refine L_op (env' := uS7n69) rfl rfl (v_move (.inl rfl) rfl) rfl ?_
            refine L_call rfl rfl rfl (by exact turn_in hpq ih H _ (s1.1, s1.2 ||| 1#64 <<< u) hpH hqH k (by omega) hl1 (by show 64 - come 64 (s1.2 ||| 1#64 <<< u) < n; omega)) ?_
            rintro _ _ ⟨rfl, rfl⟩
            refine L_env (env' := uS7n69) rfl ?_
            refine L_op (env' := uS7n69) rfl rfl (v_pickF rfl rfl rfl) rfl ?_
            refine L_nil ?_
            refine K_seq ?_
            refine B_cond _ rfl (fun hc9 => ?_) (fun hc9 => ?_)
            · try simp only [decide_eq_true_eq, decide_eq_false_iff_not, Bool.not_eq_true', Bool.not_eq_false', bne_iff_ne, beq_iff_eq, Bool.and_eq_true, Bool.or_eq_true, Bool.not_eq_true, ge_iff_le, gt_iff_lt, Int.not_le, Int.not_lt, beq_eq_false_iff_ne, bne_eq_false_iff_eq, ne_eq, Decidable.not_not, wd_zero, wd_one, wd_inj] at hc9
              refine B_seq ?_
              refine B_region ?_
              refine L_op (env' := uS7n69) rfl rfl (v_move (.inl rfl) rfl) rfl ?_
              refine L_op (env' := uS7n69) rfl rfl (v_move (.inl rfl) rfl) rfl ?_
              refine L_op (env' := uS7n69) rfl rfl (v_move (.inl rfl) rfl) rfl ?_
              refine L_op (env' := uS7n69) rfl rfl (by first | exact v_idxF rfl rfl rfl rfl rfl rfl rfl (by first | assumption | omega | (simp [*]; done) | (simp at *; omega)) | exact v_idx rfl rfl rfl rfl rfl rfl rfl (by first | assumption | omega | (simp [*]; done) | (simp at *; omega))) rfl ?_
              refine L_op (env' := uS7n69) rfl rfl (v_storeT rfl rfl rfl rfl rfl rfl rfl (by first | exact tr_q hqH | exact tr_p hpH hpq) (by first | exact has_len (s := (s1.1, 0#64)) (show i < s1.1.length by omega) | exact has_len (s := (trn rows n k (s1.1, s1.2 ||| 1#64 <<< u)).2) (by rw [trn_len]; show i < s1.1.length; omega)) (by first | exact tr_setp hpH hpq (show i < s1.1.length by omega) | exact tr_setp hpH hpq (by rw [trn_len]; show i < s1.1.length; omega))) rfl ?_
              refine L_nil ?_
              refine K_seq ?_
              refine B_seq ?_
              refine B_region ?_
              refine L_op (env' := uS7n69) rfl rfl (v_const (VVal.bool true) (.inr rfl) rfl) rfl ?_
              refine L_nil ?_
              refine K_seq ?_
              refine B_ret ?_
              refine K_blkR ?_
              refine K_seqR ?_
              refine K_loopR ?_
              refine K_blkR ?_
              refine K_seqR ?_
              refine E_app (.inr rfl) (vres_tmp rfl rfl) (by exact tr_base) (by first | rfl | simp [VVal.under, VVal.underL, *]) ?_
              first
                | (obtain rfl : u = 64 := by omega); exact ⟨by rw [hg]; rfl, by rw [hg]; rfl⟩
                | exact ⟨by rw [hg, hf, if_pos (by omega)], by rw [hg, hf, if_pos (by omega)]; rfl⟩
                | exact ⟨by rw [hg, hf, if_neg (by omega), if_pos (by assumption)], by rw [hg, hf, if_neg (by omega), if_pos (by assumption)]; rfl⟩
            · try simp only [decide_eq_true_eq, decide_eq_false_iff_not, Bool.not_eq_true', Bool.not_eq_false', bne_iff_ne, beq_iff_eq, Bool.and_eq_true, Bool.or_eq_true, Bool.not_eq_true, ge_iff_le, gt_iff_lt, Int.not_le, Int.not_lt, beq_eq_false_iff_ne, bne_eq_false_iff_eq, ne_eq, Decidable.not_not, wd_zero, wd_one, wd_inj] at hc9
              refine B_skip ?_
              refine K_blk ?_
              refine K_seq ?_
              refine B_region ?_
              refine L_op (env' := uS7n69) rfl rfl (v_move (.inl rfl) rfl) rfl ?_
              refine L_op (env' := uS7n69) rfl rfl (v_addI rfl rfl rfl (by first | assumption | omega | (simp [*]; done) | (simp at *; omega))) rfl ?_
              refine L_op (env' := uS7n69) rfl rfl (v_move (.inr rfl) rfl) rfl ?_
              refine L_nil ?_
              refine K_loop (false :: false :: false :: false :: true :: true :: true :: true :: true :: false :: true :: true :: true :: true :: true :: true :: true :: true :: true :: true :: true :: true :: true :: true :: true :: true :: true :: true :: true :: true :: true :: true :: true :: true :: true :: true :: true :: true :: true :: true :: true :: true :: true :: true :: true :: true :: true :: true :: true :: true :: true :: true :: true :: true :: true :: true :: true :: true :: true :: true :: true :: true :: true :: true :: true :: true :: true :: true :: true :: []) (env' := uS7n69) rfl ⟨⟨u + 1, (trn rows n k (s1.1, s1.2 ||| 1#64 <<< u)).2⟩, ?_, rfl, ?_⟩
              · first | omega | (simp only []; omega)
              · first | exact ⟨⟨by omega, hl1, hcm, by rw [hg, trL_range (by omega), if_pos (.inl (sh0.1 (by assumption)))]⟩, rfl⟩ | exact ⟨⟨by omega, hl1, hcm, by rw [hg, trL_range (by omega), if_pos (.inr (sh1.1 (by assumption)))]⟩, rfl⟩ | exact ⟨⟨by omega, trn_len.trans hl1, (by have := come_le2 (trn_sub (rows := rows) (n := n) (i := k) (s := (s1.1, s1.2 ||| 1#64 <<< u))); show 64 - come 64 (trn rows n k (s1.1, s1.2 ||| 1#64 <<< u)).2.2 ≤ n; simp only at this; omega), by rw [hg, hf, if_neg (by omega), if_neg (not_of_f (by assumption))]⟩, rfl⟩
  · try simp only [decide_eq_true_eq, decide_eq_false_iff_not, Bool.not_eq_true', Bool.not_eq_false', bne_iff_ne, beq_iff_eq, Bool.and_eq_true, Bool.or_eq_true, Bool.not_eq_true, ge_iff_le, gt_iff_lt, Int.not_le, Int.not_lt, beq_eq_false_iff_ne, bne_eq_false_iff_eq, ne_eq, Decidable.not_not, wd_zero, wd_one, wd_inj] at hc1
    refine B_exit ?_
    refine K_seqX ?_
    refine K_loopX ?_
    refine K_blkX ?_
    refine K_seq ?_
    refine B_seq ?_
    refine B_region ?_
    refine L_op (env' := uS7n69) rfl rfl (v_const (VVal.bool false) (.inr rfl) rfl) rfl ?_
    refine L_nil ?_
    refine K_seq ?_
    refine B_ret ?_
    refine E_app (.inr rfl) (vres_tmp rfl rfl) (by exact tr_base) (by first | rfl | simp [VVal.under, VVal.underL, *]) ?_
    first
      | (obtain rfl : u = 64 := by omega); exact ⟨by rw [hg]; rfl, by rw [hg]; rfl⟩
      | exact ⟨by rw [hg, hf, if_pos (by omega)], by rw [hg, hf, if_pos (by omega)]; rfl⟩
      | exact ⟨by rw [hg, hf, if_neg (by omega), if_pos (by assumption)], by rw [hg, hf, if_neg (by omega), if_pos (by assumption)]; rfl⟩
end Go.Proofs.YtpekleeidllllaaDoor.VT
