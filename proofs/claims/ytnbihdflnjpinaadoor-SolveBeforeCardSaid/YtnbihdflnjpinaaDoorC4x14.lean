/- Proved: Rows.SolveBeforeCardSaid, the statement SolveBefore with its card, of the given program at the commit; no conditions beyond those in the statement. -/
import Derived.Test.YtnbihdflnjpinaaDoorC4x13
set_option autoImplicit false
set_option linter.unusedVariables false
set_option linter.unusedSimpArgs false
set_option maxHeartbeats 4000000
set_option maxRecDepth 100000
namespace Go.Proofs.YtnbihdflnjpinaaDoor.VT
open Go Go.V Go.RowKit
abbrev u52 {a0 a1 a2 a3 a4 a5 a6 a7 a8 a9 a10 a11 a12 a13 a14 a15 a16 a17 a18 a19 a20 a21 a22 a23 a24 a25 a26 a27 a28 a29 a30 a31 a32 a33 a34 a35 a36 a37 a38 a39 a40 a41 a42 a43 a44 a45 a46 a47 a48 a49 a50 a51 : VVal} : VEnv := a0 :: a1 :: a2 :: a3 :: a4 :: a5 :: a6 :: a7 :: a8 :: a9 :: a10 :: a11 :: a12 :: a13 :: a14 :: a15 :: a16 :: a17 :: a18 :: a19 :: a20 :: a21 :: a22 :: a23 :: a24 :: a25 :: a26 :: a27 :: a28 :: a29 :: a30 :: a31 :: a32 :: a33 :: a34 :: a35 :: a36 :: a37 :: a38 :: a39 :: a40 :: a41 :: a42 :: a43 :: a44 :: a45 :: a46 :: a47 :: a48 :: a49 :: a50 :: a51 :: []
abbrev u71 {a0 a1 a2 a3 a4 a5 a6 a7 a8 a9 a10 a11 a12 a13 a14 a15 a16 a17 a18 a19 a20 a21 a22 a23 a24 a25 a26 a27 a28 a29 a30 a31 a32 a33 a34 a35 a36 a37 a38 a39 a40 a41 a42 a43 a44 a45 a46 a47 a48 a49 a50 a51 a52 a53 a54 a55 a56 a57 a58 a59 a60 a61 a62 a63 a64 a65 a66 a67 a68 a69 a70 : VVal} : VEnv := a0 :: a1 :: a2 :: a3 :: a4 :: a5 :: a6 :: a7 :: a8 :: a9 :: a10 :: a11 :: a12 :: a13 :: a14 :: a15 :: a16 :: a17 :: a18 :: a19 :: a20 :: a21 :: a22 :: a23 :: a24 :: a25 :: a26 :: a27 :: a28 :: a29 :: a30 :: a31 :: a32 :: a33 :: a34 :: a35 :: a36 :: a37 :: a38 :: a39 :: a40 :: a41 :: a42 :: a43 :: a44 :: a45 :: a46 :: a47 :: a48 :: a49 :: a50 :: a51 :: a52 :: a53 :: a54 :: a55 :: a56 :: a57 :: a58 :: a59 :: a60 :: a61 :: a62 :: a63 :: a64 :: a65 :: a66 :: a67 :: a68 :: a69 :: a70 :: []
theorem W57 {T : TypeId → Option VTy} {H : VHeap} {op : Op} {ρ : Operand → VVal} {t : TypeId} {a : Operand} {y : VTy} {p v : VVal} (ho : op = .load t a) (ha : ρ a = p) (hy : T t = some y) (hd : isAggDesc y.desc = false) (h : LdOk H p v := by first | exact .inl ⟨_, _, rfl, by first | rfl | assumption | exact fgetN (α := Int) 0 (by omega) | exact fget0N (f := iI) (α := Int) 0 (by first | omega | (rw [ofI_len (by omega)]; omega))⟩ | exact .inr ⟨_, _, _, _, rfl, by first | exact get_app rfl rfl | exact get_out (by assumption) | exact getE0 rfl rfl | exact get_out (get_app rfl rfl) | exact get_app rfl (by assumption) | assumption | (simp only [List.append_assoc, List.singleton_append, List.cons_append, List.nil_append]; refine getE (i := 0) rfl ?_ rfl; simp; done) | (simp only [List.append_assoc, List.singleton_append, List.cons_append, List.nil_append]; refine getE (i := 1) rfl ?_ rfl; simp; done) | (simp only [List.append_assoc, List.singleton_append, List.cons_append, List.nil_append]; refine getE (i := 2) rfl ?_ rfl; simp; done) | (simp only [List.append_assoc, List.singleton_append, List.cons_append, List.nil_append]; refine getE (i := 3) rfl ?_ rfl; simp; done) | (simp [*]; done), by first | rfl | assumption | exact fgetN (α := Int) 0 (by omega) | exact fget0N (f := iI) (α := Int) 0 (by first | omega | (rw [ofI_len (by omega)]; omega))⟩) : vop T ρ H op = some (v, H) := v_ld ho ha hy hd h
theorem W58 {T : TypeId → Option VTy} {H : VHeap} {op : Op} {ρ : Operand → VVal} {t : TypeId} {a : Operand} {y : VTy} {p v : VVal} (ho : op = .load t a) (ha : ρ a = p) (hy : T t = some y) (hd : isAggDesc y.desc = false) (h : LdOk H p v := by first | exact .inl ⟨_, _, rfl, by show ((ofI l k (lkV l k j)).map iI)[0 + j * 1]? = _; exact fget0N (f := iI) (α := Int) 0 (by rw [ofI_len (by omega)]; omega)⟩ | exact .inr ⟨_, _, _, _, rfl, by first | exact get_app rfl rfl | exact get_out (by assumption) | exact getE0 rfl rfl | exact get_out (get_app rfl rfl) | exact get_app rfl (by assumption) | assumption | (simp only [List.append_assoc, List.singleton_append, List.cons_append, List.nil_append]; refine getE (i := 0) rfl ?_ rfl; simp; done) | (simp only [List.append_assoc, List.singleton_append, List.cons_append, List.nil_append]; refine getE (i := 1) rfl ?_ rfl; simp; done) | (simp only [List.append_assoc, List.singleton_append, List.cons_append, List.nil_append]; refine getE (i := 2) rfl ?_ rfl; simp; done) | (simp only [List.append_assoc, List.singleton_append, List.cons_append, List.nil_append]; refine getE (i := 3) rfl ?_ rfl; simp; done) | (simp [*]; done), by show ((ofI l k (lkV l k j)).map iI)[0 + j * 1]? = _; exact fget0N (f := iI) (α := Int) 0 (by rw [ofI_len (by omega)]; omega)⟩) : vop T ρ H op = some (v, H) := v_ld ho ha hy hd h
theorem W59 {T : TypeId → Option VTy} {H : VHeap} {op : Op} {ρ : VEnv} {H' : VHeap} {t : TypeId} {a : Operand} {i : Nat} {v : VVal} {y : VTy} {b off : Nat} {cs new : List VVal} (ho : op = .store t a (.tmp i)) (hv : ρ[i]? = some v) (ha : ρ.eval a = .ptr (some (b, off))) (hy : T t = some y) (hx : v.cells = some new) (hn : new.length = y.size) (h1 : new.all VVal.one = true) (hb : H[b]? = some (.cells cs true) := by first | exact get_app rfl rfl | exact get_out (by assumption) | exact getE0 rfl rfl | exact get_out (get_app rfl rfl) | exact get_app rfl (by assumption) | assumption | (simp only [List.append_assoc, List.singleton_append, List.cons_append, List.nil_append]; refine getE (i := 0) rfl ?_ rfl; simp; done) | (simp only [List.append_assoc, List.singleton_append, List.cons_append, List.nil_append]; refine getE (i := 1) rfl ?_ rfl; simp; done) | (simp only [List.append_assoc, List.singleton_append, List.cons_append, List.nil_append]; refine getE (i := 2) rfl ?_ rfl; simp; done) | (simp only [List.append_assoc, List.singleton_append, List.cons_append, List.nil_append]; refine getE (i := 3) rfl ?_ rfl; simp; done) | (simp [*]; done)) (hl : off + new.length ≤ cs.length := by show 0 + k * 1 + 1 ≤ _; rw [List.length_map]; first | (rw [ofI_len (by omega)]; omega) | (rw [ofZ_len (by omega)]; omega)) (hH : H.set b (.cells (splice cs off new) true) = H' := by exact (set_app rfl).trans (by show H ++ [VBlk.cells (splice ((ofI l k (lkV l k j)).map iI) (0 + k * 1) [iI ((ofI l k (lkV l k j)).getD j 0)]) true] = _; rw [spl_I (by rw [ofI_len (by omega)]; omega), ofI_set])) : vop T ρ.eval H op = some (.skip, H') := v_storeT ho hv ha hy hx hn h1 hb hl hH
theorem W5b {T : TypeId → Option VTy} {H : VHeap} {op : Op} {ρ : VEnv} {H' : VHeap} {t : TypeId} {a : Operand} {i : Nat} {v : VVal} {y : VTy} {b off : Nat} {cs new : List VVal} (ho : op = .store t a (.tmp i)) (hv : ρ[i]? = some v) (ha : ρ.eval a = .ptr (some (b, off))) (hy : T t = some y) (hx : v.cells = some new) (hn : new.length = y.size) (h1 : new.all VVal.one = true) (hb : H[b]? = some (.cells cs true) := by first | exact get_app rfl rfl | exact get_out (by assumption) | exact getE0 rfl rfl | exact get_out (get_app rfl rfl) | exact get_app rfl (by assumption) | assumption | (simp only [List.append_assoc, List.singleton_append, List.cons_append, List.nil_append]; refine getE (i := 0) rfl ?_ rfl; simp; done) | (simp only [List.append_assoc, List.singleton_append, List.cons_append, List.nil_append]; refine getE (i := 1) rfl ?_ rfl; simp; done) | (simp only [List.append_assoc, List.singleton_append, List.cons_append, List.nil_append]; refine getE (i := 2) rfl ?_ rfl; simp; done) | (simp only [List.append_assoc, List.singleton_append, List.cons_append, List.nil_append]; refine getE (i := 3) rfl ?_ rfl; simp; done) | (simp [*]; done)) (hl : off + new.length ≤ cs.length := by show 0 + k * 1 + 1 ≤ _; rw [List.length_map]; first | (rw [ofI_len (by omega)]; omega) | (rw [ofZ_len (by omega)]; omega)) (hH : H.set b (.cells (splice cs off new) true) = H' := by exact (set_app rfl).trans (by show H ++ [VBlk.cells (splice ((ofI l k (lkV l k k)).map iI) (0 + k * 1) [iI (((ofK l k).2.length : Nat) : Int)]) true] = _; rw [spl_I (by rw [ofI_len (by omega)]; omega), ofI_set])) : vop T ρ.eval H op = some (.skip, H') := v_storeT ho hv ha hy hx hn h1 hb hl hH
theorem W5c {S : V.Sys} {H : VHeap} {fn : Func} {ex : Exit} {env : VEnv} {B L : VHeap} {v : VVal} {R : VVal → VHeap → Prop} (hx : ex = .normal ∨ ex = .ret) (hv : vresults S.C.T env (B ++ L) fn.results = some v) (h : R v B) (hB : BaseOk H B := by first | exact BaseOk.refl _ | exact BaseOk.set (BaseOk.refl _) _ rfl) (hu : v.under H.length = true := by first | rfl | exact ofP_under _ _) : fnK S fn H R ex env (B ++ L) := E_app hx hv hB hu h
theorem W5e {P : Prop} (h : P := by first | exact ⟨by rw [bef_len (by omega)], rfl⟩ | exact ⟨by rw [hE, if_pos h0, cmpI_same hl (fun i hi => hall2 i (by omega))]; rfl, rfl⟩ | exact ⟨by rw [hE, if_pos h0, cmpI_at (k := m) (by omega) (by omega) hall2 (cmp1_ne (by assumption))]; exact congrArg VVal.bool (cmp1_lt _ _).symm, rfl⟩ | exact ⟨by rw [hE, cmpI_at (a := zI (ofP a)) (b := zI (ofP b)) (k := k) (by rw [zI_len]; omega) (by rw [zI_len]; omega) (fun i hi => by rw [zI_getD (by omega), zI_getD (by omega), hall i hi]) (cmp1_ne (by rw [zI_getD (by omega), zI_getD (by omega)]; omega)), zI_getD (by omega), zI_getD (by omega), if_neg (cmp1_ne (by omega))]; exact congrArg VVal.bool (cmp1_lt _ _).symm, rfl⟩) : P := h
theorem mem_ofK {l : List Int} {x : Int} : ∀ {k : Nat}, k ≤ l.length → (x ∈ (ofK l k).2 ↔ x ∈ l.take k)
  | 0, _ => by simp [ofK]
  | k + 1, h => by
    have ih := mem_ofK (l := l) (x := x) (k := k) (by omega)
    have ih2 := mem_ofK (l := l) (x := l.getD k 0) (k := k) (by omega)
    rw [ofK, take_at (d := 0) (by omega), List.mem_append, List.mem_singleton]
    split
    · rename_i h1
      rw [ih]
      exact ⟨fun e => .inl e, fun e => e.elim id fun e => by rw [e]; exact ih2.1 h1⟩
    · rw [List.mem_append, List.mem_singleton, ih]
theorem ofK_at {l : List Int} : ∀ {k : Nat}, k ≤ l.length → ∀ {j : Nat}, j < k → (ofK l k).1.getD j 0 = (ofK l k).2.idxOf (l.getD j 0)
  | 0, _, j, h => absurd h (by omega)
  | k + 1, hk, j, h => by
    have hlen := @ofK_len l k
    by_cases e : j = k
    · subst e
      by_cases hm : l.getD j 0 ∈ (ofK l j).2
      · rw [ofK_yes hm]
        show ((ofK l j).1 ++ [_]).getD j 0 = _
        have := getD_last (row := (ofK l j).1) (k := (ofK l j).2.idxOf (l.getD j 0)); rw [hlen] at this; exact this
      · rw [ofK_no hm]
        show ((ofK l j).1 ++ [_]).getD j 0 = ((ofK l j).2 ++ [l.getD j 0]).idxOf (l.getD j 0)
        have := getD_last (row := (ofK l j).1) (k := (ofK l j).2.length); rw [hlen] at this
        rw [this, List.idxOf_append, if_neg hm]; simp
    · have ih := ofK_at (l := l) (k := k) (by omega) (j := j) (by omega)
      have hin : l.getD j 0 ∈ (ofK l k).2 := (mem_ofK (by omega)).2 (by
        have : (l.take k).getD j 0 = l.getD j 0 := getD_takeI (by omega)
        rw [← this]; exact mem_getI (by rw [List.length_take]; omega))
      by_cases hm : l.getD k 0 ∈ (ofK l k).2
      · rw [ofK_yes hm]; show ((ofK l k).1 ++ [_]).getD j 0 = _
        rw [getD_snoc (by omega)]; exact ih
      · rw [ofK_no hm]; show ((ofK l k).1 ++ [_]).getD j 0 = ((ofK l k).2 ++ [_]).idxOf _
        rw [getD_snoc (by omega), List.idxOf_append, if_pos hin]; exact ih
theorem ofZ_get {l : List Int} {k j : Nat} (hk : k ≤ l.length) (h : j < k) : (ofZ l k).getD j 0 = (ofK l k).2.idxOf (l.getD j 0) := by
  rw [← ofK_at hk h]
  unfold ofZ
  rw [List.getD_eq_getElem?_getD, List.getElem?_append_left (by rw [ofK_len]; exact h), List.getD_eq_getElem?_getD]
def lkV (l : List Int) (k j : Nat) : Int := if l.getD k 0 ∈ l.take j then ((ofK l k).2.idxOf (l.getD k 0) : Nat) else -1
theorem lkV_yes {l : List Int} {k j : Nat} (hj : j < l.length) (h : l.getD j 0 = l.getD k 0) : lkV l k (j + 1) = ((ofK l k).2.idxOf (l.getD k 0) : Nat) := by
  unfold lkV; rw [take_at (d := 0) hj, if_pos (by rw [h]; simp)]
theorem lkV_no {l : List Int} {k j : Nat} (hj : j < l.length) (h : ¬ l.getD j 0 = l.getD k 0) : lkV l k (j + 1) = lkV l k j := by
  unfold lkV
  rw [take_at (d := 0) hj]
  have : (l.getD k 0 ∈ l.take j ++ [l.getD j 0]) ↔ l.getD k 0 ∈ l.take j := by
    rw [List.mem_append, List.mem_singleton]
    exact ⟨fun e => e.elim id fun e => absurd e.symm h, fun e => .inl e⟩
  simp only [this]
theorem cmp1_ne {x y : Int} (h : ¬ x = y) : cmpI [x] [y] ≠ 0 := fun e => h (cmp1_0 e)
theorem cmp1_lt (x y : Int) : decide (cmpI [x] [y] < 0) = decide (x < y) := by
  rw [cmpI]
  by_cases e : x = y
  · rw [if_pos e]; simp [cmpI, e]
  · rw [if_neg e]
    by_cases h : x < y
    · rw [if_pos h]; simp [h]
    · rw [if_neg h]; simp [h]
abbrev ofI (l : List Int) (k : Nat) (v : Int) : List Int := (zI (ofZ l k)).set k v
theorem ofI_len {l : List Int} {k : Nat} {v : Int} (h : k ≤ l.length) : (ofI l k v).length = l.length := by rw [List.length_set, zI_len, ofZ_len h]
theorem zI_map (a : List Nat) : (zI a).map iI = rcN a := by unfold zI; rw [List.map_map]; rfl
theorem ofI_nat {l : List Int} {k v : Nat} : ofI l k (v : Nat) = zI ((ofZ l k).set k v) := by unfold ofI zI; rw [List.map_set]
theorem ofI_get {l : List Int} {k j : Nat} {v : Int} (hk : k < l.length) (h : j < k) : (ofI l k v).getD j 0 = ((ofK l k).2.idxOf (l.getD j 0) : Nat) := by
  show ((zI (ofZ l k)).set k v).getD j 0 = _
  rw [getD_setL, if_neg (by omega), zI_getD (by rw [ofZ_len (by omega)]; omega), ofZ_get (by omega) h]
theorem ofI_set {l : List Int} {k : Nat} {v w : Int} : (ofI l k v).set k w = ofI l k w := List.set_set ..
theorem ofI_at {l : List Int} {k : Nat} {v : Int} (hk : k < l.length) : (ofI l k v).getD k 0 = v := by
  show ((zI (ofZ l k)).set k v).getD k 0 = _
  rw [getD_setL, if_pos ⟨rfl, by rw [zI_len, ofZ_len (by omega)]; exact hk⟩]
theorem fOf_spec {x : SW} (H : VHeap) (l : List Int) (hl : l.length ≤ 25) : F (psys x) 62 [fzI l] H fun v G => v = fzN (ofP l) ∧ G = H := by
 refine F_body Tryd.func62 rfl u52 rfl ?_
 refine B_seq (B_region ?_)
 refine Lo u52 (v_const (VVal.slice none 0 0 true 0) (.inr rfl) rfl) ?_
 refine L_nil (K_seq (B_seq (B_region ?_)))
 refine Lo u52 (v_move (.inl rfl) rfl) ?_
 refine Lo u52 (rfl) ?_
 refine Lo u52 (v_makeSlice rfl rfl rfl rfl rfl (by decide) ⟨by omega, Int.le_refl _, by show (l.length : Int) * (8 : Nat) ≤ _; omega, by omega⟩) ?_
 refine Lo u52 (v_move (.inr rfl) rfl) ?_
 refine L_nil (K_seq (B_seq (B_region ?_)))
 refine Lo u52 (v_const (VVal.int .i64 0) (.inr rfl) rfl) ?_
 refine L_nil (K_seq (B_seq (B_seq (B_region ?_))))
 refine Lo u52 (v_const (VVal.int .i64 0) (.inr rfl) rfl) ?_
 refine L_nil (K_seq (B_block ?_))
 refine B_clear (mk 52 4503599627370438) (env' := u52) rfl ?_
 refine B_loopE (fun (k : Nat) => l.length - k) (fun (k : Nat) => [(4, iI ((ofK l k).2.length : Nat)), (5, iI (k : Nat))]) (fun (k : Nat) G => (k ≤ l.length) ∧ G = H ++ [.cells (rcN (ofZ l k)) true]) 0 rfl ?_ ?_
 ·refine ⟨?_, (by rw [show ofZ l 0 = List.replicate l.length 0 from rfl, ← rep_rc]; rfl)⟩
  exact Nat.zero_le _
 rintro k _ ⟨hk, rfl⟩
 refine B_env (env' := u52) rfl ?_
 refine B_seq (B_seq (B_region ?_))
 refine Lo u52 (v_move (.inl rfl) rfl) ?_
 refine Lo u52 (v_move (.inl rfl) rfl) ?_
 refine Lo u52 (rfl) ?_
 refine Lo u52 (rfl) ?_
 refine L_nil (K_seq ?_)
 refine B_cond _ rfl (fun hc1 => ?_) (fun hc1 => ?_)
 ·try simp only [qB, qN] at hc1
  refine B_skip (K_seq (B_seq (B_block (B_seq (B_region ?_)))))
  refine Lo u52 (v_move (.inl rfl) rfl) ?_
  refine Lo u52 (v_move (.inl rfl) rfl) ?_
  refine Lo u52 (W18 rfl rfl rfl rfl rfl rfl rfl) ?_
  refine Lo u52 (v_storeC (VVal.int .i64 (-1)) rfl rfl rfl rfl rfl rfl rfl (by first | exact get_app rfl rfl | exact get_out (by assumption) | exact getE0 rfl rfl | exact get_out (get_app rfl rfl) | exact get_app rfl (by assumption) | assumption | (simp only [List.append_assoc, List.singleton_append, List.cons_append, List.nil_append]; refine getE (i := 0) rfl ?_ rfl; simp; done) | (simp only [List.append_assoc, List.singleton_append, List.cons_append, List.nil_append]; refine getE (i := 1) rfl ?_ rfl; simp; done) | (simp only [List.append_assoc, List.singleton_append, List.cons_append, List.nil_append]; refine getE (i := 2) rfl ?_ rfl; simp; done) | (simp only [List.append_assoc, List.singleton_append, List.cons_append, List.nil_append]; refine getE (i := 3) rfl ?_ rfl; simp; done) | (simp [*]; done)) (by show 0 + k * 1 + 1 ≤ _; rw [List.length_map]; first | (rw [ofI_len (by omega)]; omega) | (rw [ofZ_len (by omega)]; omega)) (by exact (set_app rfl).trans (by show H ++ [VBlk.cells (splice (rcN (ofZ l k)) (0 + k * 1) [iI (-1)]) true] = _; rw [← zI_map, spl_I (by rw [zI_len, ofZ_len (by omega)]; omega)]))) ?_
  refine L_nil (K_seq (B_seq (B_seq (B_region ?_))))
  refine Lo u52 (v_const (VVal.int .i64 0) (.inr rfl) rfl) ?_
  refine L_nil (K_seq (B_block ?_))
  refine B_clear (mk 52 4503599627370374) (env' := u52) rfl ?_
  refine B_loopE (fun (j : Nat) => k - j) (fun (j : Nat) => [(6, iI (j : Nat))]) (fun (j : Nat) G => (j ≤ k) ∧ G = H ++ [.cells ((ofI l k (lkV l k j)).map iI) true]) 0 rfl ?_ ?_
  ·refine ⟨?_, (by show _ = H ++ [VBlk.cells (((zI (ofZ l k)).set k (if l.getD k 0 ∈ l.take 0 then _ else -1)).map iI) true]; rw [if_neg (by simp)])⟩
   exact Nat.zero_le _
  rintro j _ ⟨hj, rfl⟩
  refine B_env (env' := u52) rfl ?_
  refine B_seq (B_seq (B_region ?_))
  refine Lo u52 (v_move (.inl rfl) rfl) ?_
  refine Lo u52 (v_move (.inl rfl) rfl) ?_
  refine Lo u52 (rfl) ?_
  refine L_nil (K_seq ?_)
  refine B_cond _ rfl (fun hc2 => ?_) (fun hc2 => ?_)
  ·try simp only [qB, qN] at hc2
   refine B_skip (K_seq (B_seq (B_block (B_seq ?_))))
   refine B_draw [0, 1, 2, 3, 4, 5, 6, 7, 8] #[0, 0, 3, 7, 0, 0, 48, 112, 255] (by kernel_rfl) (by kernel_rfl) (by kernel_rfl) ?_
   refine Oo u52 .calm rfl (v_move (.inl rfl) rfl) ?_
   refine Oo u52 .calm rfl (v_move (.inl rfl) rfl) ?_
   refine Oo u52 .calm rfl (W18 rfl rfl rfl rfl rfl rfl rfl) ?_
   refine Oo u52 .look rfl (W57 rfl rfl rfl rfl) ?_
   refine Oo u52 .calm rfl (v_move (.inl rfl) rfl) ?_
   refine Oo u52 .calm rfl (v_move (.inl rfl) rfl) ?_
   refine Oo u52 .calm rfl (W18 rfl rfl rfl rfl rfl rfl rfl) ?_
   refine Oo u52 .look rfl (W57 rfl rfl rfl rfl) ?_
   refine Oo u52 .calm rfl (rfl) ?_
   refine O_nil [] (by kernel_rfl) (trivial) ?_
   refine K_seq ?_
   refine B_cond _ rfl (fun hc3 => ?_) (fun hc3 => ?_)
   ·try simp only [qB, qN] at hc3
    refine B_region ?_
    refine Lo u52 (v_move (.inl rfl) rfl) ?_
    refine Lo u52 (v_move (.inl rfl) rfl) ?_
    refine Lo u52 (v_move (.inl rfl) rfl) ?_
    refine Lo u52 (v_move (.inl rfl) rfl) ?_
    refine Lo u52 (W18 rfl rfl rfl rfl rfl rfl rfl) ?_
    refine Lo u52 (W58 rfl rfl rfl rfl) ?_
    refine Lo u52 (W18 rfl rfl rfl rfl rfl rfl rfl) ?_
    refine Lo u52 (W59 rfl rfl rfl rfl rfl rfl rfl) ?_
    refine L_nil (K_blk (K_seq (B_region ?_)))
    refine Lo u52 (v_move (.inl rfl) rfl) ?_
    refine Lo u52 (W14 rfl rfl rfl) ?_
    refine Lo u52 (v_move (.inr rfl) rfl) ?_
    refine L_nil ?_
    refine K_loop (mk 52 4503599627370374) (env' := u52) rfl ⟨j + 1, ?_, rfl, ?_⟩
    ·first | omega | (simp only []; omega)
    ·first | exact ⟨by omega, by rw [ofI_get (by omega) (by omega), lkV_yes (by omega) (by assumption), (by assumption : l.getD j 0 = l.getD k 0)]⟩ | exact ⟨by omega, by rw [lkV_no (by omega) (by assumption)]⟩
   ·try simp only [qB, qN] at hc3
    refine B_skip (K_blk (K_seq (B_region ?_)))
    refine Lo u52 (v_move (.inl rfl) rfl) ?_
    refine Lo u52 (W14 rfl rfl rfl) ?_
    refine Lo u52 (v_move (.inr rfl) rfl) ?_
    refine L_nil ?_
    refine K_loop (mk 52 4503599627370374) (env' := u52) rfl ⟨j + 1, ?_, rfl, ?_⟩
    ·first | omega | (simp only []; omega)
    ·first | exact ⟨by omega, by rw [ofI_get (by omega) (by omega), lkV_yes (by omega) (by assumption), (by assumption : l.getD j 0 = l.getD k 0)]⟩ | exact ⟨by omega, by rw [lkV_no (by omega) (by assumption)]⟩
  ·try simp only [qB, qN] at hc2
   refine B_exit (K_seqX (K_loopX (K_blkX (K_seq (B_seq ?_)))))
   obtain rfl : k = j := by omega
   have hat := ofI_at (l := l) (k := k) (v := lkV l k k) (by omega)
   have hle := @ofK_le l k
   refine B_region ?_
   refine Lo u52 (v_move (.inl rfl) rfl) ?_
   refine Lo u52 (v_move (.inl rfl) rfl) ?_
   refine Lo u52 (W18 rfl rfl rfl rfl rfl rfl rfl) ?_
   refine Lo u52 (W57 rfl rfl rfl rfl) ?_
   refine Lo u52 (rfl) ?_
   refine L_nil (K_seq ?_)
   refine B_cond _ rfl (fun hc4 => ?_) (fun hc4 => ?_)
   ·try simp only [qB, qN] at hc4
    have hm : l.getD k 0 ∉ (ofK l k).2 := by rw [mem_ofK (by omega)]; intro e; rw [hat] at hc4; unfold lkV at hc4; rw [if_pos e] at hc4; omega
    refine B_seq (B_region ?_)
    refine Lo u52 (v_move (.inl rfl) rfl) ?_
    refine Lo u52 (v_move (.inl rfl) rfl) ?_
    refine Lo u52 (v_move (.inl rfl) rfl) ?_
    refine Lo u52 (W18 rfl rfl rfl rfl rfl rfl rfl) ?_
    refine Lo u52 (W5b rfl rfl rfl rfl rfl rfl rfl) ?_
    refine L_nil (K_seq (B_region ?_))
    refine Lo u52 (v_move (.inl rfl) rfl) ?_
    refine Lo u52 (W14 rfl rfl rfl) ?_
    refine Lo u52 (v_move (.inr rfl) rfl) ?_
    refine L_nil (K_blk (K_seq (B_region ?_)))
    refine Lo u52 (v_move (.inl rfl) rfl) ?_
    refine Lo u52 (W14 rfl rfl rfl) ?_
    refine Lo u52 (v_move (.inr rfl) rfl) ?_
    refine L_nil ?_
    first
      | (have hE : (((ofK l k).2.length : Nat) : Int) + 1 = ((ofK l (k + 1)).2.length : Nat) := by rw [ofK_no hm, List.length_append]; rfl); rw [hE]
      | (have hE : (ofK l k).2.length = (ofK l (k + 1)).2.length := by rw [ofK_yes hm]); rw [hE]
    refine K_loop (mk 52 4503599627370438) (env' := u52) rfl ⟨k + 1, ?_, rfl, ?_⟩
    ·first | omega | (simp only []; omega)
    ·first | exact ⟨by omega, by rw [ofI_nat, zI_map, ofZ_set (by omega) (congrArg Prod.fst (ofK_no hm))]⟩ | exact ⟨by omega, by rw [hat2, ofI_nat, zI_map, ofZ_set (by omega) (congrArg Prod.fst (ofK_yes hm))]⟩
   ·try simp only [qB, qN] at hc4
    have hm : l.getD k 0 ∈ (ofK l k).2 := by rw [mem_ofK (by omega)]; refine Decidable.byContradiction fun e => ?_; rw [hat] at hc4; unfold lkV at hc4; rw [if_neg e] at hc4; omega
    have hat2 : lkV l k k = ((ofK l k).2.idxOf (l.getD k 0) : Nat) := if_pos ((mem_ofK (by omega)).1 hm)
    refine B_skip (K_blk (K_seq (B_region ?_)))
    refine Lo u52 (v_move (.inl rfl) rfl) ?_
    refine Lo u52 (W14 rfl rfl rfl) ?_
    refine Lo u52 (v_move (.inr rfl) rfl) ?_
    refine L_nil ?_
    first
      | (have hE : (((ofK l k).2.length : Nat) : Int) + 1 = ((ofK l (k + 1)).2.length : Nat) := by rw [ofK_no hm, List.length_append]; rfl); rw [hE]
      | (have hE : (ofK l k).2.length = (ofK l (k + 1)).2.length := by rw [ofK_yes hm]); rw [hE]
    refine K_loop (mk 52 4503599627370438) (env' := u52) rfl ⟨k + 1, ?_, rfl, ?_⟩
    ·first | omega | (simp only []; omega)
    ·first | exact ⟨by omega, by rw [ofI_nat, zI_map, ofZ_set (by omega) (congrArg Prod.fst (ofK_no hm))]⟩ | exact ⟨by omega, by rw [hat2, ofI_nat, zI_map, ofZ_set (by omega) (congrArg Prod.fst (ofK_yes hm))]⟩
 ·try simp only [qB, qN] at hc1
  refine B_exit (K_seqX (K_loopX (K_blkX (K_seq (B_seq ?_)))))
  obtain rfl : k = l.length := by omega
  rw [ofZ_all]
  refine B_gh (Gh.freezeL (l := rcN (ofP l)) 3 0 rfl rfl (cellsAt_all (by rw [List.length_map, ofP_len']; rfl)) (Nat.le_refl _) rfl) ?_
  refine B_region ?_
  refine Lo u52 (v_move (.inl rfl) rfl) ?_
  refine Lo u52 (v_move (.inr rfl) rfl) ?_
  refine L_nil (K_seq (B_ret ?_))
  refine W5c (.inr rfl) (vres_tmp rfl rfl) ?_
  exact ⟨by show _ = VVal.fsl (rcN (ofP l)) (ofP l).length 1 false; rw [ofP_len']; rfl, rfl⟩
theorem fBefore_spec {x : SW} (H : VHeap) (a b : List Int) (ha : a.length ≤ 30) (hb : b.length ≤ 30) : F (psys x) 36 [fzI a, fzI b] H fun v G => v = .bool (bef a b) ∧ G = H := by
 refine F_body Tryd.func36 rfl u71 rfl ?_
 refine B_seq (B_region ?_)
 refine Lo u71 (v_const (VVal.bool false) (.inr rfl) rfl) ?_
 refine L_nil (K_seq (B_seq (B_seq (B_region ?_))))
 refine Lo u71 (v_move (.inl rfl) rfl) ?_
 refine Lo u71 (rfl) ?_
 refine Lo u71 (v_move (.inl rfl) rfl) ?_
 refine Lo u71 (rfl) ?_
 refine Lo u71 (rfl) ?_
 refine Lo u71 (v_move (.inl rfl) rfl) ?_
 refine L_split 14 (env1 := u71) (env2 := u71) rfl rfl rfl (fun hg1 => ?_) (fun hg1 => ?_)
 ·try simp only [qB, qN] at hg1
  refine Lf u71 ?_
  refine Lf u71 ?_
  refine Lf u71 ?_
  refine Lo u71 (v_pickTC (VVal.bool true) rfl rfl rfl) ?_
  refine L_nil (K_seq ?_)
  refine B_true rfl rfl ?_
  refine B_seq (B_region ?_)
  refine Lo u71 (v_const (VVal.bool false) (.inr rfl) rfl) ?_
  refine L_nil (K_seq (B_ret (K_seqR ?_)))
  refine W10 (.inr rfl) (vres_tmp rfl rfl) ?_
  exact W5e
 ·try simp only [qB, qN] at hg1
  refine Lo u71 (v_move (.inl rfl) rfl) ?_
  refine Lo u71 (rfl) ?_
  refine Lo u71 (rfl) ?_
  refine Lo u71 (v_pickF rfl rfl rfl) ?_
  refine L_nil (K_seq ?_)
  refine B_cond _ rfl (fun hc2 => ?_) (fun hc2 => ?_)
  ·try simp only [qB, qN] at hc2
   refine B_seq (B_region ?_)
   refine Lo u71 (v_const (VVal.bool false) (.inr rfl) rfl) ?_
   refine L_nil (K_seq (B_ret (K_seqR ?_)))
   refine W10 (.inr rfl) (vres_tmp rfl rfl) ?_
   exact W5e
  ·try simp only [qB, qN] at hc2
   refine B_skip (K_seq (B_seq (B_region ?_)))
   refine Lo u71 (v_move (.inl rfl) rfl) ?_
   refine L_call rfl rfl rfl (by exact fOf_spec _ a (by omega)) ?_
   rintro _ _ ⟨rfl, rfl⟩
   refine Le u71 ?_
   refine Lo u71 (v_move (.inr rfl) rfl) ?_
   refine L_nil (K_seq (B_seq (B_region ?_)))
   refine Lo u71 (v_move (.inl rfl) rfl) ?_
   refine L_call rfl rfl rfl (by exact fOf_spec _ b (by omega)) ?_
   rintro _ _ ⟨rfl, rfl⟩
   refine Le u71 ?_
   refine Lo u71 (v_move (.inr rfl) rfl) ?_
   refine L_nil (K_seq (B_seq (B_seq ?_)))
   have hl : a.length = b.length := by omega
   have hE := bef_is hl (by omega)
   have hla := @ofP_len' a
   have hlb := @ofP_len' b
   refine B_region ?_
   refine Lo u71 (v_const (VVal.int .i64 0) (.inr rfl) rfl) ?_
   refine L_nil (K_seq (B_block ?_))
   refine B_clear (mk 71 2361183241434822606620) (env' := u71) rfl ?_
   refine B_loopE (fun (k : Nat) => a.length - k) (fun (k : Nat) => [(7, iI (k : Nat))]) (fun (k : Nat) G => (k ≤ a.length ∧ ∀ i, i < k → (ofP a).getD i 0 = (ofP b).getD i 0) ∧ G = H ++ []) 0 rfl ?_ ?_
   ·refine ⟨?_, rfl⟩
    exact ⟨Nat.zero_le _, fun i h => by omega⟩
   rintro k _ ⟨⟨hk, hall⟩, rfl⟩
   refine B_env (env' := u71) rfl ?_
   refine B_seq (B_seq (B_region ?_))
   refine Lo u71 (v_move (.inl rfl) rfl) ?_
   refine Lo u71 (v_move (.inl rfl) rfl) ?_
   refine Lo u71 (rfl) ?_
   refine Lo u71 (rfl) ?_
   refine L_nil (K_seq ?_)
   refine B_cond _ rfl (fun hc3 => ?_) (fun hc3 => ?_)
   ·try simp only [qB, qN] at hc3
    refine B_skip (K_seq (B_seq (B_block (B_seq ?_))))
    refine B_draw [0, 1, 2, 3, 4, 5, 6, 7, 8] #[0, 0, 3, 7, 0, 0, 48, 112, 255] (by kernel_rfl) (by kernel_rfl) (by kernel_rfl) ?_
    refine Oo u71 .calm rfl (v_move (.inl rfl) rfl) ?_
    refine Oo u71 .calm rfl (v_move (.inl rfl) rfl) ?_
    refine Oo u71 .calm rfl (W18 rfl rfl rfl rfl rfl rfl rfl) ?_
    refine Oo u71 .look rfl (W4u rfl rfl rfl rfl) ?_
    refine Oo u71 .calm rfl (v_move (.inl rfl) rfl) ?_
    refine Oo u71 .calm rfl (v_move (.inl rfl) rfl) ?_
    refine Oo u71 .calm rfl (W18 rfl rfl rfl rfl rfl rfl rfl) ?_
    refine Oo u71 .look rfl (W4u rfl rfl rfl rfl) ?_
    refine Oo u71 .calm rfl (rfl) ?_
    refine O_nil [] (by kernel_rfl) (trivial) ?_
    refine K_seq ?_
    refine B_cond _ rfl (fun hc4 => ?_) (fun hc4 => ?_)
    ·try simp only [qB, qN] at hc4
     refine B_seq ?_
     refine B_draw [0, 1, 2, 3, 4, 5, 6, 7, 8, 9] #[0, 0, 3, 7, 0, 0, 48, 112, 255, 511] (by kernel_rfl) (by kernel_rfl) (by kernel_rfl) ?_
     refine Oo u71 .calm rfl (v_move (.inl rfl) rfl) ?_
     refine Oo u71 .calm rfl (v_move (.inl rfl) rfl) ?_
     refine Oo u71 .calm rfl (W18 rfl rfl rfl rfl rfl rfl rfl) ?_
     refine Oo u71 .look rfl (W4u rfl rfl rfl rfl) ?_
     refine Oo u71 .calm rfl (v_move (.inl rfl) rfl) ?_
     refine Oo u71 .calm rfl (v_move (.inl rfl) rfl) ?_
     refine Oo u71 .calm rfl (W18 rfl rfl rfl rfl rfl rfl rfl) ?_
     refine Oo u71 .look rfl (W4u rfl rfl rfl rfl) ?_
     refine Oo u71 .calm rfl (rfl) ?_
     refine Oo u71 .calm rfl (v_move (.inr rfl) rfl) ?_
     refine O_nil [] (by kernel_rfl) (trivial) ?_
     refine K_seq (B_ret (K_blkR (K_seqR (K_loopR (K_blkR (K_seqR ?_))))))
     refine W10 (.inr rfl) (vres_tmp rfl rfl) ?_
     exact W5e
    ·try simp only [qB, qN] at hc4
     refine B_skip (K_blk (K_seq (B_region ?_)))
     refine Lo u71 (v_move (.inl rfl) rfl) ?_
     refine Lo u71 (W14 rfl rfl rfl) ?_
     refine Lo u71 (v_move (.inr rfl) rfl) ?_
     refine L_nil ?_
     refine K_loop (mk 71 2361183241434822606620) (env' := u71) rfl ⟨k + 1, ?_, rfl, ?_⟩
     ·first | omega | (simp only []; omega)
     ·exact ⟨⟨by omega, fun j hj => by by_cases e : j = k; (subst e; omega); exact hall j (by omega)⟩, rfl⟩
   ·try simp only [qB, qN] at hc3
    refine B_exit (K_seqX (K_loopX (K_blkX (K_seq (B_seq (B_seq ?_))))))
    have h0 : cmpI (zI (ofP a)) (zI (ofP b)) = 0 := cmpI_same (by rw [zI_len, zI_len, hla, hlb, hl]) (fun i hi => by rw [zI_len] at hi; rw [zI_getD hi, zI_getD (by omega), hall i (by omega)])
    refine B_region ?_
    refine Lo u71 (v_const (VVal.int .i64 0) (.inr rfl) rfl) ?_
    refine L_nil (K_seq (B_block ?_))
    refine B_clear (mk 71 2361183241434822606588) (env' := u71) rfl ?_
    refine B_loopE (fun (m : Nat) => a.length - m) (fun (m : Nat) => [(8, iI (m : Nat))]) (fun (m : Nat) G => (m ≤ a.length ∧ ∀ i, i < m → a.getD i 0 = b.getD i 0) ∧ G = H ++ []) 0 rfl ?_ ?_
    ·refine ⟨?_, rfl⟩
     exact ⟨Nat.zero_le _, fun i h => by omega⟩
    rintro m _ ⟨⟨hm, hall2⟩, rfl⟩
    refine B_env (env' := u71) rfl ?_
    refine B_seq (B_seq (B_region ?_))
    refine Lo u71 (v_move (.inl rfl) rfl) ?_
    refine Lo u71 (v_move (.inl rfl) rfl) ?_
    refine Lo u71 (rfl) ?_
    refine Lo u71 (rfl) ?_
    refine L_nil (K_seq ?_)
    refine B_cond _ rfl (fun hc5 => ?_) (fun hc5 => ?_)
    ·try simp only [qB, qN] at hc5
     refine B_skip (K_seq (B_seq (B_block (B_seq ?_))))
     refine B_draw [0, 1, 2, 3, 4, 5, 6, 7, 8] #[0, 0, 3, 7, 0, 0, 48, 112, 255] (by kernel_rfl) (by kernel_rfl) (by kernel_rfl) ?_
     refine Oo u71 .calm rfl (v_move (.inl rfl) rfl) ?_
     refine Oo u71 .calm rfl (v_move (.inl rfl) rfl) ?_
     refine Oo u71 .calm rfl (W18 rfl rfl rfl rfl rfl rfl rfl) ?_
     refine Oo u71 .look rfl (W4u rfl rfl rfl rfl) ?_
     refine Oo u71 .calm rfl (v_move (.inl rfl) rfl) ?_
     refine Oo u71 .calm rfl (v_move (.inl rfl) rfl) ?_
     refine Oo u71 .calm rfl (W18 rfl rfl rfl rfl rfl rfl rfl) ?_
     refine Oo u71 .look rfl (W4u rfl rfl rfl rfl) ?_
     refine Oo u71 .calm rfl (rfl) ?_
     refine O_nil [] (by kernel_rfl) (trivial) ?_
     refine K_seq ?_
     refine B_cond _ rfl (fun hc6 => ?_) (fun hc6 => ?_)
     ·try simp only [qB, qN] at hc6
      refine B_seq ?_
      refine B_draw [0, 1, 2, 3, 4, 5, 6, 7, 8, 9] #[0, 0, 3, 7, 0, 0, 48, 112, 255, 511] (by kernel_rfl) (by kernel_rfl) (by kernel_rfl) ?_
      refine Oo u71 .calm rfl (v_move (.inl rfl) rfl) ?_
      refine Oo u71 .calm rfl (v_move (.inl rfl) rfl) ?_
      refine Oo u71 .calm rfl (W18 rfl rfl rfl rfl rfl rfl rfl) ?_
      refine Oo u71 .look rfl (W4u rfl rfl rfl rfl) ?_
      refine Oo u71 .calm rfl (v_move (.inl rfl) rfl) ?_
      refine Oo u71 .calm rfl (v_move (.inl rfl) rfl) ?_
      refine Oo u71 .calm rfl (W18 rfl rfl rfl rfl rfl rfl rfl) ?_
      refine Oo u71 .look rfl (W4u rfl rfl rfl rfl) ?_
      refine Oo u71 .calm rfl (rfl) ?_
      refine Oo u71 .calm rfl (v_move (.inr rfl) rfl) ?_
      refine O_nil [] (by kernel_rfl) (trivial) ?_
      refine K_seq (B_ret (K_blkR (K_seqR (K_loopR (K_blkR (K_seqR ?_))))))
      refine W10 (.inr rfl) (vres_tmp rfl rfl) ?_
      exact W5e
     ·try simp only [qB, qN] at hc6
      refine B_skip (K_blk (K_seq (B_region ?_)))
      refine Lo u71 (v_move (.inl rfl) rfl) ?_
      refine Lo u71 (W14 rfl rfl rfl) ?_
      refine Lo u71 (v_move (.inr rfl) rfl) ?_
      refine L_nil ?_
      refine K_loop (mk 71 2361183241434822606588) (env' := u71) rfl ⟨m + 1, ?_, rfl, ?_⟩
      ·first | omega | (simp only []; omega)
      ·exact ⟨⟨by omega, fun j hj => by by_cases e : j = m; (subst e; assumption); exact hall2 j (by omega)⟩, rfl⟩
    ·try simp only [qB, qN] at hc5
     refine B_exit (K_seqX (K_loopX (K_blkX (K_seq (B_seq (B_region ?_))))))
     refine Lo u71 (v_const (VVal.bool false) (.inr rfl) rfl) ?_
     refine L_nil (K_seq (B_ret ?_))
     refine W10 (.inr rfl) (vres_tmp rfl rfl) ?_
     exact W5e
end Go.Proofs.YtnbihdflnjpinaaDoor.VT
