/- Proved: Rows.SolveCheckCardSaid, the statement SolveCheck with its card, of the given program at the commit; no conditions beyond those in the statement. -/
import Derived.Test.YtnbihdflnjpinaaDoorC1x13
set_option autoImplicit false
set_option linter.unusedVariables false
set_option linter.unusedSimpArgs false
set_option maxHeartbeats 4000000
set_option maxRecDepth 100000
namespace Go.Proofs.YtnbihdflnjpinaaDoor.VT
open Go Go.V Go.RowKit
theorem W54 {T : TypeId → Option VTy} {H : VHeap} {op : Op} {ρ : Operand → VVal} {t : TypeId} {a : Operand} {y : VTy} {p : VVal} {n : Nat} {vs : List VVal} (ho : op = .load t a) (ha : ρ a = p) (hy : T t = some y) (hd : isAggDesc y.desc = true) (hn : y.size = n) (h : LdOkA H p n vs := by first | exact .inl ⟨_, _, rfl, by first | rfl | assumption⟩ | exact .inr ⟨_, _, _, _, rfl, by first | exact get_app rfl rfl | exact get_out (by assumption) | exact getE0 rfl rfl | exact get_out (get_app rfl rfl) | exact get_app rfl (by assumption) | assumption | (simp only [List.append_assoc, List.singleton_append, List.cons_append, List.nil_append]; refine getE (i := 0) rfl ?_ rfl; simp; done) | (simp only [List.append_assoc, List.singleton_append, List.cons_append, List.nil_append]; refine getE (i := 1) rfl ?_ rfl; simp; done) | (simp only [List.append_assoc, List.singleton_append, List.cons_append, List.nil_append]; refine getE (i := 2) rfl ?_ rfl; simp; done) | (simp only [List.append_assoc, List.singleton_append, List.cons_append, List.nil_append]; refine getE (i := 3) rfl ?_ rfl; simp; done) | (simp [*]; done), by first | rfl | assumption⟩) : vop T ρ H op = some (.agg vs, H) := v_ldA ho ha hy hd hn h
theorem W55 {T : TypeId → Option VTy} {H : VHeap} {op : Op} {ρ : Operand → VVal} {t : TypeId} {a : Operand} {y : VTy} {p v : VVal} (ho : op = .load t a) (ha : ρ a = p) (hy : T t = some y) (hd : isAggDesc y.desc = false) (h : LdOk H p v := by first | exact .inl ⟨_, _, rfl, by first | rfl | assumption⟩ | exact .inr ⟨_, _, _, _, rfl, by first | exact get_app rfl rfl | exact get_out (by assumption) | exact getE0 rfl rfl | exact get_out (get_app rfl rfl) | exact get_app rfl (by assumption) | assumption | (simp only [List.append_assoc, List.singleton_append, List.cons_append, List.nil_append]; refine getE (i := 0) rfl ?_ rfl; simp; done) | (simp only [List.append_assoc, List.singleton_append, List.cons_append, List.nil_append]; refine getE (i := 1) rfl ?_ rfl; simp; done) | (simp only [List.append_assoc, List.singleton_append, List.cons_append, List.nil_append]; refine getE (i := 2) rfl ?_ rfl; simp; done) | (simp only [List.append_assoc, List.singleton_append, List.cons_append, List.nil_append]; refine getE (i := 3) rfl ?_ rfl; simp; done) | (simp [*]; done), by first | rfl | assumption⟩) : vop T ρ H op = some (v, H) := v_ld ho ha hy hd h
theorem W56 {T : TypeId → Option VTy} {H : VHeap} {op : Op} {ρ : Operand → VVal} {t e : TypeId} {x i : Operand} {y z : VTy} {k : IntKind} {n : Int} {p v : VVal} {es : Nat} (ho : op = .indexAddr t x i) (hx : ρ x = p) (hi : ρ i = .int k n) (hy : T t = some y) (hd : y.desc = .slice e) (hz : T e = some z) (hs : z.size = es) (h : IxOk p es n v := by first | exact .inl ⟨_, _, _, rfl, by first | assumption | omega | (simp [*]; done) | (simp at *; omega), rfl⟩ | exact .inr ⟨_, _, _, _, _, rfl, by first | assumption | omega | (simp [*]; done) | (simp at *; omega), rfl⟩) : vop T ρ H op = some (v, H) := v_ix ho hx hi hy hd hz hs h
theorem W57 {T : TypeId → Option VTy} {H : VHeap} {op : Op} {ρ : VEnv} {H' : VHeap} {t : TypeId} {a : Operand} {i : Nat} {v : VVal} {y : VTy} {b off : Nat} {cs new : List VVal} (ho : op = .store t a (.tmp i)) (hv : ρ[i]? = some v) (ha : ρ.eval a = .ptr (some (b, off))) (hy : T t = some y) (hx : v.cells = some new) (hn : new.length = y.size) (h1 : new.all VVal.one = true) (hb : H[b]? = some (.cells cs true) := by exact get_app (List.length_set) rfl) (hl : off + new.length ≤ cs.length := by first | exact Nat.le_of_ble_eq_true rfl | (simp only [List.length_map, List.length_cons, List.length_nil]; omega) | omega | (simp; done) | (simp; omega)) (hH : H.set b (.cells (splice cs off new) true) = H' := by exact set_app (List.length_set)) : vop T ρ.eval H op = some (.skip, H') := v_storeT ho hv ha hy hx hn h1 hb hl hH
theorem W58 {S : V.Sys} {H : VHeap} {fn : Func} {ex : Exit} {env : VEnv} {B L : VHeap} {v : VVal} {R : VVal → VHeap → Prop} (hx : ex = .normal ∨ ex = .ret) (hv : vresults S.C.T env (B ++ L) fn.results = some v) (h : R v B) (hB : BaseOk H B := by exact BaseOk.set (BaseOk.refl _) _ rfl) (hu : v.under H.length = true := by show ((fzN _).under _ && (true && true)) = true; rw [show (fzN (plN a (lst (blkN (wsP p) a a.length) 0#64))).under _ = true from mapN_under _ _]; rfl) : fnK S fn H R ex env (B ++ L) := E_app hx hv hB hu h
theorem Least_some {x : SW} (H : VHeap) (y : Nat) (g : Gz) (hs : H[y]? = some (gaB g)) (p : Pb) (hp : PbL p) (hg0 : pck p = 0) (a : List Nat) (hf : (frm (kpB (wsP p) (rssP p)) (kpG p.users.toNat (wsP p) (rssP p)) (wsP p).length [] 0).2 = some a) (d9 : Gz) (z9 : List (Gz × List Nat)) (hq : (usT (blkN (wsP p) a a.length) [] 0#64).1 = (d9, (lst (blkN (wsP p) a a.length) 0#64)) :: z9) : F (psys x) 22 [.ptr (some (y, 0)), .agg (pbB p)] H fun v G => v = .tuple [fzN (plN a (lst (blkN (wsP p) a a.length) 0#64)), .bool true] ∧ G = H.set y (gaB (g + (frm (kpB (wsP p) (rssP p)) (kpG p.users.toNat (wsP p) (rssP p)) (wsP p).length [] 0).1 + d9)) := by
 have hg : Go.V.Good p := pck_good.1 hg0
 have hy := lt_of_get hs
 obtain ⟨_, hal, ha, _, _⟩ := fnd_ok hf
 have hw : a.length ≤ (wsP p).length := by omega
 have hn : (wsP p).length ≤ 1000000 := by rw [wsP_len]; exact hp.w
 obtain ⟨t9, hT9⟩ : ∃ t9, tv (plT a (usT (blkN (wsP p) a a.length) [] 0#64)) = (d9, fzN (plN a (lst (blkN (wsP p) a a.length) 0#64))) :: t9 := ⟨_, by unfold plT; rw [hq]; rfl⟩
 refine F_body Tryd.func22 rfl u35 rfl ?_
 refine B_seq (B_region ?_)
 refine Lo u35 (v_boxT rfl rfl rfl) ?_
 refine Lo u35 (v_alloc rfl rfl) ?_
 refine Lo u35 (v_alloc rfl rfl) ?_
 refine L_nil (K_seq (B_seq (B_seq ?_)))
 refine B_gh (Gh.freezePtrL (cs := pbB p) 3 0 rfl rfl rfl) ?_
 refine B_region ?_
 refine Lo u35 (W54 rfl rfl rfl rfl rfl) ?_
 refine L_call rfl rfl rfl (by exact sCheck_spec _ _ hp) ?_
 rintro _ _ ⟨rfl, rfl⟩
 refine Le u35 ?_
 refine Lo u35 (v_is false rfl (by rw [hg0]; rfl)) ?_
 refine L_nil (K_seq ?_)
 refine B_false rfl rfl ?_
 refine B_skip (K_seq (B_seq ?_))
 refine B_draw [0, 1, 2, 3, 4, 5] #[0, 0, 2, 6, 15, 31] (by kernel_rfl) (by kernel_rfl) (by kernel_rfl) ?_
 refine Oo u35 .look rfl (W54 rfl rfl rfl rfl rfl) ?_
 refine Oo u35 .calm rfl (v_move (.inl rfl) rfl) ?_
 refine Oo u35 .calm rfl (rfl) ?_
 refine Oo u35 .calm rfl (rfl) ?_
 refine O_call (env' := u35) rfl rfl rfl rfl rfl (by exact New_N _ p y (by simp; omega) hg) (by first | exact Nat.le_refl _ | simp) rfl rfl ?_
 refine Oo u35 .calm rfl (v_move (.inr rfl) rfl) ?_
 refine O_nil [] (by kernel_rfl) (trivial) ?_
 refine K_seq (B_seq (B_seq (B_region ?_)))
 refine Lo u35 (rfl) ?_
 refine Lo u35 (W55 rfl rfl rfl rfl) ?_
 refine Lo u35 (rfl) ?_
 refine Lo u35 (v_move (.inl rfl) rfl) ?_
 refine Lo u35 ((rfl : vop _ _ _ _ = some (kpV p.users.toNat (wsP p) (rssP p) y, _))) ?_
 refine L_call rfl rfl rfl (by exact Search_in H _ hs hg) ?_
 rintro _ _ ⟨rfl, rfl⟩; rw [hf]
 refine Le u35 ?_
 refine Lo u35 (rfl) ?_
 refine Lo u35 (v_const (VVal.int .i64 0) (.inl rfl) rfl) ?_
 refine L_nil (K_seq (B_block ?_))
 refine B_clear (mk 35 34301017999) (env' := u35) rfl ?_
 refine B_loopE (fun (k : Nat) => 0) (fun (k : Nat) => [(25, iI (k : Nat))]) (fun (k : Nat) G => (k = 0) ∧ G = H.set y (gaB (g + (frm (kpB (wsP p) (rssP p)) (kpG p.users.toNat (wsP p) (rssP p)) (wsP p).length [] 0).1)) ++ [.dead, .cells [niS] true, .cells [.bool false] true]) 0 rfl ?_ ?_
 ·refine ⟨?_, rfl⟩
  rfl
 rintro k _ ⟨rfl, rfl⟩
 refine B_env (env' := u35) rfl ?_
 refine B_seq (B_region ?_)
 refine Lo u35 (rfl) ?_
 refine L_nil (K_seq (B_seq ?_))
 refine B_cond _ rfl (fun hc1 => ?_) (fun hc1 => ?_)
 ·try simp only [qB, qN] at hc1
  refine B_skip (K_seq (B_seq (B_block (B_seq (B_region ?_)))))
  refine Lo u35 (W56 rfl rfl rfl rfl rfl rfl rfl) ?_
  refine Lo u35 (W55 rfl rfl rfl rfl) ?_
  refine Lo u35 (v_move (.inr rfl) rfl) ?_
  refine L_nil (K_seq (B_seq (B_region ?_)))
  refine Lo u35 (v_move (.inl rfl) rfl) ?_
  refine Lo u35 (v_move (.inl rfl) rfl) ?_
  refine L_call rfl rfl rfl (by exact Plans_spec _ y (by simp; omega) a) ?_
  rintro _ _ ⟨rfl, rfl⟩
  refine Le u35 ?_
  refine L_nil (K_seq (B_block ?_))
  refine B_clear (mk 35 32153534351) (env' := u35) rfl ?_
  refine B_rangePJ (y) (tv (plT a (usT (blkN (wsP p) a a.length) [] 0#64))) ((usT (blkN (wsP p) a a.length) [] 0#64).2) (fun l0 h => by cases h) rfl (fun l9 G9 K9 hg9 hI9 => Plans1_spec y l9 a ha hw hn G9 _ K9 hg9.choose_spec hI9) (σ := Gz × VVal × Bool) (fun k s => H.set y (gaB s.1) ++ [.dead, .cells [s.2.1] true, .cells [.bool s.2.2] true, k]) (g + (frm (kpB (wsP p) (rssP p)) (kpG p.users.toNat (wsP p) (rssP p)) (wsP p).length [] 0).1, niS, false) (fun k => by simp) (fun k s => by simp) (fun k s => by rw [show ((H.set y _) ++ _ : VHeap).length = H.length + 3 by simp]; exact get_app (List.length_set) rfl) (fun k k1 s => by rw [show ((H.set y _) ++ _ : VHeap).length = H.length + 3 by simp]; exact set_app (List.length_set)) (fun s => s.1) (fun d s => (s.1 + d, s.2)) (fun pre s => pre = [] ∧ s = (g + (frm (kpB (wsP p) (rssP p)) (kpG p.users.toNat (wsP p) (rssP p)) (wsP p).length [] 0).1, niS, false)) (fun k s pre hI => by exact get_append (List.getElem?_set_self hy)) (fun k s d pre hI => by rw [set_out (by rw [List.length_set]; exact hy), List.set_set]) ?_ (fun j pre c s => (j = Code.ret ∧ (s = (g + (frm (kpB (wsP p) (rssP p)) (kpG p.users.toNat (wsP p) (rssP p)) (wsP p).length [] 0).1 + d9, fzN (plN a (lst (blkN (wsP p) a a.length) 0#64)), true)))) rfl ?_ ?_ ?_
  ·exact ⟨rfl, rfl⟩
  ·intro pre d c post s hx hI Lp kr kb hkr hkb
   obtain ⟨g8, v8, b8⟩ := s
   try dsimp only at hI ⊢
   obtain ⟨rfl, hI⟩ := hI
   obtain ⟨rfl, rfl, rfl⟩ : g8 = _ ∧ v8 = _ ∧ b8 = _ := by simpa using hI
   obtain ⟨rfl, rfl⟩ : d = d9 ∧ c = fzN (plN a (lst (blkN (wsP p) a a.length) 0#64)) := by
    have h9 : (d9, fzN (plN a (lst (blkN (wsP p) a a.length) 0#64))) :: t9 = (d, c) :: post := (by rw [← hT9]; exact hx)
    injection h9 with h1 h2; injection h1 with h3 h4; exact ⟨h3.symm, h4.symm⟩
   refine B_env (env' := u35) rfl ?_
   refine B_region ?_
   refine Lo u35 (v_move (.inr rfl) rfl) ?_
   refine L_nil ?_
   refine ⟨rfl, (g + (frm (kpB (wsP p) (rssP p)) (kpG p.users.toNat (wsP p) (rssP p)) (wsP p).length [] 0).1 + d, niS, false), rfl, ?_⟩
   try dsimp only
   refine B_heap (H' := H.set y (gaB (g + (frm (kpB (wsP p) (rssP p)) (kpG p.users.toNat (wsP p) (rssP p)) (wsP p).length [] 0).1 + d)) ++ ([.dead, .cells [niS] true, .cells [.bool false] true, kb] ++ Lp)) (by simp) ?_
   refine B_block (B_seq (B_region ?_))
   refine Lo u35 (v_move (.inl rfl) rfl) ?_
   refine Lo u35 (W57 rfl rfl rfl rfl rfl rfl rfl) ?_
   refine Lo u35 (v_storeC (VVal.bool true) rfl rfl rfl rfl rfl rfl rfl (by exact get_app (List.length_set) rfl) (by first | exact Nat.le_of_ble_eq_true rfl | (simp only [List.length_map, List.length_cons, List.length_nil]; omega) | omega | (simp; done) | (simp; omega)) (by exact set_app (List.length_set))) ?_
   refine L_nil (K_seq (B_ret (K_blkR ?_)))
   refine ⟨(g + (frm (kpB (wsP p) (rssP p)) (kpG p.users.toNat (wsP p) (rssP p)) (wsP p).length [] 0).1 + d, fzN (plN a (lst (blkN (wsP p) a a.length) 0#64)), true), [], (by simp; exact ⟨rfl, rfl⟩), .inr ⟨Code.ret, rfl, ⟨rfl, ?_⟩⟩⟩
   rfl
  ·intro s k hk hI J9
   obtain ⟨g8, v8, b8⟩ := s
   try dsimp only at hI ⊢
   exfalso
   obtain ⟨h8, _⟩ := hI
   rw [hT9] at h8; cases h8
  ·rintro j pre c post s k hk hx (⟨rfl, hX⟩) J9
   obtain ⟨g8, v8, b8⟩ := s
   try dsimp only
   obtain ⟨rfl, rfl, rfl⟩ : g8 = _ ∧ v8 = _ ∧ b8 = _ := by simpa using hX
   rw [List.append_assoc (H.set _ _)]
   refine J_ret ?_
   refine K_blkR (K_blkR (K_seqR (K_loopR (K_blkR (K_seqR ?_)))))
   refine W58 (.inr rfl) (vres_cells2 rfl rfl rfl rfl rfl rfl rfl (by exact get_app (List.length_set) rfl) (by rfl) (by exact get_app (List.length_set) rfl) (by rfl)) ?_
   exact ⟨rfl, rfl⟩
 ·try simp only [qB, qN] at hc1
  exfalso; simp at hc1
end Go.Proofs.YtnbihdflnjpinaaDoor.VT

set_option autoImplicit false
set_option linter.unusedVariables false
set_option linter.unusedSimpArgs false
set_option maxHeartbeats 4000000
set_option maxRecDepth 100000
namespace Go.Proofs.YtnbihdflnjpinaaDoor.VT
open Go Go.V Go.RowKit
abbrev u3 {a0 a1 a2 : VVal} : VEnv := a0 :: a1 :: a2 :: []
abbrev u14 {a0 a1 a2 a3 a4 a5 a6 a7 a8 a9 a10 a11 a12 a13 : VVal} : VEnv := a0 :: a1 :: a2 :: a3 :: a4 :: a5 :: a6 :: a7 :: a8 :: a9 :: a10 :: a11 :: a12 :: a13 :: []
theorem W59 {T : TypeId → Option VTy} {H : VHeap} {op : Op} {ρ : Operand → VVal} {t : TypeId} {a : Operand} {y : VTy} {p : VVal} {n : Nat} {vs : List VVal} (ho : op = .load t a) (ha : ρ a = p) (hy : T t = some y) (hd : isAggDesc y.desc = true) (hn : y.size = n) (h : LdOkA H p n vs := by first | exact .inl ⟨_, _, rfl, by first | rfl | assumption | exact fget (α := BitVec 64) 0 (by omega) | exact fget (α := Int) 0 (by omega) | exact fget0 (α := BitVec 64) 0 (by omega) | exact fget0 (α := Int) 0 (by omega) | exact fget (α := Bool) false (by omega) | exact fget0 (α := Bool) false (by omega) | (simp [*]; done)⟩ | exact .inr ⟨_, _, _, _, rfl, by first | exact get_app rfl rfl | exact get_out (by assumption) | exact getE0 rfl rfl | exact get_out (get_app rfl rfl) | exact get_app rfl (by assumption) | assumption | (simp only [List.append_assoc, List.singleton_append, List.cons_append, List.nil_append]; refine getE (i := 0) rfl ?_ rfl; simp; done) | (simp only [List.append_assoc, List.singleton_append, List.cons_append, List.nil_append]; refine getE (i := 1) rfl ?_ rfl; simp; done) | (simp only [List.append_assoc, List.singleton_append, List.cons_append, List.nil_append]; refine getE (i := 2) rfl ?_ rfl; simp; done) | (simp only [List.append_assoc, List.singleton_append, List.cons_append, List.nil_append]; refine getE (i := 3) rfl ?_ rfl; simp; done) | (simp [*]; done), by first | rfl | assumption | exact fget (α := BitVec 64) 0 (by omega) | exact fget (α := Int) 0 (by omega) | exact fget0 (α := BitVec 64) 0 (by omega) | exact fget0 (α := Int) 0 (by omega) | exact fget (α := Bool) false (by omega) | exact fget0 (α := Bool) false (by omega) | (simp [*]; done)⟩) : vop T ρ H op = some (.agg vs, H) := v_ldA ho ha hy hd hn h
theorem W5a {S : V.Sys} {H : VHeap} {fn : Func} {ex : Exit} {env : VEnv} {B L : VHeap} {v : VVal} {R : VVal → VHeap → Prop} (hx : ex = .normal ∨ ex = .ret) (hv : vresults S.C.T env (B ++ L) fn.results = some v) (h : R v B) (hB : BaseOk H B := by exact BaseOk.set (BaseOk.refl _) _ rfl) (hu : v.under H.length = true := by first | rfl | simp [VVal.under, VVal.underL, *]) : fnK S fn H R ex env (B ++ L) := E_app hx hv hB hu h
theorem sLeast_spec {x : SW} (H : VHeap) (y : Nat) (g : Gz) (hs : H[y]? = some (gaB g)) (p : Pb) (hp : PbL p) : F (psys x) 22 [.ptr (some (y, 0)), .agg (pbB p)] H fun v G => v = leT (leA p) ∧ G = H.set y (gaB (g + leG p)) := by
  by_cases hg : pck p = 0
  · cases hf : (frm (kpB (wsP p) (rssP p)) (kpG p.users.toNat (wsP p) (rssP p)) (wsP p).length [] 0).2 with
    | none =>
      refine (Least_none H y g hs p hp hg hf).mono ?_
      rintro v G ⟨rfl, rfl⟩
      rw [show leA p = none by unfold leA fdA; rw [if_pos hg, hf]; rfl, show leG p = (frm (kpB (wsP p) (rssP p)) (kpG p.users.toNat (wsP p) (rssP p)) (wsP p).length [] 0).1 by unfold leG fdG; rw [if_pos hg, hf]; exact Gz.add_zero _]
      exact ⟨rfl, rfl⟩
    | some a =>
      obtain ⟨_, _, _, _, hm⟩ := fnd_ok hf
      obtain ⟨d9, z9, hq⟩ := usT_fst hm
      refine (Least_some H y g hs p hp hg a hf d9 z9 hq).mono ?_
      rintro v G ⟨rfl, rfl⟩
      rw [show leA p = some (plN a (lst (blkN (wsP p) a a.length) 0#64)) by unfold leA fdA; rw [if_pos hg, hf]; rfl, show leG p = (frm (kpB (wsP p) (rssP p)) (kpG p.users.toNat (wsP p) (rssP p)) (wsP p).length [] 0).1 + d9 by unfold leG fdG; rw [if_pos hg, hf]; simp only [hq]; rfl]
      exact ⟨rfl, by rw [Gz.assoc]⟩
  · refine (Least_bad H y g hs p hp hg).mono ?_
    rintro v G ⟨rfl, rfl⟩
    rw [show leA p = none from if_neg hg, show leG p = 0 from if_neg hg, Gz.add_zero, ← set_keep hs]
    exact ⟨rfl, rfl⟩
theorem leT_can {o : Option (List Nat)} : ∃ l, leT o = .tuple [fzN l, .bool o.isSome] := by
  cases o with
  | none => exact ⟨[], rfl⟩
  | some l => exact ⟨l, rfl⟩
theorem sLeast_t {x : SW} (H : VHeap) (y : Nat) (g : Gz) (hs : H[y]? = some (gaB g)) (p : Pb) (hp : PbL p) : F (psys x) 22 [.ptr (some (y, 0)), .agg (pbB p)] H fun v G => ∃ l, v = .tuple [fzN l, .bool (leA p).isSome] ∧ G = H.set y (gaB (g + leG p)) := by
  refine (sLeast_spec H y g hs p hp).mono ?_
  rintro v G ⟨rfl, rfl⟩
  obtain ⟨l, h⟩ := @leT_can (leA p)
  exact ⟨l, h, rfl⟩
theorem Can_spec {x : SW} (H : VHeap) (y : Nat) (g : Gz) (hs : H[y]? = some (gaB g)) (p : Pb) (hp : PbL p) : F (psys x) 25 [.ptr (some (y, 0)), .agg (pbB p)] H fun v G => v = .bool (leA p).isSome ∧ G = H.set y (gaB (g + leG p)) := by
 refine F_body Tryd.func25 rfl u14 rfl ?_
 refine B_seq (B_region ?_)
 refine Lo u14 (v_boxT rfl rfl rfl) ?_
 refine Lo u14 (v_const (VVal.bool false) (.inr rfl) rfl) ?_
 refine L_nil (K_seq (B_seq (B_region ?_)))
 refine Lo u14 (v_move (.inl rfl) rfl) ?_
 refine Lo u14 (W59 rfl rfl rfl rfl rfl) ?_
 refine L_call rfl rfl rfl (by exact sLeast_t _ y g (get_append hs) p hp) ?_
 rintro _ _ ⟨l, rfl, rfl⟩; rw [set_out (lt_of_get hs)]
 refine Le u14 ?_
 refine Lo u14 (v_move (.inl rfl) rfl) ?_
 refine Lo u14 (rfl) ?_
 refine Lo u14 (rfl) ?_
 refine Lo u14 (v_move (.inr rfl) rfl) ?_
 refine Lo u14 (v_move (.inr rfl) rfl) ?_
 refine L_nil (K_seq (B_seq (B_region ?_)))
 refine Lo u14 (v_move (.inl rfl) rfl) ?_
 refine Lo u14 (v_move (.inr rfl) rfl) ?_
 refine L_nil (K_seq (B_ret ?_))
 refine W5a (.inr rfl) (vres_tmp rfl rfl) ?_
 exact ⟨rfl, rfl⟩
theorem sNew_spec {x : SW} (H : VHeap) : F (psys x) 21 [] H fun v G => v = .ptr (some (H.length, 0)) ∧ G = H ++ [gaB 0] := by
 refine F_body Tryd.func21 rfl u3 rfl ?_
 refine B_seq (B_region ?_)
 refine Lo u3 (v_const (VVal.ptr none) (.inr rfl) rfl) ?_
 refine L_nil (K_seq (B_seq (B_region ?_)))
 refine Lo u3 (rfl) ?_
 refine Lo u3 (v_boxT rfl rfl rfl) ?_
 refine Lo u3 (v_move (.inr rfl) rfl) ?_
 refine L_nil (K_seq (B_ret ?_))
 refine E_keep (.inr rfl) (vres_tmp rfl rfl) ?_
 exact ⟨rfl, rfl⟩
end Go.Proofs.YtnbihdflnjpinaaDoor.VT

set_option autoImplicit false
set_option linter.unusedVariables false
set_option linter.unusedSimpArgs false
set_option maxHeartbeats 4000000
set_option maxRecDepth 100000
namespace Go.Proofs.YtnbihdflnjpinaaDoor.VT
open Go Go.V Go.RowKit
abbrev u37 {a0 a1 a2 a3 a4 a5 a6 a7 a8 a9 a10 a11 a12 a13 a14 a15 a16 a17 a18 a19 a20 a21 a22 a23 a24 a25 a26 a27 a28 a29 a30 a31 a32 a33 a34 a35 a36 : VVal} : VEnv := a0 :: a1 :: a2 :: a3 :: a4 :: a5 :: a6 :: a7 :: a8 :: a9 :: a10 :: a11 :: a12 :: a13 :: a14 :: a15 :: a16 :: a17 :: a18 :: a19 :: a20 :: a21 :: a22 :: a23 :: a24 :: a25 :: a26 :: a27 :: a28 :: a29 :: a30 :: a31 :: a32 :: a33 :: a34 :: a35 :: a36 :: []
theorem W5b {T : TypeId → Option VTy} {H : VHeap} {op : Op} {ρ : Operand → VVal} {t : TypeId} {a : Operand} {y : VTy} {p v : VVal} (ho : op = .load t a) (ha : ρ a = p) (hy : T t = some y) (hd : isAggDesc y.desc = false) (h : LdOk H p v := by first | exact .inl ⟨_, _, rfl, by first | rfl | assumption | exact fgetN (α := BitVec 64) 0 (by omega) | exact fgetN (α := Int) 0 (by omega) | exact rul_at (by omega)⟩ | exact .inr ⟨_, _, _, _, rfl, by first | exact get_app rfl rfl | exact get_out (by assumption) | exact getE0 rfl rfl | exact get_out (get_app rfl rfl) | exact get_app rfl (by assumption) | assumption | (simp only [List.append_assoc, List.singleton_append, List.cons_append, List.nil_append]; refine getE (i := 0) rfl ?_ rfl; simp; done) | (simp only [List.append_assoc, List.singleton_append, List.cons_append, List.nil_append]; refine getE (i := 1) rfl ?_ rfl; simp; done) | (simp only [List.append_assoc, List.singleton_append, List.cons_append, List.nil_append]; refine getE (i := 2) rfl ?_ rfl; simp; done) | (simp only [List.append_assoc, List.singleton_append, List.cons_append, List.nil_append]; refine getE (i := 3) rfl ?_ rfl; simp; done) | (simp [*]; done), by first | rfl | assumption | exact fgetN (α := BitVec 64) 0 (by omega) | exact fgetN (α := Int) 0 (by omega) | exact rul_at (by omega)⟩) : vop T ρ H op = some (v, H) := v_ld ho ha hy hd h
theorem W5c {T : TypeId → Option VTy} {H : VHeap} {op : Op} {ρ : Operand → VVal} {t e : TypeId} {x i : Operand} {y z : VTy} {k : IntKind} {n : Int} {p v : VVal} {es : Nat} (ho : op = .indexAddr t x i) (hx : ρ x = p) (hi : ρ i = .int k n) (hy : T t = some y) (hd : y.desc = .slice e) (hz : T e = some z) (hs : z.size = es) (h : IxOk p es n v := by first | exact .inl ⟨_, _, _, rfl, by first | assumption | omega | (simp [*]; done) | (simp at *; omega), rfl⟩ | exact .inr ⟨_, _, _, _, _, rfl, by first | assumption | omega | (simp [*]; done) | (simp at *; omega), rfl⟩) : vop T ρ H op = some (v, H) := v_ix ho hx hi hy hd hz hs h
theorem W5d {S : V.Sys} {H : VHeap} {fn : Func} {ex : Exit} {env : VEnv} {B L : VHeap} {v : VVal} {R : VVal → VHeap → Prop} (hx : ex = .normal ∨ ex = .ret) (hv : vresults S.C.T env (B ++ L) fn.results = some v) (h : R v B) (hB : BaseOk H B := by first | exact BaseOk.refl _ | exact BaseOk.set (BaseOk.refl _) _ rfl) (hu : v.under H.length = true := by first | rfl | simp [VVal.under, VVal.underL, *]) : fnK S fn H R ex env (B ++ L) := E_app hx hv hB hu h
theorem W5e {P : Prop} (h : P := by first | exact ⟨by rw [myB_f g hi (by assumption), beq_d], rfl⟩ | exact ⟨by rw [myB_w g hi (by omega), decide_eq_false (by omega)]; rfl, rfl⟩ | exact ⟨by rw [myB_w g hi (by omega), decide_eq_true (by omega), Bool.true_and]; exact congrArg VVal.bool bit_eq, rfl⟩) : P := h
theorem W5f {T : TypeId → Option VTy} {H : VHeap} {op : Op} {ρ : Operand → VVal} {t : TypeId} {a : Operand} {y : VTy} {p : VVal} {n : Nat} {vs : List VVal} (ho : op = .load t a) (ha : ρ a = p) (hy : T t = some y) (hd : isAggDesc y.desc = true) (hn : y.size = n) (h : LdOkA H p n vs := by first | exact .inl ⟨_, _, rfl, by first | rfl | assumption | exact fgetN (α := BitVec 64) 0 (by omega) | exact fgetN (α := Int) 0 (by omega) | exact rul_at (by omega)⟩ | exact .inr ⟨_, _, _, _, rfl, by first | exact get_app rfl rfl | exact get_out (by assumption) | exact getE0 rfl rfl | exact get_out (get_app rfl rfl) | exact get_app rfl (by assumption) | assumption | (simp only [List.append_assoc, List.singleton_append, List.cons_append, List.nil_append]; refine getE (i := 0) rfl ?_ rfl; simp; done) | (simp only [List.append_assoc, List.singleton_append, List.cons_append, List.nil_append]; refine getE (i := 1) rfl ?_ rfl; simp; done) | (simp only [List.append_assoc, List.singleton_append, List.cons_append, List.nil_append]; refine getE (i := 2) rfl ?_ rfl; simp; done) | (simp only [List.append_assoc, List.singleton_append, List.cons_append, List.nil_append]; refine getE (i := 3) rfl ?_ rfl; simp; done) | (simp [*]; done), by first | rfl | assumption | exact fgetN (α := BitVec 64) 0 (by omega) | exact fgetN (α := Int) 0 (by omega) | exact rul_at (by omega)⟩) : vop T ρ H op = some (.agg vs, H) := v_ldA ho ha hy hd hn h
theorem W5g {P : Prop} (h : P := by first | exact ⟨by rw [hds_p (by assumption)], rfl⟩ | exact ⟨by rw [hds_len (by omega)], rfl⟩ | exact ⟨by rw [hds_bad (k := k) hul (by omega) (by assumption)], rfl⟩ | (obtain rfl : k = us.length := by omega); exact ⟨by rw [hds_end hpk hul hfu, beq_d]; exact dec_d (by omega), rfl⟩) : P := h
theorem W5h {T : TypeId → Option VTy} {H : VHeap} {op : Op} {ρ : Operand → VVal} {t ty : TypeId} {x y : Operand} {n m : Int} (ho : op = .binOp .add t x y ty) (hx : ρ x = .int .i64 n) (hy : ρ y = .int .i64 m) (h : -9223372036854775808 ≤ n + m ∧ n + m < 9223372036854775808 := by first | assumption | omega | (simp [*]; done) | (simp at *; omega)) : vop T ρ H op = some (.int .i64 (n + m), H) := v_addI ho hx hy h
def myB (p : Pb) (i : Nat) (u : Int) : Bool := decide (0 ≤ u ∧ u < 64) && (wrd p i).getLsbD u.toNat
theorem okW_in {p : Pb} {i : Nat} (g : Go.V.Good p) (hi : i < p.who.length) : (-1 ≤ p.fixed.getD i 0 ∧ p.fixed.getD i 0 < p.users) ∧ (p.who.getD i 0) >>> p.users.toNat = 0#64 := by
  have hok := g.ok i hi
  unfold okW at hok
  rw [Bool.and_eq_true, decide_eq_true_eq, decide_eq_true_eq] at hok
  exact hok
theorem myB_f {p : Pb} {i : Nat} {u : Int} (g : Go.V.Good p) (hi : i < p.who.length) (h : 0 ≤ p.fixed.getD i 0) : myB p i u = decide (u = p.fixed.getD i 0) := by
  have hok := (okW_in g hi).1; have g2 := g.u64
  unfold myB
  rw [wrd_f h, one_shl, Bool.eq_iff_iff, Bool.and_eq_true, Bool.and_eq_true, decide_eq_true_eq, decide_eq_true_eq, decide_eq_true_eq, decide_eq_true_eq]
  omega
theorem myB_w {p : Pb} {i : Nat} {u : Int} (g : Go.V.Good p) (hi : i < p.who.length) (h : p.fixed.getD i 0 < 0) : myB p i u = (decide (0 ≤ u ∧ u < p.users) && (p.who.getD i 0).getLsbD u.toNat) := by
  have hok := (okW_in g hi).2; have g2 := g.u64; have g4 := g.u0
  unfold myB
  rw [wrd_w h]
  by_cases h1 : 0 ≤ u ∧ u < p.users
  · rw [decide_eq_true h1, decide_eq_true (by omega)]
  · rw [decide_eq_false h1, Bool.false_and]
    by_cases h2 : 0 ≤ u ∧ u < 64
    · rw [decide_eq_true h2, Bool.true_and]; exact high_bit hok (by omega)
    · rw [decide_eq_false h2, Bool.false_and]
theorem bit_eq {w : BitVec 64} {k : Nat} : (((w >>> k &&& 1#64).toNat : Int) == ((1#64 : BitVec 64).toNat : Int)) = w.getLsbD k := by
  have h : (w >>> k &&& 1#64) = if w.getLsbD k = true then 1#64 else 0#64 := by
    apply BitVec.eq_of_getLsbD_eq
    intro i hi
    rw [BitVec.getLsbD_and, BitVec.getLsbD_ushiftRight, BitVec.getLsbD_one]
    by_cases e : i = 0
    · subst e; cases hb : w.getLsbD k <;> simp [hb]
    · cases hb : w.getLsbD k <;> simp [e]
  rw [h]
  cases w.getLsbD k <;> rfl
theorem May_spec {x : SW} (H : VHeap) (p : Pb) (g : Go.V.Good p) (i : Nat) (hi : i < p.who.length) (u : Int) : F (psys x) 49 [.agg (pbB p), iI (i : Nat), iI u] H fun v G => v = .bool (myB p i u) ∧ G = H := by
 have g5 := g.fx
 refine F_body Tryd.func49 rfl u39 rfl ?_
 refine B_seq (B_region ?_)
 refine Lo u39 (v_boxT rfl rfl rfl) ?_
 refine Lo u39 (v_const (VVal.bool false) (.inr rfl) rfl) ?_
 refine L_nil (K_seq (B_seq (B_seq (B_region ?_))))
 refine Lo u39 (rfl) ?_
 refine Lo u39 (W5b rfl rfl rfl rfl) ?_
 refine Lo u39 (v_move (.inl rfl) rfl) ?_
 refine Lo u39 (W5c rfl rfl rfl rfl rfl rfl rfl) ?_
 refine Lo u39 (W5b rfl rfl rfl rfl) ?_
 refine Lo u39 (rfl) ?_
 refine L_nil (K_seq ?_)
 refine B_cond _ rfl (fun hc1 => ?_) (fun hc1 => ?_)
 ·try simp only [qB, qN] at hc1
  refine B_seq (B_region ?_)
  refine Lo u39 (v_move (.inl rfl) rfl) ?_
  refine Lo u39 (rfl) ?_
  refine Lo u39 (W5b rfl rfl rfl rfl) ?_
  refine Lo u39 (v_move (.inl rfl) rfl) ?_
  refine Lo u39 (W5c rfl rfl rfl rfl rfl rfl rfl) ?_
  refine Lo u39 (W5b rfl rfl rfl rfl) ?_
  refine Lo u39 (rfl) ?_
  refine Lo u39 (v_move (.inr rfl) rfl) ?_
  refine L_nil (K_seq (B_ret (K_seqR ?_)))
  refine W5d (.inr rfl) (vres_tmp rfl rfl) ?_
  exact W5e
 ·try simp only [qB, qN] at hc1
  refine B_skip (K_seq (B_seq (B_region ?_)))
  refine Lo u39 (v_move (.inl rfl) rfl) ?_
  refine Lo u39 (rfl) ?_
  refine Lo u39 (v_move (.inl rfl) rfl) ?_
  refine L_split 22 (env1 := u39) (env2 := u39) rfl rfl rfl (fun hg2 => ?_) (fun hg2 => ?_)
  ·try simp only [qB, qN] at hg2
   refine Lo u39 (v_move (.inl rfl) rfl) ?_
   refine Lo u39 (rfl) ?_
   refine Lo u39 (W5b rfl rfl rfl rfl) ?_
   refine Lo u39 (rfl) ?_
   refine Lo u39 (v_pickT rfl rfl rfl) ?_
   refine Lo u39 (v_move (.inl rfl) rfl) ?_
   refine L_split 28 (env1 := u39) (env2 := u39) rfl rfl rfl (fun hg3 => ?_) (fun hg3 => ?_)
   ·try simp only [qB, qN] at hg3
    refine Lo u39 (rfl) ?_
    refine Lo u39 (W5b rfl rfl rfl rfl) ?_
    refine Lo u39 (v_move (.inl rfl) rfl) ?_
    refine Lo u39 (W5c rfl rfl rfl rfl rfl rfl rfl) ?_
    refine Lo u39 (W5b rfl rfl rfl rfl) ?_
    refine Lo u39 (v_move (.inl rfl) rfl) ?_
    refine Lo u39 (v_shrW rfl rfl rfl (by first | assumption | omega | (simp [*]; done) | (simp at *; omega))) ?_
    refine Lo u39 (v_andW (b := 1#64) rfl rfl rfl) ?_
    refine Lo u39 (rfl) ?_
    refine Lo u39 (v_pickT rfl rfl rfl) ?_
    refine Lo u39 (v_move (.inr rfl) rfl) ?_
    refine L_nil (K_seq (B_ret ?_))
    refine W5d (.inr rfl) (vres_tmp rfl rfl) ?_
    exact W5e
   ·try simp only [qB, qN] at hg3
    refine Lf u39 ?_
    refine Lf u39 ?_
    refine Lf u39 ?_
    refine Lf u39 ?_
    refine Lf u39 ?_
    refine Lf u39 ?_
    refine Lf u39 ?_
    refine Lf u39 ?_
    refine Lf u39 ?_
    refine Lo u39 (v_pickFC (VVal.bool false) rfl rfl rfl) ?_
    refine Lo u39 (v_move (.inr rfl) rfl) ?_
    refine L_nil (K_seq (B_ret ?_))
    refine W5d (.inr rfl) (vres_tmp rfl rfl) ?_
    exact W5e
  ·try simp only [qB, qN] at hg2
   refine Lf u39 ?_
   refine Lf u39 ?_
   refine Lf u39 ?_
   refine Lf u39 ?_
   refine Lo u39 (v_pickFC (VVal.bool false) rfl rfl rfl) ?_
   refine Lo u39 (v_move (.inl rfl) rfl) ?_
   refine Lf u39 ?_
   refine Lf u39 ?_
   refine Lf u39 ?_
   refine Lf u39 ?_
   refine Lf u39 ?_
   refine Lf u39 ?_
   refine Lf u39 ?_
   refine Lf u39 ?_
   refine Lf u39 ?_
   refine Lo u39 (v_pickFC (VVal.bool false) rfl rfl rfl) ?_
   refine Lo u39 (v_move (.inr rfl) rfl) ?_
   refine L_nil (K_seq (B_ret ?_))
   refine W5d (.inr rfl) (vres_tmp rfl rfl) ?_
   exact W5e
theorem fHolds12_spec {x : SW} (H : VHeap) (p : Pb) (us : List Int) (hp : PbL p) (hu : us.length ≤ 1000000) : F (psys x) 18 [.agg (pbB p), fzI us] H fun v G => v = .bool (hds p us) ∧ G = H := by
 have hp1 := hp.u; have hp2 := hp.w; have hp3 := hp.f; have hp4 := hp.r
 refine F_body Tryd.func18 rfl u37 rfl ?_
 refine B_seq (B_region ?_)
 refine Lo u37 (v_boxT rfl rfl rfl) ?_
 refine Lo u37 (v_const (VVal.bool false) (.inr rfl) rfl) ?_
 refine L_nil (K_seq (B_seq (B_seq (B_region ?_))))
 refine Lo u37 (W5f rfl rfl rfl rfl rfl) ?_
 refine L_call rfl rfl rfl (by exact fpCheck_spec _ _ hp) ?_
 rintro _ _ ⟨rfl, rfl⟩
 refine Le u37 ?_
 refine Lo u37 (rfl) ?_
 refine Lo u37 (v_move (.inl rfl) rfl) ?_
 refine L_split 9 (env1 := u37) (env2 := u37) rfl rfl rfl (fun hg1 => ?_) (fun hg1 => ?_)
 ·try simp only [qB, qN] at hg1
  refine Lf u37 ?_
  refine Lf u37 ?_
  refine Lf u37 ?_
  refine Lf u37 ?_
  refine Lf u37 ?_
  refine Lf u37 ?_
  refine Lo u37 (v_pickTC (VVal.bool true) rfl rfl rfl) ?_
  refine L_nil (K_seq ?_)
  refine B_true rfl rfl ?_
  refine B_seq (B_region ?_)
  refine Lo u37 (v_const (VVal.bool false) (.inr rfl) rfl) ?_
  refine L_nil (K_seq (B_ret (K_seqR ?_)))
  refine W5d (.inr rfl) (vres_tmp rfl rfl) ?_
  exact W5g
 ·try simp only [qB, qN] at hg1
  refine Lo u37 (v_move (.inl rfl) rfl) ?_
  refine Lo u37 (rfl) ?_
  refine Lo u37 (rfl) ?_
  refine Lo u37 (W5b rfl rfl rfl rfl) ?_
  refine Lo u37 (rfl) ?_
  refine Lo u37 (rfl) ?_
  refine Lo u37 (v_pickF rfl rfl rfl) ?_
  refine L_nil (K_seq ?_)
  refine B_cond _ rfl (fun hc2 => ?_) (fun hc2 => ?_)
  ·try simp only [qB, qN] at hc2
   refine B_seq (B_region ?_)
   refine Lo u37 (v_const (VVal.bool false) (.inr rfl) rfl) ?_
   refine L_nil (K_seq (B_ret (K_seqR ?_)))
   refine W5d (.inr rfl) (vres_tmp rfl rfl) ?_
   exact W5g
  ·try simp only [qB, qN] at hc2
   refine B_skip (K_seq (B_seq (B_seq ?_)))
   have hpk : pck p = 0 := by assumption
   have g : Go.V.Good p := pck_good.1 hpk
   have hul : us.length = p.who.length := by omega
   have g5 := g.fx
   refine B_region ?_
   refine Lo u37 (v_const (VVal.int .i64 0) (.inr rfl) rfl) ?_
   refine L_nil (K_seq (B_block ?_))
   refine B_clear (mk 37 137438953433) (env' := u37) rfl ?_
   refine B_loopE (fun (k : Nat) => us.length - k) (fun (k : Nat) => [(5, iI (k : Nat))]) (fun (k : Nat) G => (k ≤ us.length ∧ flU p us k = []) ∧ G = H ++ [VBlk.cells (pbB p) true]) 0 rfl ?_ ?_
   ·refine ⟨?_, rfl⟩
    exact ⟨Nat.zero_le _, rfl⟩
   rintro k _ ⟨⟨hk, hfu⟩, rfl⟩
   refine B_env (env' := u37) rfl ?_
   refine B_seq (B_seq (B_region ?_))
   refine Lo u37 (v_move (.inl rfl) rfl) ?_
   refine Lo u37 (v_move (.inl rfl) rfl) ?_
   refine Lo u37 (rfl) ?_
   refine Lo u37 (rfl) ?_
   refine L_nil (K_seq ?_)
   refine B_cond _ rfl (fun hc3 => ?_) (fun hc3 => ?_)
   ·try simp only [qB, qN] at hc3
    refine B_skip (K_seq (B_seq (B_block (B_seq ?_))))
    refine B_draw [0, 1, 2, 3, 4, 5, 6, 7] #[0, 0, 0, 0, 12, 28, 63, 127] (by kernel_rfl) (by kernel_rfl) (by kernel_rfl) ?_
    refine Oo u37 .look rfl (W5f rfl rfl rfl rfl rfl) ?_
    refine Oo u37 .calm rfl (v_move (.inl rfl) rfl) ?_
    refine Oo u37 .calm rfl (v_move (.inl rfl) rfl) ?_
    refine Oo u37 .calm rfl (v_move (.inl rfl) rfl) ?_
    refine Oo u37 .calm rfl (W5c rfl rfl rfl rfl rfl rfl rfl) ?_
    refine Oo u37 .look rfl (W5b rfl rfl rfl rfl) ?_
    refine O_call (env' := u37) rfl rfl rfl rfl rfl (by have h9 := May_spec (x := x) (H ++ [VBlk.cells (pbB p) true]) p g k (by omega) (us.getD k 0); rw [show myB p k (us.getD k 0) = decide (flk p.users (p.fixed.getD k 0) (p.who.getD k 0) (us.getD k 0) = 0) from has_flk g (by omega)] at h9; exact h9) (by first | exact Nat.le_refl _ | simp) rfl rfl ?_
    refine Oo u37 .calm rfl (rfl) ?_
    refine O_nil [] (by kernel_rfl) (trivial) ?_
    refine K_seq ?_
    refine B_cond _ rfl (fun hc4 => ?_) (fun hc4 => ?_)
    ·try simp only [qB, qN] at hc4
     refine B_seq (B_region ?_)
     refine Lo u37 (v_const (VVal.bool false) (.inr rfl) rfl) ?_
     refine L_nil (K_seq (B_ret (K_blkR (K_seqR (K_loopR (K_blkR (K_seqR ?_)))))))
     refine W5d (.inr rfl) (vres_tmp rfl rfl) ?_
     exact W5g
    ·try simp only [qB, qN] at hc4
     refine B_skip (K_blk (K_seq (B_region ?_)))
     refine Lo u37 (v_move (.inl rfl) rfl) ?_
     refine Lo u37 (W5h rfl rfl rfl) ?_
     refine Lo u37 (v_move (.inr rfl) rfl) ?_
     refine L_nil ?_
     refine K_loop (mk 37 137438953433) (env' := u37) rfl ⟨k + 1, ?_, rfl, ?_⟩
     ·first | omega | (simp only []; omega)
     ·exact ⟨⟨by omega, by rw [flU_no (by assumption)]; exact hfu⟩, rfl⟩
   ·try simp only [qB, qN] at hc3
    refine B_exit (K_seqX (K_loopX (K_blkX (K_seq (B_seq (B_region ?_))))))
    refine Lo u37 (rfl) ?_
    refine Lo u37 (W5b rfl rfl rfl rfl) ?_
    refine Lo u37 (v_move (.inl rfl) rfl) ?_
    refine L_call rfl rfl rfl (by exact fBroken_spec _ _ _ hp.s (by omega)) ?_
    rintro _ _ ⟨rfl, rfl⟩
    refine Le u37 ?_
    refine Lo u37 (rfl) ?_
    refine Lo u37 (rfl) ?_
    refine Lo u37 (v_move (.inr rfl) rfl) ?_
    refine L_nil (K_seq (B_ret ?_))
    refine W5d (.inr rfl) (vres_tmp rfl rfl) ?_
    exact W5g
end Go.Proofs.YtnbihdflnjpinaaDoor.VT

set_option autoImplicit false
set_option linter.unusedVariables false
set_option linter.unusedSimpArgs false
set_option maxHeartbeats 4000000
set_option maxRecDepth 100000
namespace Go.Proofs.YtnbihdflnjpinaaDoor.VT
open Go Go.V Go.RowKit
abbrev u26 {a0 a1 a2 a3 a4 a5 a6 a7 a8 a9 a10 a11 a12 a13 a14 a15 a16 a17 a18 a19 a20 a21 a22 a23 a24 a25 : VVal} : VEnv := a0 :: a1 :: a2 :: a3 :: a4 :: a5 :: a6 :: a7 :: a8 :: a9 :: a10 :: a11 :: a12 :: a13 :: a14 :: a15 :: a16 :: a17 :: a18 :: a19 :: a20 :: a21 :: a22 :: a23 :: a24 :: a25 :: []
abbrev u41 {a0 a1 a2 a3 a4 a5 a6 a7 a8 a9 a10 a11 a12 a13 a14 a15 a16 a17 a18 a19 a20 a21 a22 a23 a24 a25 a26 a27 a28 a29 a30 a31 a32 a33 a34 a35 a36 a37 a38 a39 a40 : VVal} : VEnv := a0 :: a1 :: a2 :: a3 :: a4 :: a5 :: a6 :: a7 :: a8 :: a9 :: a10 :: a11 :: a12 :: a13 :: a14 :: a15 :: a16 :: a17 :: a18 :: a19 :: a20 :: a21 :: a22 :: a23 :: a24 :: a25 :: a26 :: a27 :: a28 :: a29 :: a30 :: a31 :: a32 :: a33 :: a34 :: a35 :: a36 :: a37 :: a38 :: a39 :: a40 :: []
theorem W5i {S : V.Sys} {H : VHeap} {fn : Func} {ex : Exit} {env : VEnv} {B L : VHeap} {v : VVal} {R : VVal → VHeap → Prop} (hx : ex = .normal ∨ ex = .ret) (hv : vresults S.C.T env (B ++ L) fn.results = some v) (h : R v B) (hB : BaseOk H B := by first | exact BaseOk.refl _ | exact BaseOk.set (BaseOk.refl _) _ rfl) (hu : v.under H.length = true := by first | rfl | simp [VVal.under, VVal.underL, *]) : fnK S fn H R ex env (B ++ L) := E_app hx hv hB hu h
theorem W5j {T : TypeId → Option VTy} {H : VHeap} {op : Op} {ρ : Operand → VVal} {t e : TypeId} {x i : Operand} {y z : VTy} {k : IntKind} {n : Int} {p v : VVal} {es : Nat} (ho : op = .indexAddr t x i) (hx : ρ x = p) (hi : ρ i = .int k n) (hy : T t = some y) (hd : y.desc = .slice e) (hz : T e = some z) (hs : z.size = es) (h : IxOk p es n v := by first | exact .inl ⟨_, _, _, rfl, by first | assumption | omega | (simp [*]; done) | (simp at *; omega), rfl⟩ | exact .inr ⟨_, _, _, _, _, rfl, by first | assumption | omega | (simp [*]; done) | (simp at *; omega), rfl⟩) : vop T ρ H op = some (v, H) := v_ix ho hx hi hy hd hz hs h
theorem W5k {T : TypeId → Option VTy} {H : VHeap} {op : Op} {ρ : Operand → VVal} {t : TypeId} {a : Operand} {y : VTy} {p v : VVal} (ho : op = .load t a) (ha : ρ a = p) (hy : T t = some y) (hd : isAggDesc y.desc = false) (h : LdOk H p v := by first | exact .inl ⟨_, _, rfl, by first | rfl | exact fgetN (α := Int) 0 (by omega)⟩ | exact .inr ⟨_, _, _, _, rfl, by first | exact get_app rfl rfl | exact get_out (by assumption) | exact getE0 rfl rfl | exact get_out (get_app rfl rfl) | exact get_app rfl (by assumption) | assumption | (simp only [List.append_assoc, List.singleton_append, List.cons_append, List.nil_append]; refine getE (i := 0) rfl ?_ rfl; simp; done) | (simp only [List.append_assoc, List.singleton_append, List.cons_append, List.nil_append]; refine getE (i := 1) rfl ?_ rfl; simp; done) | (simp only [List.append_assoc, List.singleton_append, List.cons_append, List.nil_append]; refine getE (i := 2) rfl ?_ rfl; simp; done) | (simp only [List.append_assoc, List.singleton_append, List.cons_append, List.nil_append]; refine getE (i := 3) rfl ?_ rfl; simp; done) | (simp [*]; done), by first | rfl | exact fgetN (α := Int) 0 (by omega)⟩) : vop T ρ H op = some (v, H) := v_ld ho ha hy hd h
theorem W5l {T : TypeId → Option VTy} {H : VHeap} {op : Op} {ρ : Operand → VVal} {t ty : TypeId} {x y : Operand} {n m : Int} (ho : op = .binOp .add t x y ty) (hx : ρ x = .int .i64 n) (hy : ρ y = .int .i64 m) (h : -9223372036854775808 ≤ n + m ∧ n + m < 9223372036854775808 := by first | assumption | omega | (simp [*]; done) | (simp at *; omega)) : vop T ρ H op = some (.int .i64 (n + m), H) := v_addI ho hx hy h
theorem W5m {T : TypeId → Option VTy} {H : VHeap} {op : Op} {ρ : VEnv} {H' : VHeap} {t : TypeId} {a : Operand} {i : Nat} {v : VVal} {y : VTy} {b off : Nat} {cs new : List VVal} (ho : op = .store t a (.tmp i)) (hv : ρ[i]? = some v) (ha : ρ.eval a = .ptr (some (b, off))) (hy : T t = some y) (hx : v.cells = some new) (hn : new.length = y.size) (h1 : new.all VVal.one = true) (hb : H[b]? = some (.cells cs true) := by first | exact get_app rfl rfl | exact get_out (by assumption) | exact getE0 rfl rfl | exact get_out (get_app rfl rfl) | exact get_app rfl (by assumption) | assumption | (simp only [List.append_assoc, List.singleton_append, List.cons_append, List.nil_append]; refine getE (i := 0) rfl ?_ rfl; simp; done) | (simp only [List.append_assoc, List.singleton_append, List.cons_append, List.nil_append]; refine getE (i := 1) rfl ?_ rfl; simp; done) | (simp only [List.append_assoc, List.singleton_append, List.cons_append, List.nil_append]; refine getE (i := 2) rfl ?_ rfl; simp; done) | (simp only [List.append_assoc, List.singleton_append, List.cons_append, List.nil_append]; refine getE (i := 3) rfl ?_ rfl; simp; done) | (simp [*]; done)) (hl : off + new.length ≤ cs.length := by first | exact Nat.le_of_ble_eq_true rfl | (simp only [List.length_map, List.length_cons, List.length_nil]; omega) | omega | (simp; done) | (simp; omega)) (hH : H.set b (.cells (splice cs off new) true) = H' := by first | exact setE0 rfl rfl | (simp only [List.append_assoc, List.singleton_append, List.cons_append, List.nil_append]; refine setE (i := 0) rfl ?_; simp; done) | (simp only [List.append_assoc, List.singleton_append, List.cons_append, List.nil_append]; refine setE (i := 1) rfl ?_; simp; done) | (simp only [List.append_assoc, List.singleton_append, List.cons_append, List.nil_append]; refine setE (i := 2) rfl ?_; simp; done) | (simp only [List.append_assoc, List.singleton_append, List.cons_append, List.nil_append]; refine setE (i := 3) rfl ?_; simp; done) | (refine setB rfl ?_; simp; done) | exact set_app rfl | exact set_out (lt_of_get (by assumption)) | rfl) : vop T ρ.eval H op = some (.skip, H') := v_storeT ho hv ha hy hx hn h1 hb hl hH
theorem W5n {T : TypeId → Option VTy} {H : VHeap} {op : Op} {ρ : Operand → VVal} {t : TypeId} {a : Operand} {y : VTy} {p : VVal} {n : Nat} {vs : List VVal} (ho : op = .load t a) (ha : ρ a = p) (hy : T t = some y) (hd : isAggDesc y.desc = true) (hn : y.size = n) (h : LdOkA H p n vs := by first | exact .inl ⟨_, _, rfl, by first | rfl | assumption | exact fget (α := BitVec 64) 0 (by omega) | exact fget (α := Int) 0 (by omega) | exact fget0 (α := BitVec 64) 0 (by omega) | exact fget0 (α := Int) 0 (by omega) | exact fget (α := Bool) false (by omega) | exact fget0 (α := Bool) false (by omega) | (simp [*]; done)⟩ | exact .inr ⟨_, _, _, _, rfl, by first | exact get_app rfl rfl | exact get_out (by assumption) | exact getE0 rfl rfl | exact get_out (get_app rfl rfl) | exact get_app rfl (by assumption) | assumption | (simp only [List.append_assoc, List.singleton_append, List.cons_append, List.nil_append]; refine getE (i := 0) rfl ?_ rfl; simp; done) | (simp only [List.append_assoc, List.singleton_append, List.cons_append, List.nil_append]; refine getE (i := 1) rfl ?_ rfl; simp; done) | (simp only [List.append_assoc, List.singleton_append, List.cons_append, List.nil_append]; refine getE (i := 2) rfl ?_ rfl; simp; done) | (simp only [List.append_assoc, List.singleton_append, List.cons_append, List.nil_append]; refine getE (i := 3) rfl ?_ rfl; simp; done) | (simp [*]; done), by first | rfl | assumption | exact fget (α := BitVec 64) 0 (by omega) | exact fget (α := Int) 0 (by omega) | exact fget0 (α := BitVec 64) 0 (by omega) | exact fget0 (α := Int) 0 (by omega) | exact fget (α := Bool) false (by omega) | exact fget0 (α := Bool) false (by omega) | (simp [*]; done)⟩) : vop T ρ H op = some (.agg vs, H) := v_ldA ho ha hy hd hn h
theorem kInts_spec {x : SW} (H : VHeap) (l r : List (Int)) (h1 : l.length ≤ 1000000) : F (psys x) 24 [fzI l, fzI r] H fun v G => v = .bool (decide (l = r)) ∧ G = H := by
 refine F_body Tryd.func24 rfl u26 rfl ?_
 refine B_seq (B_region ?_)
 refine Lo u26 (v_const (VVal.bool false) (.inr rfl) rfl) ?_
 refine L_nil (K_seq (B_seq (B_seq (B_region ?_))))
 refine Lo u26 (v_move (.inl rfl) rfl) ?_
 refine Lo u26 (rfl) ?_
 refine Lo u26 (v_move (.inl rfl) rfl) ?_
 refine Lo u26 (rfl) ?_
 refine Lo u26 (rfl) ?_
 refine L_nil (K_seq ?_)
 refine B_cond _ rfl (fun hc1 => ?_) (fun hc1 => ?_)
 ·try simp only [qB, qN] at hc1
  refine B_seq (B_region ?_)
  refine Lo u26 (v_const (VVal.bool false) (.inr rfl) rfl) ?_
  refine L_nil (K_seq (B_ret (K_seqR ?_)))
  refine W5i (.inr rfl) (vres_tmp rfl rfl) ?_
  exact ⟨by rw [decide_eq_false (fun e => by rw [e] at hc1; omega)], rfl⟩
 ·try simp only [qB, qN] at hc1
  refine B_skip (K_seq (B_seq (B_seq (B_region ?_))))
  refine Lo u26 (v_const (VVal.int .i64 0) (.inr rfl) rfl) ?_
  refine L_nil (K_seq (B_block ?_))
  refine B_clear (mk 26 67108828) (env' := u26) rfl ?_
  refine B_loopE (fun (k : Nat) => l.length - k) (fun (k : Nat) => [(5, iI (k : Nat))]) (fun (k : Nat) G => (k ≤ l.length ∧ ∀ j, j < k → l.getD j 0 = r.getD j 0) ∧ G = H ++ []) 0 rfl ?_ ?_
  ·refine ⟨?_, rfl⟩
   exact ⟨Nat.zero_le _, fun j h => by omega⟩
  rintro k _ ⟨⟨hk, hall⟩, rfl⟩
  refine B_env (env' := u26) rfl ?_
  refine B_seq (B_seq (B_region ?_))
  refine Lo u26 (v_move (.inl rfl) rfl) ?_
  refine Lo u26 (v_move (.inl rfl) rfl) ?_
  refine Lo u26 (rfl) ?_
  refine Lo u26 (rfl) ?_
  refine L_nil (K_seq ?_)
  refine B_cond _ rfl (fun hc2 => ?_) (fun hc2 => ?_)
  ·try simp only [qB, qN] at hc2
   refine B_skip (K_seq (B_seq (B_block (B_seq ?_))))
   refine B_draw [0, 1, 2, 3, 4, 5, 6, 7, 8] #[0, 0, 3, 7, 0, 0, 48, 112, 255] (by kernel_rfl) (by kernel_rfl) (by kernel_rfl) ?_
   refine Oo u26 .calm rfl (v_move (.inl rfl) rfl) ?_
   refine Oo u26 .calm rfl (v_move (.inl rfl) rfl) ?_
   refine Oo u26 .calm rfl (W5j rfl rfl rfl rfl rfl rfl rfl) ?_
   refine Oo u26 .look rfl (W5k rfl rfl rfl rfl) ?_
   refine Oo u26 .calm rfl (v_move (.inl rfl) rfl) ?_
   refine Oo u26 .calm rfl (v_move (.inl rfl) rfl) ?_
   refine Oo u26 .calm rfl (W5j rfl rfl rfl rfl rfl rfl rfl) ?_
   refine Oo u26 .look rfl (W5k rfl rfl rfl rfl) ?_
   refine Oo u26 .calm rfl (rfl) ?_
   refine O_nil [] (by kernel_rfl) (trivial) ?_
   refine K_seq ?_
   refine B_cond _ rfl (fun hc3 => ?_) (fun hc3 => ?_)
   ·try simp only [qB, qN] at hc3
    refine B_seq (B_region ?_)
    refine Lo u26 (v_const (VVal.bool false) (.inr rfl) rfl) ?_
    refine L_nil (K_seq (B_ret (K_blkR (K_seqR (K_loopR (K_blkR (K_seqR ?_)))))))
    refine W5i (.inr rfl) (vres_tmp rfl rfl) ?_
    exact ⟨by rw [decide_eq_false (fun e => by subst e; exact hc3 rfl)], rfl⟩
   ·try simp only [qB, qN] at hc3
    refine B_skip (K_blk (K_seq (B_region ?_)))
    refine Lo u26 (v_move (.inl rfl) rfl) ?_
    refine Lo u26 (W5l rfl rfl rfl) ?_
    refine Lo u26 (v_move (.inr rfl) rfl) ?_
    refine L_nil ?_
    refine K_loop (mk 26 67108828) (env' := u26) rfl ⟨k + 1, ?_, rfl, ?_⟩
    ·first | omega | (simp only []; omega)
    ·exact ⟨⟨by omega, fun j hj => by by_cases e : j = k; (subst e; assumption); exact hall j (by omega)⟩, rfl⟩
  ·try simp only [qB, qN] at hc2
   refine B_exit (K_seqX (K_loopX (K_blkX (K_seq (B_seq (B_region ?_))))))
   refine Lo u26 (v_const (VVal.bool true) (.inr rfl) rfl) ?_
   refine L_nil (K_seq (B_ret ?_))
   refine W5i (.inr rfl) (vres_tmp rfl rfl) ?_
   have e := eq_getD (d := 0) (by omega) (fun j hj => hall j (by omega))
   exact ⟨by rw [decide_eq_true e], rfl⟩
def pw : Pb := (3, [3#64, 3#64, 4#64], [-1, -1, -1], [(1, 0, [0, 1], ())], ())
theorem wk_le : leA pw = some [0, 1, 2] := by decide +kernel
theorem pw_L : PbL pw := ⟨by decide, by decide, by decide, by decide, fun r hr => by
  have hr : r ∈ [((1 : Int), (0 : Int), [(0 : Int), 1], ())] := hr
  rw [List.mem_singleton] at hr; subst hr; decide⟩
theorem wk_h : hds pw [0, 1, 2] = true := by decide +kernel
theorem wk_c : pck pw = 0 := by decide +kernel
theorem wk_t : leT (leA pw) = .tuple [fzI [0, 1, 2], .bool true] := by rw [wk_le]; rfl
theorem at_get {H L : VHeap} {k : VBlk} : (H ++ k :: L)[H.length]? = some k := by rw [List.getElem?_append_right (Nat.le_refl _), Nat.sub_self]; rfl
theorem at_set {H L : VHeap} {k k' : VBlk} : (H ++ k :: L).set H.length k' = H ++ k' :: L := by rw [List.set_append_right _ _ (Nat.le_refl _), Nat.sub_self]; rfl
theorem sLeast_at {x : SW} (H L : VHeap) (g : Gz) (p : Pb) (hp : PbL p) : F (psys x) 22 [.ptr (some (H.length, 0)), .agg (pbB p)] (H ++ gaB g :: L) fun v G => v = leT (leA p) ∧ G = H ++ gaB (g + leG p) :: L := by
  have := sLeast_spec (x := x) (H ++ gaB g :: L) H.length g at_get p hp
  rw [at_set] at this; exact this
theorem Can_at {x : SW} (H L : VHeap) (g : Gz) (p : Pb) (hp : PbL p) : F (psys x) 25 [.ptr (some (H.length, 0)), .agg (pbB p)] (H ++ gaB g :: L) fun v G => v = .bool (leA p).isSome ∧ G = H ++ gaB (g + leG p) :: L := by
  have := Can_spec (x := x) (H ++ gaB g :: L) H.length g at_get p hp
  rw [at_set] at this; exact this
theorem wakes_spec {x : SW} (H : VHeap) : F (psys x) 19 [] H fun v G => v = .bool true ∧ G = H := by
 refine F_body Tryd.func19 rfl u41 rfl ?_
 refine B_seq (B_region ?_)
 refine Lo u41 (v_const (VVal.bool false) (.inr rfl) rfl) ?_
 refine L_nil (K_seq (B_seq (B_region ?_)))
 refine L_call rfl rfl rfl (by exact sNew_spec _) ?_
 rintro _ _ ⟨rfl, rfl⟩; rw [List.append_nil]
 refine Le u41 ?_
 refine Lo u41 (v_move (.inr rfl) rfl) ?_
 refine L_nil (K_seq (B_seq (B_seq (B_region ?_))))
 refine Lo u41 (v_move (.inl rfl) rfl) ?_
 refine Lo u41 (v_is false rfl rfl) ?_
 refine L_nil (K_seq ?_)
 refine B_false rfl rfl ?_
 refine B_skip (K_seq (B_seq (B_region ?_)))
 refine Lo u41 (v_buildSlice rfl rfl (by decide) rfl) ?_
 refine Lo u41 (v_buildSlice rfl rfl (by decide) rfl) ?_
 refine Lo u41 (v_buildSlice rfl rfl (by decide) rfl) ?_
 refine Lo u41 (rfl) ?_
 refine Lo u41 (v_buildSlice rfl rfl (by decide) rfl) ?_
 refine Lo u41 (rfl) ?_
 refine Lo u41 (v_alloc rfl rfl) ?_
 refine Lo u41 (W5m rfl rfl rfl rfl rfl rfl rfl) ?_
 refine L_nil (K_seq (B_seq (B_region ?_)))
 refine L_gh (Gh.cellL (l := [iI 0, iI 1]) 4 2 3 rfl rfl (by decide) rfl rfl (Nat.le_refl _)) ?_
 refine L_gh (Gh.cellL (l := [iW 3#64, iW 3#64, iW 4#64]) 5 1 1 rfl rfl (by decide) rfl rfl (Nat.le_refl _)) ?_
 refine L_gh (Gh.cellL (l := [iI (-1), iI (-1), iI (-1)]) 5 2 2 rfl rfl (by decide) rfl rfl (Nat.le_refl _)) ?_
 refine L_gh (Gh.cellL (l := rlB (1, 0, [0, 1], ())) 5 3 4 rfl rfl (by decide) rfl rfl (Nat.le_refl _)) ?_
 refine Lo u41 (v_move (.inl rfl) rfl) ?_
 refine Lo u41 (W5n rfl rfl rfl rfl rfl) ?_
 refine L_call rfl rfl rfl (by exact sLeast_at H _ 0 pw pw_L) ?_
 rintro v _ ⟨hv, rfl⟩; rw [wk_t] at hv; subst hv
 refine Le u41 ?_
 refine Lo u41 (v_move (.inl rfl) rfl) ?_
 refine Lo u41 (rfl) ?_
 refine Lo u41 (rfl) ?_
 refine Lo u41 (v_move (.inr rfl) rfl) ?_
 refine Lo u41 (v_move (.inr rfl) rfl) ?_
 refine L_nil (K_seq (B_seq (B_region ?_)))
 refine Lo u41 (v_move (.inl rfl) rfl) ?_
 refine Lo u41 (v_move (.inl rfl) rfl) ?_
 refine Lo u41 (v_move (.inl rfl) rfl) ?_
 refine Lo u41 (v_buildSlice rfl rfl (by decide) rfl) ?_
 refine L_gh (Gh.freezeL (l := [iI 0, iI 1, iI 2]) 23 6 rfl rfl rfl (Nat.le_refl _) rfl) ?_
 refine L_call rfl rfl rfl (by exact kInts_spec _ [0, 1, 2] [0, 1, 2] (by decide)) ?_
 rintro v _ ⟨hv, rfl⟩; obtain rfl : v = .bool true := hv.trans (congrArg VVal.bool (by decide))
 refine Le u41 ?_
 refine Lo u41 (v_pickT rfl rfl rfl) ?_
 refine Lo u41 (v_move (.inl rfl) rfl) ?_
 refine Lo u41 (v_move (.inl rfl) rfl) ?_
 refine Lo u41 (W5n rfl rfl rfl rfl rfl) ?_
 refine L_call rfl rfl rfl (by exact Can_at H _ (0 + leG pw) pw pw_L) ?_
 rintro v _ ⟨hv, rfl⟩; obtain rfl : v = .bool true := hv.trans (congrArg VVal.bool (by rw [wk_le]; rfl))
 refine Le u41 ?_
 refine Lo u41 (v_pickT rfl rfl rfl) ?_
 refine Lo u41 (v_move (.inl rfl) rfl) ?_
 refine Lo u41 (W5n rfl rfl rfl rfl rfl) ?_
 refine Lo u41 (v_move (.inl rfl) rfl) ?_
 refine L_call rfl rfl rfl (by exact Holds_spec _ pw [0, 1, 2] pw_L (by decide)) ?_
 rintro v _ ⟨hv, rfl⟩; obtain rfl : v = .bool true := hv.trans (congrArg VVal.bool wk_h)
 refine Le u41 ?_
 refine Lo u41 (v_pickT rfl rfl rfl) ?_
 refine Lo u41 (v_move (.inl rfl) rfl) ?_
 refine Lo u41 (W5n rfl rfl rfl rfl rfl) ?_
 refine L_call rfl rfl rfl (by exact sCheck_spec _ pw pw_L) ?_
 rintro v _ ⟨hv, rfl⟩; rw [wk_c] at hv; subst hv
 refine Le u41 ?_
 refine Lo u41 (rfl) ?_
 refine Lo u41 (v_pickT rfl rfl rfl) ?_
 refine Lo u41 (v_move (.inr rfl) rfl) ?_
 refine L_nil (K_seq (B_ret ?_))
 refine W5i (.inr rfl) (vres_tmp rfl rfl) ?_
 exact ⟨rfl, rfl⟩
end Go.Proofs.YtnbihdflnjpinaaDoor.VT

set_option autoImplicit false
set_option linter.unusedVariables false
set_option linter.unusedSimpArgs false
set_option maxHeartbeats 4000000
set_option maxRecDepth 100000
namespace Go.Proofs.YtnbihdflnjpinaaDoor.VT
open Go Go.V Go.RowKit
abbrev u11 {a0 a1 a2 a3 a4 a5 a6 a7 a8 a9 a10 : VVal} : VEnv := a0 :: a1 :: a2 :: a3 :: a4 :: a5 :: a6 :: a7 :: a8 :: a9 :: a10 :: []
abbrev u102 {a0 a1 a2 a3 a4 a5 a6 a7 a8 a9 a10 a11 a12 a13 a14 a15 a16 a17 a18 a19 a20 a21 a22 a23 a24 a25 a26 a27 a28 a29 a30 a31 a32 a33 a34 a35 a36 a37 a38 a39 a40 a41 a42 a43 a44 a45 a46 a47 a48 a49 a50 a51 a52 a53 a54 a55 a56 a57 a58 a59 a60 a61 a62 a63 a64 a65 a66 a67 a68 a69 a70 a71 a72 a73 a74 a75 a76 a77 a78 a79 a80 a81 a82 a83 a84 a85 a86 a87 a88 a89 a90 a91 a92 a93 a94 a95 a96 a97 a98 a99 a100 a101 : VVal} : VEnv := a0 :: a1 :: a2 :: a3 :: a4 :: a5 :: a6 :: a7 :: a8 :: a9 :: a10 :: a11 :: a12 :: a13 :: a14 :: a15 :: a16 :: a17 :: a18 :: a19 :: a20 :: a21 :: a22 :: a23 :: a24 :: a25 :: a26 :: a27 :: a28 :: a29 :: a30 :: a31 :: a32 :: a33 :: a34 :: a35 :: a36 :: a37 :: a38 :: a39 :: a40 :: a41 :: a42 :: a43 :: a44 :: a45 :: a46 :: a47 :: a48 :: a49 :: a50 :: a51 :: a52 :: a53 :: a54 :: a55 :: a56 :: a57 :: a58 :: a59 :: a60 :: a61 :: a62 :: a63 :: a64 :: a65 :: a66 :: a67 :: a68 :: a69 :: a70 :: a71 :: a72 :: a73 :: a74 :: a75 :: a76 :: a77 :: a78 :: a79 :: a80 :: a81 :: a82 :: a83 :: a84 :: a85 :: a86 :: a87 :: a88 :: a89 :: a90 :: a91 :: a92 :: a93 :: a94 :: a95 :: a96 :: a97 :: a98 :: a99 :: a100 :: a101 :: []
theorem W5o {T : TypeId → Option VTy} {H : VHeap} {op : Op} {ρ : Operand → VVal} {t : TypeId} {a : Operand} {y : VTy} {p v : VVal} (ho : op = .load t a) (ha : ρ a = p) (hy : T t = some y) (hd : isAggDesc y.desc = false) (h : LdOk H p v := by first | exact .inl ⟨_, _, rfl, by first | rfl | assumption | exact fgetN (α := BitVec 64) 0 (by omega) | exact fgetN (α := Int) 0 (by omega) | exact rul_at (by omega)⟩ | exact .inr ⟨_, _, _, _, rfl, by first | exact get_app rfl rfl | exact get_out (by assumption) | exact getE0 rfl rfl | exact get_out (get_app rfl rfl) | exact get_app rfl (by assumption) | assumption | (simp only [List.append_assoc, List.singleton_append, List.cons_append, List.nil_append]; refine getE (i := 0) rfl ?_ rfl; simp; done) | (simp only [List.append_assoc, List.singleton_append, List.cons_append, List.nil_append]; refine getE (i := 1) rfl ?_ rfl; simp; done) | (simp only [List.append_assoc, List.singleton_append, List.cons_append, List.nil_append]; refine getE (i := 2) rfl ?_ rfl; simp; done) | (simp only [List.append_assoc, List.singleton_append, List.cons_append, List.nil_append]; refine getE (i := 3) rfl ?_ rfl; simp; done) | (simp [*]; done), by first | rfl | assumption | exact fgetN (α := BitVec 64) 0 (by omega) | exact fgetN (α := Int) 0 (by omega) | exact rul_at (by omega)⟩) : vop T ρ H op = some (v, H) := v_ld ho ha hy hd h
theorem W5p {T : TypeId → Option VTy} {H : VHeap} {op : Op} {ρ : VEnv} {H' : VHeap} {t : TypeId} {a : Operand} {i : Nat} {v : VVal} {y : VTy} {b off : Nat} {cs new : List VVal} (ho : op = .store t a (.tmp i)) (hv : ρ[i]? = some v) (ha : ρ.eval a = .ptr (some (b, off))) (hy : T t = some y) (hx : v.cells = some new) (hn : new.length = y.size) (h1 : new.all VVal.one = true) (hb : H[b]? = some (.cells cs true) := by first | exact get_app rfl rfl | exact get_out (by assumption) | exact getE0 rfl rfl | exact get_out (get_app rfl rfl) | exact get_app rfl (by assumption) | assumption | (simp only [List.append_assoc, List.singleton_append, List.cons_append, List.nil_append]; refine getE (i := 0) rfl ?_ rfl; simp; done) | (simp only [List.append_assoc, List.singleton_append, List.cons_append, List.nil_append]; refine getE (i := 1) rfl ?_ rfl; simp; done) | (simp only [List.append_assoc, List.singleton_append, List.cons_append, List.nil_append]; refine getE (i := 2) rfl ?_ rfl; simp; done) | (simp only [List.append_assoc, List.singleton_append, List.cons_append, List.nil_append]; refine getE (i := 3) rfl ?_ rfl; simp; done) | (simp [*]; done)) (hl : off + new.length ≤ cs.length := by first | exact Nat.le_of_ble_eq_true rfl | (simp only [List.length_map, List.length_cons, List.length_nil]; omega) | omega | (simp; done) | (simp; omega)) (hH : H.set b (.cells (splice cs off new) true) = H' := by first | exact setE0 rfl rfl | (simp only [List.append_assoc, List.singleton_append, List.cons_append, List.nil_append]; refine setE (i := 0) rfl ?_; simp; done) | (simp only [List.append_assoc, List.singleton_append, List.cons_append, List.nil_append]; refine setE (i := 1) rfl ?_; simp; done) | (simp only [List.append_assoc, List.singleton_append, List.cons_append, List.nil_append]; refine setE (i := 2) rfl ?_; simp; done) | (simp only [List.append_assoc, List.singleton_append, List.cons_append, List.nil_append]; refine setE (i := 3) rfl ?_; simp; done) | (refine setB rfl ?_; simp; done) | exact set_app rfl | exact set_out (lt_of_get (by assumption)) | rfl) : vop T ρ.eval H op = some (.skip, H') := v_storeT ho hv ha hy hx hn h1 hb hl hH
theorem W5q {T : TypeId → Option VTy} {H : VHeap} {op : Op} {ρ : Operand → VVal} {t e : TypeId} {x i : Operand} {y z : VTy} {k : IntKind} {n : Int} {p v : VVal} {es : Nat} (ho : op = .indexAddr t x i) (hx : ρ x = p) (hi : ρ i = .int k n) (hy : T t = some y) (hd : y.desc = .slice e) (hz : T e = some z) (hs : z.size = es) (h : IxOk p es n v := by first | exact .inl ⟨_, _, _, rfl, by first | assumption | omega | (simp [*]; done) | (simp at *; omega), rfl⟩ | exact .inr ⟨_, _, _, _, _, rfl, by first | assumption | omega | (simp [*]; done) | (simp at *; omega), rfl⟩) : vop T ρ H op = some (v, H) := v_ix ho hx hi hy hd hz hs h
theorem W5r {T : TypeId → Option VTy} {H : VHeap} {op : Op} {ρ : Operand → VVal} {t ty : TypeId} {x y : Operand} {n m : Int} (ho : op = .binOp .add t x y ty) (hx : ρ x = .int .i64 n) (hy : ρ y = .int .i64 m) (h : -9223372036854775808 ≤ n + m ∧ n + m < 9223372036854775808 := by first | assumption | omega | (simp [*]; done) | (simp at *; omega)) : vop T ρ H op = some (.int .i64 (n + m), H) := v_addI ho hx hy h
theorem W5s {T : TypeId → Option VTy} {H : VHeap} {op : Op} {ρ : Operand → VVal} {t : TypeId} {a : Operand} {y : VTy} {p : VVal} {n : Nat} {vs : List VVal} (ho : op = .load t a) (ha : ρ a = p) (hy : T t = some y) (hd : isAggDesc y.desc = true) (hn : y.size = n) (h : LdOkA H p n vs := by first | exact .inl ⟨_, _, rfl, by first | rfl | assumption | exact fgetN (α := BitVec 64) 0 (by omega) | exact fgetN (α := Int) 0 (by omega) | exact rul_at (by omega)⟩ | exact .inr ⟨_, _, _, _, rfl, by first | exact get_app rfl rfl | exact get_out (by assumption) | exact getE0 rfl rfl | exact get_out (get_app rfl rfl) | exact get_app rfl (by assumption) | assumption | (simp only [List.append_assoc, List.singleton_append, List.cons_append, List.nil_append]; refine getE (i := 0) rfl ?_ rfl; simp; done) | (simp only [List.append_assoc, List.singleton_append, List.cons_append, List.nil_append]; refine getE (i := 1) rfl ?_ rfl; simp; done) | (simp only [List.append_assoc, List.singleton_append, List.cons_append, List.nil_append]; refine getE (i := 2) rfl ?_ rfl; simp; done) | (simp only [List.append_assoc, List.singleton_append, List.cons_append, List.nil_append]; refine getE (i := 3) rfl ?_ rfl; simp; done) | (simp [*]; done), by first | rfl | assumption | exact fgetN (α := BitVec 64) 0 (by omega) | exact fgetN (α := Int) 0 (by omega) | exact rul_at (by omega)⟩) : vop T ρ H op = some (.agg vs, H) := v_ldA ho ha hy hd hn h
theorem W5t {S : V.Sys} {H : VHeap} {fn : Func} {ex : Exit} {env : VEnv} {B L : VHeap} {v : VVal} {R : VVal → VHeap → Prop} (hx : ex = .normal ∨ ex = .ret) (hv : vresults S.C.T env (B ++ L) fn.results = some v) (h : R v B) (hB : BaseOk H B := by first | exact BaseOk.refl _ | exact BaseOk.set (BaseOk.refl _) _ rfl) (hu : v.under H.length = true := by first | rfl | exact pb_under (p := cutP p)) : fnK S fn H R ex env (B ++ L) := E_app hx hv hB hu h
abbrev nilS : VVal := .slice none 0 0 true 0
abbrev pqB (u : Int) (a b c : VVal) : VBlk := .cells [iI u, a, b, c] true
def cutR (r : Rul) : Rul := (r.kind, r.k, r.steps.take 20, ())
def cutP (p : Pb) : Pb := (p.users, p.who.take 20, p.fixed.take 20, (p.rules.take 40).map cutR, ())
theorem take_end {α : Type} {l : List α} {k m : Nat} (h1 : k ≤ m) (h2 : ¬ (k < l.length ∧ k < m)) : l.take k = l.take m := by
  by_cases h : k = m
  · rw [h]
  · rw [List.take_of_length_le (by omega), List.take_of_length_le (by omega)]
theorem cutR_step {l : List Rul} {m : Nat} (h : m < l.length) : (l.take (m + 1)).map cutR = (l.take m).map cutR ++ [cutR (l.getD m r0)] := by rw [take_at (d := r0) h, List.map_append]; rfl
theorem cutP_L {p : Pb} (h : -9223372036854775808 ≤ p.users ∧ p.users < 9223372036854775808) : PbL (cutP p) :=
  ⟨h, by show (List.take 20 _).length ≤ _; rw [List.length_take]; omega, by show (List.take 20 _).length ≤ _; rw [List.length_take]; omega, by show ((List.take 40 _).map cutR).length ≤ _; rw [List.length_map, List.length_take]; omega,
    fun r hr => by
      obtain ⟨r1, _, rfl⟩ := List.mem_map.1 hr
      show (List.take 20 _).length ≤ _
      rw [List.length_take]; omega⟩
theorem cutP_2 {p : Pb} : cutP (cutP p) = cutP p := by
  unfold cutP
  show (p.users, (p.who.take 20).take 20, (p.fixed.take 20).take 20, ((((p.rules.take 40).map cutR)).take 40).map cutR, ()) = _
  rw [List.take_take, List.take_take, ← List.map_take, List.take_take, List.map_map]
  congr 1; congr 1; congr 1; congr 1
  apply List.map_congr_left
  intro r _
  show cutR (cutR r) = cutR r
  unfold cutR
  show (r.kind, r.k, (r.steps.take 20).take 20, ()) = _
  rw [List.take_take]; rfl
theorem Cut_spec {x : SW} (H : VHeap) (p : Pb) : F (psys x) 13 [.agg (pbB p)] H fun v G => v = .agg (pbB (cutP p)) ∧ G = H := by
 refine F_body Tryd.func13 rfl u102 rfl ?_
 refine B_seq (B_region ?_)
 refine Lo u102 (v_boxT rfl rfl rfl) ?_
 refine Lo u102 (v_alloc rfl rfl) ?_
 refine L_nil (K_seq (B_seq (B_region ?_)))
 refine L_gh (Gh.freezePtrL (cs := pbB p) 1 0 rfl rfl rfl) ?_
 refine Lo u102 (rfl) ?_
 refine Lo u102 (W5o rfl rfl rfl rfl) ?_
 refine Lo u102 (rfl) ?_
 refine Lo u102 (v_alloc rfl rfl) ?_
 refine Lo u102 (W5p rfl rfl rfl rfl rfl rfl rfl) ?_
 refine L_nil (K_seq ?_)
 refine B_seqJ (mk 102 5070602400912917605986812821489) (fun (u0 : Unit) => []) (fun (u0 : Unit) G => (True) ∧ ∃ lv X, G = (H ++ [VBlk.dead, pqB 0 nilS nilS nilS, pqB p.users lv nilS nilS]) ++ X ∧ LV (H.length + 3) 1 X lv ((p.who.take 20).map iW) (p.who.take 20).length) ?_ ?_
 ·skip
  refine B_seq (B_region ?_)
  refine Lo u102 (v_const (VVal.int .i64 0) (.inr rfl) rfl) ?_
  refine L_nil (K_seq (B_block ?_))
  refine B_clear (mk 102 5070602400912917605986812821473) (env' := u102) rfl ?_
  refine B_loopE (fun (k : Nat) => p.who.length - k) (fun (k : Nat) => [(4, iI (k : Nat))]) (fun (k : Nat) G => (k ≤ p.who.length ∧ k ≤ 20) ∧ ∃ lv X, G = (H ++ [VBlk.dead, pqB 0 nilS nilS nilS, pqB p.users lv nilS nilS]) ++ X ∧ LV (H.length + 3) 1 X lv (((p.who).take k).map iW) ((p.who).take k).length) 0 rfl ?_ ?_
  ·refine ⟨?_, ⟨_, [], (List.append_nil _).symm, LV.nil _ _ _⟩⟩
   exact ⟨Nat.zero_le _, Nat.zero_le _⟩
  rintro k _ ⟨⟨hk1, hk2⟩, ⟨lv, X, rfl, hl⟩⟩
  refine B_env (env' := u102) rfl ?_
  refine B_seq (B_seq (B_region ?_))
  refine Lo u102 (v_move (.inl rfl) rfl) ?_
  refine Lo u102 (rfl) ?_
  refine Lo u102 (W5o rfl rfl rfl rfl) ?_
  refine Lo u102 (rfl) ?_
  refine Lo u102 (rfl) ?_
  refine Lo u102 (v_move (.inl rfl) rfl) ?_
  refine L_split 18 (env1 := u102) (env2 := u102) rfl rfl rfl (fun hg1 => ?_) (fun hg1 => ?_)
  ·try simp only [qB, qN] at hg1
   refine Lo u102 (v_move (.inl rfl) rfl) ?_
   refine Lo u102 (rfl) ?_
   refine Lo u102 (v_pickT rfl rfl rfl) ?_
   refine L_nil (K_seq ?_)
   refine B_cond _ rfl (fun hc2 => ?_) (fun hc2 => ?_)
   ·try simp only [qB, qN] at hc2
    refine B_skip (K_seq (B_seq (B_block ?_)))
    refine B_draw [0, 1, 2, 3, 4, 5, 6, 7, 8, 9, 10] #[0, 1, 0, 4, 0, 28, 60, 124, 255, 511, 1023] (by kernel_rfl) (by kernel_rfl) (by kernel_rfl) ?_
    refine Oo u102 .calm rfl (rfl) ?_
    refine Oo u102 .look rfl (W5o rfl rfl rfl rfl) ?_
    refine Oo u102 .calm rfl (rfl) ?_
    refine Oo u102 .look rfl (W5o rfl rfl rfl rfl) ?_
    refine Oo u102 .calm rfl (v_move (.inl rfl) rfl) ?_
    refine Oo u102 .calm rfl (W5q rfl rfl rfl rfl rfl rfl rfl) ?_
    refine Oo u102 .look rfl (W5o rfl rfl rfl rfl) ?_
    refine Oo u102 .grow rfl (v_buildSlice rfl rfl (by decide) rfl) ?_
    refine O_opX .turn rfl rfl rfl (v_appXh rfl rfl rfl rfl rfl rfl rfl (by simp) hl rfl rfl (by decide) (by rw [List.length_take]; show (_ + 1) * 8 ≤ _ ∧ _ + 1 ≤ _; omega) (by decide)) rfl rfl ?_
    rintro _ _ ⟨Y1, rfl, rfl, hY1, hY2, hY3⟩
    refine O_env (env' := u102) rfl ?_
    refine Oo u102 .calm rfl (rfl) ?_
    refine Oo u102 .turn rfl (W5p rfl rfl rfl rfl rfl rfl rfl) ?_
    refine O_nil [] (by kernel_rfl) (trivial) ?_
    refine K_blk (K_seq (B_region ?_))
    refine Lo u102 (v_move (.inl rfl) rfl) ?_
    refine Lo u102 (W5r rfl rfl rfl) ?_
    refine Lo u102 (v_move (.inr rfl) rfl) ?_
    refine L_nil ?_
    refine K_loop (mk 102 5070602400912917605986812821473) (env' := u102) rfl ⟨k + 1, ?_, rfl, ?_⟩
    ·first | omega | (simp only []; omega)
    ·exact ⟨⟨by omega, by omega⟩, _, _, rfl, by rw [take_at (d := 0) (by omega)]; exact LV.pushW hY3⟩
   ·try simp only [qB, qN] at hc2
    refine B_exit (K_seqX (K_loopX (K_blkX ?_)))
    refine K_loop (mk 102 5070602400912917605986812821489) (env' := u102) rfl ⟨(), rfl, ?_⟩
    exact ⟨trivial, _, _, rfl, by rw [← take_end (m := 20) hk2 (by omega)]; exact hl⟩
  ·try simp only [qB, qN] at hg1
   refine Lf u102 ?_
   refine Lf u102 ?_
   refine Lo u102 (v_pickFC (VVal.bool false) rfl rfl rfl) ?_
   refine L_nil (K_seq ?_)
   refine B_false rfl rfl ?_
   refine B_exit (K_seqX (K_loopX (K_blkX ?_)))
   refine K_loop (mk 102 5070602400912917605986812821489) (env' := u102) rfl ⟨(), rfl, ?_⟩
   exact ⟨trivial, _, _, rfl, by rw [← take_end (m := 20) hk2 (by omega)]; exact hl⟩
 ·rintro u0 _ ⟨_, ⟨lv, X, rfl, hl⟩⟩
  refine B_env (env' := u102) rfl ?_
  refine B_seqJ (mk 102 5070602400912917605986812821489) (fun (u0 : Unit) => []) (fun (u0 : Unit) G => (True) ∧ ∃ lv X, G = (H ++ [VBlk.dead, pqB 0 nilS nilS nilS, pqB p.users (fzW (p.who.take 20)) lv nilS]) ++ X ∧ LV (H.length + 3) 1 X lv ((p.fixed.take 20).map iI) (p.fixed.take 20).length) ?_ ?_
  ·skip
   refine B_seq ?_
   refine B_ghCell 2 1 hl rfl rfl (by simp) fun X1 _ _ => ?_
   refine B_region ?_
   refine Lo u102 (v_const (VVal.int .i64 0) (.inr rfl) rfl) ?_
   refine L_nil (K_seq (B_block ?_))
   refine B_clear (mk 102 5070602400912917605986812821457) (env' := u102) rfl ?_
   refine B_loopE (fun (j : Nat) => p.fixed.length - j) (fun (j : Nat) => [(5, iI (j : Nat))]) (fun (j : Nat) G => (j ≤ p.fixed.length ∧ j ≤ 20) ∧ ∃ lv X, G = (H ++ [VBlk.dead, pqB 0 nilS nilS nilS, pqB p.users (fzW (p.who.take 20)) lv nilS]) ++ X ∧ LV (H.length + 3) 1 X lv (((p.fixed).take j).map iI) ((p.fixed).take j).length) 0 rfl ?_ ?_
   ·refine ⟨?_, ⟨_, X1, rfl, LV.nil _ _ _⟩⟩
    exact ⟨Nat.zero_le _, Nat.zero_le _⟩
   rintro j _ ⟨⟨hj1, hj2⟩, ⟨lv, X, rfl, hl⟩⟩
   refine B_env (env' := u102) rfl ?_
   refine B_seq (B_seq (B_region ?_))
   refine Lo u102 (v_move (.inl rfl) rfl) ?_
   refine Lo u102 (rfl) ?_
   refine Lo u102 (W5o rfl rfl rfl rfl) ?_
   refine Lo u102 (rfl) ?_
   refine Lo u102 (rfl) ?_
   refine Lo u102 (v_move (.inl rfl) rfl) ?_
   refine L_split 39 (env1 := u102) (env2 := u102) rfl rfl rfl (fun hg3 => ?_) (fun hg3 => ?_)
   ·try simp only [qB, qN] at hg3
    refine Lo u102 (v_move (.inl rfl) rfl) ?_
    refine Lo u102 (rfl) ?_
    refine Lo u102 (v_pickT rfl rfl rfl) ?_
    refine L_nil (K_seq ?_)
    refine B_cond _ rfl (fun hc4 => ?_) (fun hc4 => ?_)
    ·try simp only [qB, qN] at hc4
     refine B_skip (K_seq (B_seq (B_block ?_)))
     refine B_draw [0, 1, 2, 3, 4, 5, 6, 7, 8, 9, 10] #[0, 1, 0, 4, 0, 28, 60, 124, 255, 511, 1023] (by kernel_rfl) (by kernel_rfl) (by kernel_rfl) ?_
     refine Oo u102 .calm rfl (rfl) ?_
     refine Oo u102 .look rfl (W5o rfl rfl rfl rfl) ?_
     refine Oo u102 .calm rfl (rfl) ?_
     refine Oo u102 .look rfl (W5o rfl rfl rfl rfl) ?_
     refine Oo u102 .calm rfl (v_move (.inl rfl) rfl) ?_
     refine Oo u102 .calm rfl (W5q rfl rfl rfl rfl rfl rfl rfl) ?_
     refine Oo u102 .look rfl (W5o rfl rfl rfl rfl) ?_
     refine Oo u102 .grow rfl (v_buildSlice rfl rfl (by decide) rfl) ?_
     refine O_opX .turn rfl rfl rfl (v_appXh rfl rfl rfl rfl rfl rfl rfl (by simp) hl rfl rfl (by decide) (by rw [List.length_take]; show (_ + 1) * 8 ≤ _ ∧ _ + 1 ≤ _; omega) (by decide)) rfl rfl ?_
     rintro _ _ ⟨Y1, rfl, rfl, hY1, hY2, hY3⟩
     refine O_env (env' := u102) rfl ?_
     refine Oo u102 .calm rfl (rfl) ?_
     refine Oo u102 .turn rfl (W5p rfl rfl rfl rfl rfl rfl rfl) ?_
     refine O_nil [] (by kernel_rfl) (trivial) ?_
     refine K_blk (K_seq (B_region ?_))
     refine Lo u102 (v_move (.inl rfl) rfl) ?_
     refine Lo u102 (W5r rfl rfl rfl) ?_
     refine Lo u102 (v_move (.inr rfl) rfl) ?_
     refine L_nil ?_
     refine K_loop (mk 102 5070602400912917605986812821457) (env' := u102) rfl ⟨j + 1, ?_, rfl, ?_⟩
     ·first | omega | (simp only []; omega)
     ·exact ⟨⟨by omega, by omega⟩, _, _, rfl, by rw [take_at (d := 0) (by omega)]; exact LV.pushI hY3⟩
    ·try simp only [qB, qN] at hc4
     refine B_exit (K_seqX (K_loopX (K_blkX ?_)))
     refine K_loop (mk 102 5070602400912917605986812821489) (env' := u102) rfl ⟨(), rfl, ?_⟩
     exact ⟨trivial, _, _, rfl, by rw [← take_end (m := 20) hj2 (by omega)]; exact hl⟩
   ·try simp only [qB, qN] at hg3
    refine Lf u102 ?_
    refine Lf u102 ?_
    refine Lo u102 (v_pickFC (VVal.bool false) rfl rfl rfl) ?_
    refine L_nil (K_seq ?_)
    refine B_false rfl rfl ?_
    refine B_exit (K_seqX (K_loopX (K_blkX ?_)))
    refine K_loop (mk 102 5070602400912917605986812821489) (env' := u102) rfl ⟨(), rfl, ?_⟩
    exact ⟨trivial, _, _, rfl, by rw [← take_end (m := 20) hj2 (by omega)]; exact hl⟩
  ·rintro u0 _ ⟨_, ⟨lv, X, rfl, hl⟩⟩
   refine B_env (env' := u102) rfl ?_
   refine B_seqJ (mk 102 5070602400912917605986812821491) (fun (u0 : Unit) => []) (fun (u0 : Unit) G => (True) ∧ ∃ lv X, G = (H ++ [VBlk.dead, pqB 0 nilS nilS nilS, pqB p.users (fzW (p.who.take 20)) (fzI (p.fixed.take 20)) lv]) ++ X ∧ LV (H.length + 3) 3 X lv (((p.rules.take 40).map cutR).flatMap rlB) ((p.rules.take 40).map cutR).length) ?_ ?_
   ·skip
    refine B_seq ?_
    refine B_ghCell 2 2 hl rfl rfl (by simp) fun X2 _ _ => ?_
    refine B_region ?_
    refine Lo u102 (v_const (VVal.int .i64 0) (.inr rfl) rfl) ?_
    refine L_nil (K_seq (B_block ?_))
    refine B_clear (mk 102 5070602400912917605986812821425) (env' := u102) rfl ?_
    refine B_loopE (fun (m : Nat) => p.rules.length - m) (fun (m : Nat) => [(6, iI (m : Nat))]) (fun (m : Nat) G => (m ≤ p.rules.length ∧ m ≤ 40) ∧ ∃ lv X, G = (H ++ [VBlk.dead, pqB 0 nilS nilS nilS, pqB p.users (fzW (p.who.take 20)) (fzI (p.fixed.take 20)) lv]) ++ X ∧ LV (H.length + 3) 3 X lv (((p.rules.take m).map cutR).flatMap rlB) ((p.rules.take m).map cutR).length) 0 rfl ?_ ?_
    ·refine ⟨?_, ⟨_, X2, rfl, LV.nil _ _ _⟩⟩
     exact ⟨Nat.zero_le _, Nat.zero_le _⟩
    rintro m _ ⟨⟨hm1, hm2⟩, ⟨lv, X, rfl, hl⟩⟩
    refine B_env (env' := u102) rfl ?_
    refine B_seq (B_seq (B_region ?_))
    refine Lo u102 (v_move (.inl rfl) rfl) ?_
    refine Lo u102 (rfl) ?_
    refine Lo u102 (W5o rfl rfl rfl rfl) ?_
    refine Lo u102 (rfl) ?_
    refine Lo u102 (rfl) ?_
    refine Lo u102 (v_move (.inl rfl) rfl) ?_
    refine L_split 60 (env1 := u102) (env2 := u102) rfl rfl rfl (fun hg5 => ?_) (fun hg5 => ?_)
    ·try simp only [qB, qN] at hg5
     refine Lo u102 (v_move (.inl rfl) rfl) ?_
     refine Lo u102 (rfl) ?_
     refine Lo u102 (v_pickT rfl rfl rfl) ?_
     refine L_nil (K_seq ?_)
     refine B_cond _ rfl (fun hc6 => ?_) (fun hc6 => ?_)
     ·try simp only [qB, qN] at hc6
      refine B_skip (K_seq (B_seq (B_block (B_seq (B_region ?_)))))
      refine Lo u102 (rfl) ?_
      refine Lo u102 (W5o rfl rfl rfl rfl) ?_
      refine Lo u102 (v_move (.inl rfl) rfl) ?_
      refine Lo u102 (W5q rfl rfl rfl rfl rfl rfl rfl) ?_
      refine Lo u102 (W5s rfl rfl rfl rfl rfl) ?_
      refine Lo u102 (v_alloc rfl rfl) ?_
      refine Lo u102 (W5p rfl rfl rfl rfl rfl rfl rfl) ?_
      refine L_nil (K_seq (B_seq ?_))
      refine B_gh (Gh.freezeEnd (cs := rlB (p.rules.getD m r0)) 7 rfl rfl) ?_
      refine B_region ?_
      refine Lo u102 (v_const (VVal.slice none 0 0 true 0) (.inr rfl) rfl) ?_
      refine L_nil (K_seq (B_seq (B_seq (B_region ?_))))
      refine Lo u102 (v_const (VVal.int .i64 0) (.inr rfl) rfl) ?_
      refine L_nil (K_seq (B_block ?_))
      refine B_clear (mk 102 5070602400912917605986812820529) (env' := u102) rfl ?_
      refine B_loopE (fun (⟨k, sv⟩ : Nat × VVal) => (p.rules.getD m r0).steps.length - k) (fun (⟨k, sv⟩ : Nat × VVal) => [(8, sv), (9, iI (k : Nat))]) (fun (⟨k, sv⟩ : Nat × VVal) G => (k ≤ (p.rules.getD m r0).steps.length ∧ k ≤ 20) ∧ ∃ X, G = (H ++ [VBlk.dead, pqB 0 nilS nilS nilS, pqB p.users (fzW (p.who.take 20)) (fzI (p.fixed.take 20)) lv]) ++ X ∧ LV (H.length + 3) 3 X lv (((p.rules.take m).map cutR).flatMap rlB) ((p.rules.take m).map cutR).length ∧ LV (H.length + 3) 1 X sv (((p.rules.getD m r0).steps.take k).map iI) ((p.rules.getD m r0).steps.take k).length ∧ ∀ n, vidx lv = some n → vidx sv ≠ some n) ⟨0, _⟩ rfl ?_ ?_
      ·refine ⟨?_, ⟨X ++ [.dead], rfl, LV.app hl _, LV.nil _ _ _, fun n _ e => by cases e⟩⟩
       exact ⟨Nat.zero_le _, Nat.zero_le _⟩
      rintro ⟨k, sv⟩ _ ⟨⟨hk1, hk2⟩, ⟨X3, rfl, hl3, hs, hd⟩⟩
      refine B_env (env' := u102) rfl ?_
      refine B_seq (B_seq (B_region ?_))
      refine Lo u102 (v_move (.inl rfl) rfl) ?_
      refine Lo u102 (rfl) ?_
      refine Lo u102 (W5o rfl rfl rfl rfl) ?_
      refine Lo u102 (rfl) ?_
      refine Lo u102 (rfl) ?_
      refine Lo u102 (v_move (.inl rfl) rfl) ?_
      refine L_split 76 (env1 := u102) (env2 := u102) rfl rfl rfl (fun hg7 => ?_) (fun hg7 => ?_)
      ·try simp only [qB, qN] at hg7
       refine Lo u102 (v_move (.inl rfl) rfl) ?_
       refine Lo u102 (rfl) ?_
       refine Lo u102 (v_pickT rfl rfl rfl) ?_
       refine L_nil (K_seq ?_)
       refine B_cond _ rfl (fun hc8 => ?_) (fun hc8 => ?_)
       ·try simp only [qB, qN] at hc8
        refine B_skip (K_seq (B_seq (B_block (B_region ?_))))
        refine Lo u102 (v_move (.inl rfl) rfl) ?_
        refine Lo u102 (rfl) ?_
        refine Lo u102 (W5o rfl rfl rfl rfl) ?_
        refine Lo u102 (v_move (.inl rfl) rfl) ?_
        refine Lo u102 (W5q rfl rfl rfl rfl rfl rfl rfl) ?_
        refine Lo u102 (W5o rfl rfl rfl rfl) ?_
        refine Lo u102 (v_buildSlice rfl rfl (by decide) rfl) ?_
        refine L_opX rfl rfl (v_appXh rfl rfl rfl rfl rfl rfl rfl (by simp) hs rfl rfl (by decide) (by rw [List.length_take]; show (_ + 1) * 8 ≤ _ ∧ _ + 1 ≤ _; omega) (by decide)) ?_
        rintro _ _ ⟨Y1, rfl, rfl, hY1, hY2, hY3⟩
        refine Le u102 ?_
        refine Lo u102 (v_move (.inr rfl) rfl) ?_
        refine L_nil (K_blk (K_seq (B_region ?_)))
        refine Lo u102 (v_move (.inl rfl) rfl) ?_
        refine Lo u102 (W5r rfl rfl rfl) ?_
        refine Lo u102 (v_move (.inr rfl) rfl) ?_
        refine L_nil ?_
        refine K_loop (mk 102 5070602400912917605986812820529) (env' := u102) rfl ⟨⟨k + 1, _⟩, ?_, rfl, ?_⟩
        ·first | omega | (simp only []; omega)
        ·exact ⟨⟨by omega, by omega⟩, _, rfl, LV.app (LV.keep hl3 hd hY2) _, by rw [take_at (d := 0) (by omega)]; exact LV.pushI hY3, LV.far hl3 (Nat.le_succ _)⟩
       ·try simp only [qB, qN] at hc8
        refine B_exit (K_seqX (K_loopX (K_blkX (K_seq ?_))))
        rw [take_end (m := 20) hk2 (by omega)] at hs
        refine B_ghLVh (env' := u102) 8 hs (by simp) rfl rfl fun X4 hX4 hF4 => ?_
        have hl4 := LV.keep hl3 hd hF4
        refine B_region ?_
        refine Lo u102 (rfl) ?_
        refine Lo u102 (W5o rfl rfl rfl rfl) ?_
        refine Lo u102 (rfl) ?_
        refine Lo u102 (W5o rfl rfl rfl rfl) ?_
        refine Lo u102 (rfl) ?_
        refine Lo u102 (W5o rfl rfl rfl rfl) ?_
        refine Lo u102 (v_move (.inl rfl) rfl) ?_
        refine Lo u102 (rfl) ?_
        refine Lo u102 (v_buildSlice rfl rfl (by decide) rfl) ?_
        refine L_opX rfl rfl (v_appXh rfl rfl rfl rfl rfl rfl rfl (by simp) hl4 rfl rfl (by decide) (by rw [List.length_map, List.length_take]; show (_ + 1) * 40 ≤ _ ∧ _ + 1 ≤ _; omega) (by decide)) ?_
        rintro _ _ ⟨Y1, rfl, rfl, hY1, hY2, hY3⟩
        refine Le u102 ?_
        refine Lo u102 (rfl) ?_
        refine Lo u102 (W5p rfl rfl rfl rfl rfl rfl rfl) ?_
        refine L_nil (K_blk (K_seq (B_region ?_)))
        refine Lo u102 (v_move (.inl rfl) rfl) ?_
        refine Lo u102 (W5r rfl rfl rfl) ?_
        refine Lo u102 (v_move (.inr rfl) rfl) ?_
        refine L_nil ?_
        refine K_loop (mk 102 5070602400912917605986812821425) (env' := u102) rfl ⟨m + 1, ?_, rfl, ?_⟩
        ·first | omega | (simp only []; omega)
        ·exact ⟨⟨by omega, by omega⟩, _, _, rfl, by rw [cutR_step (by omega)]; exact LV.pushF hY3⟩
      ·try simp only [qB, qN] at hg7
       refine Lf u102 ?_
       refine Lf u102 ?_
       refine Lo u102 (v_pickFC (VVal.bool false) rfl rfl rfl) ?_
       refine L_nil (K_seq ?_)
       refine B_false rfl rfl ?_
       refine B_exit (K_seqX (K_loopX (K_blkX (K_seq ?_))))
       rw [take_end (m := 20) hk2 (by omega)] at hs
       refine B_ghLVh (env' := u102) 8 hs (by simp) rfl rfl fun X4 hX4 hF4 => ?_
       have hl4 := LV.keep hl3 hd hF4
       refine B_region ?_
       refine Lo u102 (rfl) ?_
       refine Lo u102 (W5o rfl rfl rfl rfl) ?_
       refine Lo u102 (rfl) ?_
       refine Lo u102 (W5o rfl rfl rfl rfl) ?_
       refine Lo u102 (rfl) ?_
       refine Lo u102 (W5o rfl rfl rfl rfl) ?_
       refine Lo u102 (v_move (.inl rfl) rfl) ?_
       refine Lo u102 (rfl) ?_
       refine Lo u102 (v_buildSlice rfl rfl (by decide) rfl) ?_
       refine L_opX rfl rfl (v_appXh rfl rfl rfl rfl rfl rfl rfl (by simp) hl4 rfl rfl (by decide) (by rw [List.length_map, List.length_take]; show (_ + 1) * 40 ≤ _ ∧ _ + 1 ≤ _; omega) (by decide)) ?_
       rintro _ _ ⟨Y1, rfl, rfl, hY1, hY2, hY3⟩
       refine Le u102 ?_
       refine Lo u102 (rfl) ?_
       refine Lo u102 (W5p rfl rfl rfl rfl rfl rfl rfl) ?_
       refine L_nil (K_blk (K_seq (B_region ?_)))
       refine Lo u102 (v_move (.inl rfl) rfl) ?_
       refine Lo u102 (W5r rfl rfl rfl) ?_
       refine Lo u102 (v_move (.inr rfl) rfl) ?_
       refine L_nil ?_
       refine K_loop (mk 102 5070602400912917605986812821425) (env' := u102) rfl ⟨m + 1, ?_, rfl, ?_⟩
       ·first | omega | (simp only []; omega)
       ·exact ⟨⟨by omega, by omega⟩, _, _, rfl, by rw [cutR_step (by omega)]; exact LV.pushF hY3⟩
     ·try simp only [qB, qN] at hc6
      refine B_exit (K_seqX (K_loopX (K_blkX ?_)))
      refine K_loop (mk 102 5070602400912917605986812821491) (env' := u102) rfl ⟨(), rfl, ?_⟩
      exact ⟨trivial, _, _, rfl, by rw [← take_end (m := 40) hm2 (by omega)]; exact hl⟩
    ·try simp only [qB, qN] at hg5
     refine Lf u102 ?_
     refine Lf u102 ?_
     refine Lo u102 (v_pickFC (VVal.bool false) rfl rfl rfl) ?_
     refine L_nil (K_seq ?_)
     refine B_false rfl rfl ?_
     refine B_exit (K_seqX (K_loopX (K_blkX ?_)))
     refine K_loop (mk 102 5070602400912917605986812821491) (env' := u102) rfl ⟨(), rfl, ?_⟩
     exact ⟨trivial, _, _, rfl, by rw [← take_end (m := 40) hm2 (by omega)]; exact hl⟩
   ·rintro u0 _ ⟨_, ⟨lv, X, rfl, hl⟩⟩
    refine B_env (env' := u102) rfl ?_
    refine B_seq ?_
    refine B_ghCell 2 3 hl rfl rfl (by simp) fun X5 _ _ => ?_
    refine B_heap (List.append_assoc _ _ _) ?_
    refine B_region ?_
    refine Lo u102 (W5s rfl rfl rfl rfl rfl) ?_
    refine Lo u102 (W5p rfl rfl rfl rfl rfl rfl rfl) ?_
    refine L_nil (K_seq (B_ret ?_))
    refine W5t (.inr rfl) (vres_cellA rfl rfl rfl rfl (by first | exact get_app rfl rfl | exact get_out (by assumption) | exact getE0 rfl rfl | exact get_out (get_app rfl rfl) | exact get_app rfl (by assumption) | assumption | (simp only [List.append_assoc, List.singleton_append, List.cons_append, List.nil_append]; refine getE (i := 0) rfl ?_ rfl; simp; done) | (simp only [List.append_assoc, List.singleton_append, List.cons_append, List.nil_append]; refine getE (i := 1) rfl ?_ rfl; simp; done) | (simp only [List.append_assoc, List.singleton_append, List.cons_append, List.nil_append]; refine getE (i := 2) rfl ?_ rfl; simp; done) | (simp only [List.append_assoc, List.singleton_append, List.cons_append, List.nil_append]; refine getE (i := 3) rfl ?_ rfl; simp; done) | (simp [*]; done)) (by first | rfl | assumption | exact fgetN (α := BitVec 64) 0 (by omega) | exact fgetN (α := Int) 0 (by omega) | exact rul_at (by omega))) ?_
    exact ⟨rfl, rfl⟩
theorem rowP_spec {x : SW} (H : VHeap) (l : List Int) : F (psys x) 17 [fzI l] H fun v G => v = .slice (some (H.length, 0)) (l.take 30).length (l.take 30).length (decide ((l.take 30).length = 0)) 1 ∧ G = H ++ [.cells ((l.take 30).map iI) true] := by
 refine F_body Tryd.func17 rfl u11 rfl ?_
 refine B_seq (B_region ?_)
 refine Lo u11 (v_const (VVal.slice none 0 0 true 0) (.inr rfl) rfl) ?_
 refine L_nil (K_seq (B_seq (B_seq (B_region ?_))))
 refine Lo u11 (v_move (.inl rfl) rfl) ?_
 refine Lo u11 (rfl) ?_
 refine Lo u11 (rfl) ?_
 refine L_nil (K_seq ?_)
 refine B_cond _ rfl (fun hc1 => ?_) (fun hc1 => ?_)
 ·try simp only [qB] at hc1
  refine B_region ?_
  refine Lo u11 (v_move (.inl rfl) rfl) ?_
  refine Lo u11 (v_iHi (k := 30) rfl rfl rfl rfl rfl rfl rfl (by omega)) ?_
  refine Lo u11 (v_move (.inr rfl) rfl) ?_
  refine L_nil (K_seq (B_seq (B_region ?_)))
  have h30 : (l.take 30).length ≤ 30 := by rw [List.length_take]; omega
  try rw [show fzI l = fzI (l.take 30) by rw [List.take_of_length_le (by omega)]]
  refine Lo u11 (v_buildSlice rfl rfl (by decide) rfl) ?_
  refine Lo u11 (v_move (.inl rfl) rfl) ?_
  refine L_opX rfl rfl (v_appE (k := (l.take 30).length) rfl rfl rfl rfl rfl rfl rfl rfl (by rw [List.length_map]; exact (Nat.mul_one _).symm) (mapI_one _) (by decide) (by show (l.take 30).length * 8 ≤ _ ∧ (l.take 30).length ≤ _; omega)) ?_
  rintro _ _ ⟨Z, i, rfl, rfl, hi⟩
  refine Le u11 ?_
  refine Lo u11 (v_move (.inr rfl) rfl) ?_
  refine L_nil (K_seq (B_ret ?_))
  refine E_gh (.inr rfl) (vres_tmp rfl rfl) (Gh.pack (BaseOk.refl _) hi (mapI_under _ _)) ?_
  exact ⟨rfl, rfl⟩
 ·try simp only [qB] at hc1
  refine B_skip (K_seq (B_seq (B_region ?_)))
  have h30 : (l.take 30).length ≤ 30 := by rw [List.length_take]; omega
  try rw [show fzI l = fzI (l.take 30) by rw [List.take_of_length_le (by omega)]]
  refine Lo u11 (v_buildSlice rfl rfl (by decide) rfl) ?_
  refine Lo u11 (v_move (.inl rfl) rfl) ?_
  refine L_opX rfl rfl (v_appE (k := (l.take 30).length) rfl rfl rfl rfl rfl rfl rfl rfl (by rw [List.length_map]; exact (Nat.mul_one _).symm) (mapI_one _) (by decide) (by show (l.take 30).length * 8 ≤ _ ∧ (l.take 30).length ≤ _; omega)) ?_
  rintro _ _ ⟨Z, i, rfl, rfl, hi⟩
  refine Le u11 ?_
  refine Lo u11 (v_move (.inr rfl) rfl) ?_
  refine L_nil (K_seq (B_ret ?_))
  refine E_gh (.inr rfl) (vres_tmp rfl rfl) (Gh.pack (BaseOk.refl _) hi (mapI_under _ _)) ?_
  exact ⟨rfl, rfl⟩
theorem row_spec {x : SW} (H : VHeap) (l : List Int) : F (psys x) 17 [fzI l] H fun v G => v = fzI (l.take 30) ∧ G = H :=
  F.gh (rowP_spec H l) fun v G h => by
    obtain ⟨rfl, rfl⟩ := h
    exact ⟨_, _, Gh.fsl (j := 0) (BaseOk.refl H) rfl map_all (Nat.le_refl _) (mapI_under _ _), rfl, rfl⟩
end Go.Proofs.YtnbihdflnjpinaaDoor.VT
