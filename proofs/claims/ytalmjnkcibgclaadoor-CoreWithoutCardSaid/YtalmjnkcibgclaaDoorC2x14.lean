/- Proved: Rows.CoreWithoutCardSaid, the statement CoreWithout with its card, of the given program at the commit; no conditions beyond those in the statement. -/
import Derived.Test.YtalmjnkcibgclaaDoorC2x13
set_option autoImplicit false
set_option linter.unusedVariables false
set_option linter.unusedSimpArgs false
set_option maxHeartbeats 4000000
set_option maxRecDepth 100000
namespace Go.Proofs.YtalmjnkcibgclaaDoor.VT
open Go Go.V Go.RowKit
theorem W51 {T : TypeId → Option VTy} {H : VHeap} {op : Op} {ρ : VEnv} {H' : VHeap} {t : TypeId} {a : Operand} {i : Nat} {v : VVal} {y : VTy} {b off : Nat} {cs new : List VVal} (ho : op = .store t a (.tmp i)) (hv : ρ[i]? = some v) (ha : ρ.eval a = .ptr (some (b, off))) (hy : T t = some y) (hx : v.cells = some new) (hn : new.length = y.size) (h1 : new.all VVal.one = true) (hb : H[b]? = some (.cells cs true) := by exact get_app (List.length_set) rfl) (hl : off + new.length ≤ cs.length := by first | exact Nat.le_of_ble_eq_true rfl | (simp only [List.length_map, List.length_cons, List.length_nil]; omega) | omega | (simp; done) | (simp; omega)) (hH : H.set b (.cells (splice cs off new) true) = H' := by exact set_app (List.length_set)) : vop T ρ.eval H op = some (.skip, H') := v_storeT ho hv ha hy hx hn h1 hb hl hH
theorem W52 {S : V.Sys} {H : VHeap} {fn : Func} {ex : Exit} {env : VEnv} {B L : VHeap} {v : VVal} {R : VVal → VHeap → Prop} (hx : ex = .normal ∨ ex = .ret) (hv : vresults S.C.T env (B ++ L) fn.results = some v) (h : R v B) (hB : BaseOk H B := by exact BaseOk.set (BaseOk.refl _) _ rfl) (hu : v.under H.length = true := by show ((fzN _).under _ && (true && true)) = true; rw [show (fzN (plN a (lst (blkN (wsP p) a a.length) 0#64))).under _ = true from mapN_under _ _]; rfl) : fnK S fn H R ex env (B ++ L) := E_app hx hv hB hu h
theorem Least_some {x : SW} (H : VHeap) (y : Nat) (g : Gz) (hs : H[y]? = some (gaB g)) (p : Pb) (hp : PbL p) (hg0 : pck p = 0) (a : List Nat) (hf : (frm (kpB (wsP p) (rssP p)) (kpG p.users.toNat (wsP p) (rssP p)) (wsP p).length [] 0).2 = some a) (d9 : Gz) (z9 : List (Gz × List Nat)) (hq : (usT (blkN (wsP p) a a.length) [] 0#64).1 = (d9, (lst (blkN (wsP p) a a.length) 0#64)) :: z9) : F (psys x) 22 [.ptr (some (y, 0)), .agg (pbB p)] H fun v G => v = .tuple [fzN (plN a (lst (blkN (wsP p) a a.length) 0#64)), .bool true] ∧ G = H.set y (gaB (g + (frm (kpB (wsP p) (rssP p)) (kpG p.users.toNat (wsP p) (rssP p)) (wsP p).length [] 0).1 + d9)) := by
 have hg : Go.V.Good p := pck_good.1 hg0
 have hy := lt_of_get hs
 obtain ⟨_, hal, ha, _, _⟩ := fnd_ok hf
 have hw : a.length ≤ (wsP p).length := by omega
 have hn : (wsP p).length ≤ 1000000 := by rw [wsP_len]; exact hp.w
 obtain ⟨t9, hT9⟩ : ∃ t9, tv (plT a (usT (blkN (wsP p) a a.length) [] 0#64)) = (d9, fzN (plN a (lst (blkN (wsP p) a a.length) 0#64))) :: t9 := ⟨_, by unfold plT; rw [hq]; rfl⟩
 refine F_body Tryd.func22 rfl u35 rfl ?_
 refine B_seq (B_region ?_)
 refine Lo u35 (v_boxT rfl rfl rfl) ?_
 refine Lo u35 (v_alloc rfl rfl) ?_
 refine Lo u35 (v_alloc rfl rfl) ?_
 refine L_nil (K_seq (B_seq (B_seq ?_)))
 refine B_gh (Gh.freezePtrL (cs := pbB p) 3 0 rfl rfl rfl) ?_
 refine B_region ?_
 refine Lo u35 (W4u rfl rfl rfl rfl rfl) ?_
 refine L_call rfl rfl rfl (by exact sCheck_spec _ _ hp) ?_
 rintro _ _ ⟨rfl, rfl⟩
 refine Le u35 ?_
 refine Lo u35 (v_is false rfl (by rw [hg0]; rfl)) ?_
 refine L_nil (K_seq ?_)
 refine B_false rfl rfl ?_
 refine B_skip (K_seq (B_seq ?_))
 refine B_draw [0, 1, 2, 3, 4, 5] #[0, 0, 2, 6, 15, 31] (by kernel_rfl) (by kernel_rfl) (by kernel_rfl) ?_
 refine Oo u35 .look rfl (W4u rfl rfl rfl rfl rfl) ?_
 refine Oo u35 .calm rfl (v_move (.inl rfl) rfl) ?_
 refine Oo u35 .calm rfl (rfl) ?_
 refine Oo u35 .calm rfl (rfl) ?_
 refine O_call (env' := u35) rfl rfl rfl rfl rfl (by exact New_N _ p y (by simp; omega) hg) (by first | exact Nat.le_refl _ | simp) rfl rfl ?_
 refine Oo u35 .calm rfl (v_move (.inr rfl) rfl) ?_
 refine O_nil [] (by kernel_rfl) (trivial) ?_
 refine K_seq (B_seq (B_seq (B_region ?_)))
 refine Lo u35 (rfl) ?_
 refine Lo u35 (W4d rfl rfl rfl rfl) ?_
 refine Lo u35 (rfl) ?_
 refine Lo u35 (v_move (.inl rfl) rfl) ?_
 refine Lo u35 ((rfl : vop _ _ _ _ = some (kpV p.users.toNat (wsP p) (rssP p) y, _))) ?_
 refine L_call rfl rfl rfl (by exact Search_in H _ hs hg) ?_
 rintro _ _ ⟨rfl, rfl⟩; rw [hf]
 refine Le u35 ?_
 refine Lo u35 (rfl) ?_
 refine Lo u35 (v_const (VVal.int .i64 0) (.inl rfl) rfl) ?_
 refine L_nil (K_seq (B_block ?_))
 refine B_clear (mk 35 34301017999) (env' := u35) rfl ?_
 refine B_loopE (fun (k : Nat) => 0) (fun (k : Nat) => [(25, iI (k : Nat))]) (fun (k : Nat) G => (k = 0) ∧ G = H.set y (gaB (g + (frm (kpB (wsP p) (rssP p)) (kpG p.users.toNat (wsP p) (rssP p)) (wsP p).length [] 0).1)) ++ [.dead, .cells [niS] true, .cells [.bool false] true]) 0 rfl ?_ ?_
 ·refine ⟨?_, rfl⟩
  rfl
 rintro k _ ⟨rfl, rfl⟩
 refine B_env (env' := u35) rfl ?_
 refine B_seq (B_region ?_)
 refine Lo u35 (rfl) ?_
 refine L_nil (K_seq (B_seq ?_))
 refine B_cond _ rfl (fun hc1 => ?_) (fun hc1 => ?_)
 ·try simp only [qB, qN] at hc1
  refine B_skip (K_seq (B_seq (B_block (B_seq (B_region ?_)))))
  refine Lo u35 (W18 rfl rfl rfl rfl rfl rfl rfl) ?_
  refine Lo u35 (W4d rfl rfl rfl rfl) ?_
  refine Lo u35 (v_move (.inr rfl) rfl) ?_
  refine L_nil (K_seq (B_seq (B_region ?_)))
  refine Lo u35 (v_move (.inl rfl) rfl) ?_
  refine Lo u35 (v_move (.inl rfl) rfl) ?_
  refine L_call rfl rfl rfl (by exact Plans_spec _ y (by simp; omega) a) ?_
  rintro _ _ ⟨rfl, rfl⟩
  refine Le u35 ?_
  refine L_nil (K_seq (B_block ?_))
  refine B_clear (mk 35 32153534351) (env' := u35) rfl ?_
  refine B_rangePJ (y) (tv (plT a (usT (blkN (wsP p) a a.length) [] 0#64))) ((usT (blkN (wsP p) a a.length) [] 0#64).2) (fun l0 h => by cases h) rfl (fun l9 G9 K9 hg9 hI9 => Plans1_spec y l9 a ha hw hn G9 _ K9 hg9.choose_spec hI9) (σ := Gz × VVal × Bool) (fun k s => H.set y (gaB s.1) ++ [.dead, .cells [s.2.1] true, .cells [.bool s.2.2] true, k]) (g + (frm (kpB (wsP p) (rssP p)) (kpG p.users.toNat (wsP p) (rssP p)) (wsP p).length [] 0).1, niS, false) (fun k => by simp) (fun k s => by simp) (fun k s => by rw [show ((H.set y _) ++ _ : VHeap).length = H.length + 3 by simp]; exact get_app (List.length_set) rfl) (fun k k1 s => by rw [show ((H.set y _) ++ _ : VHeap).length = H.length + 3 by simp]; exact set_app (List.length_set)) (fun s => s.1) (fun d s => (s.1 + d, s.2)) (fun pre s => pre = [] ∧ s = (g + (frm (kpB (wsP p) (rssP p)) (kpG p.users.toNat (wsP p) (rssP p)) (wsP p).length [] 0).1, niS, false)) (fun k s pre hI => by exact get_append (List.getElem?_set_self hy)) (fun k s d pre hI => by rw [set_out (by rw [List.length_set]; exact hy), List.set_set]) ?_ (fun j pre c s => (j = Code.ret ∧ (s = (g + (frm (kpB (wsP p) (rssP p)) (kpG p.users.toNat (wsP p) (rssP p)) (wsP p).length [] 0).1 + d9, fzN (plN a (lst (blkN (wsP p) a a.length) 0#64)), true)))) rfl ?_ ?_ ?_
  ·exact ⟨rfl, rfl⟩
  ·intro pre d c post s hx hI Lp kr kb hkr hkb
   obtain ⟨g8, v8, b8⟩ := s
   try dsimp only at hI ⊢
   obtain ⟨rfl, hI⟩ := hI
   obtain ⟨rfl, rfl, rfl⟩ : g8 = _ ∧ v8 = _ ∧ b8 = _ := by simpa using hI
   obtain ⟨rfl, rfl⟩ : d = d9 ∧ c = fzN (plN a (lst (blkN (wsP p) a a.length) 0#64)) := by
    have h9 : (d9, fzN (plN a (lst (blkN (wsP p) a a.length) 0#64))) :: t9 = (d, c) :: post := (by rw [← hT9]; exact hx)
    injection h9 with h1 h2; injection h1 with h3 h4; exact ⟨h3.symm, h4.symm⟩
   refine B_env (env' := u35) rfl ?_
   refine B_region ?_
   refine Lo u35 (v_move (.inr rfl) rfl) ?_
   refine L_nil ?_
   refine ⟨rfl, (g + (frm (kpB (wsP p) (rssP p)) (kpG p.users.toNat (wsP p) (rssP p)) (wsP p).length [] 0).1 + d, niS, false), rfl, ?_⟩
   try dsimp only
   refine B_heap (H' := H.set y (gaB (g + (frm (kpB (wsP p) (rssP p)) (kpG p.users.toNat (wsP p) (rssP p)) (wsP p).length [] 0).1 + d)) ++ ([.dead, .cells [niS] true, .cells [.bool false] true, kb] ++ Lp)) (by simp) ?_
   refine B_block (B_seq (B_region ?_))
   refine Lo u35 (v_move (.inl rfl) rfl) ?_
   refine Lo u35 (W51 rfl rfl rfl rfl rfl rfl rfl) ?_
   refine Lo u35 (v_storeC (VVal.bool true) rfl rfl rfl rfl rfl rfl rfl (by exact get_app (List.length_set) rfl) (by first | exact Nat.le_of_ble_eq_true rfl | (simp only [List.length_map, List.length_cons, List.length_nil]; omega) | omega | (simp; done) | (simp; omega)) (by exact set_app (List.length_set))) ?_
   refine L_nil (K_seq (B_ret (K_blkR ?_)))
   refine ⟨(g + (frm (kpB (wsP p) (rssP p)) (kpG p.users.toNat (wsP p) (rssP p)) (wsP p).length [] 0).1 + d, fzN (plN a (lst (blkN (wsP p) a a.length) 0#64)), true), [], (by simp; exact ⟨rfl, rfl⟩), .inr ⟨Code.ret, rfl, ⟨rfl, ?_⟩⟩⟩
   rfl
  ·intro s k hk hI J9
   obtain ⟨g8, v8, b8⟩ := s
   try dsimp only at hI ⊢
   exfalso
   obtain ⟨h8, _⟩ := hI
   rw [hT9] at h8; cases h8
  ·rintro j pre c post s k hk hx (⟨rfl, hX⟩) J9
   obtain ⟨g8, v8, b8⟩ := s
   try dsimp only
   obtain ⟨rfl, rfl, rfl⟩ : g8 = _ ∧ v8 = _ ∧ b8 = _ := by simpa using hX
   rw [List.append_assoc (H.set _ _)]
   refine J_ret ?_
   refine K_blkR (K_blkR (K_seqR (K_loopR (K_blkR (K_seqR ?_)))))
   refine W52 (.inr rfl) (vres_cells2 rfl rfl rfl rfl rfl rfl rfl (by exact get_app (List.length_set) rfl) (by rfl) (by exact get_app (List.length_set) rfl) (by rfl)) ?_
   exact ⟨rfl, rfl⟩
 ·try simp only [qB, qN] at hc1
  exfalso; simp at hc1
end Go.Proofs.YtalmjnkcibgclaaDoor.VT

set_option autoImplicit false
set_option linter.unusedVariables false
set_option linter.unusedSimpArgs false
set_option maxHeartbeats 4000000
set_option maxRecDepth 100000
namespace Go.Proofs.YtalmjnkcibgclaaDoor.VT
open Go Go.V Go.RowKit
abbrev u3 {a0 a1 a2 : VVal} : VEnv := a0 :: a1 :: a2 :: []
abbrev u14 {a0 a1 a2 a3 a4 a5 a6 a7 a8 a9 a10 a11 a12 a13 : VVal} : VEnv := a0 :: a1 :: a2 :: a3 :: a4 :: a5 :: a6 :: a7 :: a8 :: a9 :: a10 :: a11 :: a12 :: a13 :: []
theorem sLeast_spec {x : SW} (H : VHeap) (y : Nat) (g : Gz) (hs : H[y]? = some (gaB g)) (p : Pb) (hp : PbL p) : F (psys x) 22 [.ptr (some (y, 0)), .agg (pbB p)] H fun v G => v = leT (leA p) ∧ G = H.set y (gaB (g + leG p)) := by
  by_cases hg : pck p = 0
  · cases hf : (frm (kpB (wsP p) (rssP p)) (kpG p.users.toNat (wsP p) (rssP p)) (wsP p).length [] 0).2 with
    | none =>
      refine (Least_none H y g hs p hp hg hf).mono ?_
      rintro v G ⟨rfl, rfl⟩
      rw [show leA p = none by unfold leA fdA; rw [if_pos hg, hf]; rfl, show leG p = (frm (kpB (wsP p) (rssP p)) (kpG p.users.toNat (wsP p) (rssP p)) (wsP p).length [] 0).1 by unfold leG fdG; rw [if_pos hg, hf]; exact Gz.add_zero _]
      exact ⟨rfl, rfl⟩
    | some a =>
      obtain ⟨_, _, _, _, hm⟩ := fnd_ok hf
      obtain ⟨d9, z9, hq⟩ := usT_fst hm
      refine (Least_some H y g hs p hp hg a hf d9 z9 hq).mono ?_
      rintro v G ⟨rfl, rfl⟩
      rw [show leA p = some (plN a (lst (blkN (wsP p) a a.length) 0#64)) by unfold leA fdA; rw [if_pos hg, hf]; rfl, show leG p = (frm (kpB (wsP p) (rssP p)) (kpG p.users.toNat (wsP p) (rssP p)) (wsP p).length [] 0).1 + d9 by unfold leG fdG; rw [if_pos hg, hf]; simp only [hq]; rfl]
      exact ⟨rfl, by rw [Gz.assoc]⟩
  · refine (Least_bad H y g hs p hp hg).mono ?_
    rintro v G ⟨rfl, rfl⟩
    rw [show leA p = none from if_neg hg, show leG p = 0 from if_neg hg, Gz.add_zero, ← set_keep hs]
    exact ⟨rfl, rfl⟩
theorem leT_can {o : Option (List Nat)} : ∃ l, leT o = .tuple [fzN l, .bool o.isSome] := by
  cases o with
  | none => exact ⟨[], rfl⟩
  | some l => exact ⟨l, rfl⟩
theorem sLeast_t {x : SW} (H : VHeap) (y : Nat) (g : Gz) (hs : H[y]? = some (gaB g)) (p : Pb) (hp : PbL p) : F (psys x) 22 [.ptr (some (y, 0)), .agg (pbB p)] H fun v G => ∃ l, v = .tuple [fzN l, .bool (leA p).isSome] ∧ G = H.set y (gaB (g + leG p)) := by
  refine (sLeast_spec H y g hs p hp).mono ?_
  rintro v G ⟨rfl, rfl⟩
  obtain ⟨l, h⟩ := @leT_can (leA p)
  exact ⟨l, h, rfl⟩
theorem Can_spec {x : SW} (H : VHeap) (y : Nat) (g : Gz) (hs : H[y]? = some (gaB g)) (p : Pb) (hp : PbL p) : F (psys x) 36 [.ptr (some (y, 0)), .agg (pbB p)] H fun v G => v = .bool (leA p).isSome ∧ G = H.set y (gaB (g + leG p)) := by
 refine F_body Tryd.func36 rfl u14 rfl ?_
 refine B_seq (B_region ?_)
 refine Lo u14 (v_boxT rfl rfl rfl) ?_
 refine Lo u14 (v_const (VVal.bool false) (.inr rfl) rfl) ?_
 refine L_nil (K_seq (B_seq (B_region ?_)))
 refine Lo u14 (v_move (.inl rfl) rfl) ?_
 refine Lo u14 (W11 rfl rfl rfl rfl rfl) ?_
 refine L_call rfl rfl rfl (by exact sLeast_t _ y g (get_append hs) p hp) ?_
 rintro _ _ ⟨l, rfl, rfl⟩; rw [set_out (lt_of_get hs)]
 refine Le u14 ?_
 refine Lo u14 (v_move (.inl rfl) rfl) ?_
 refine Lo u14 (rfl) ?_
 refine Lo u14 (rfl) ?_
 refine Lo u14 (v_move (.inr rfl) rfl) ?_
 refine Lo u14 (v_move (.inr rfl) rfl) ?_
 refine L_nil (K_seq (B_seq (B_region ?_)))
 refine Lo u14 (v_move (.inl rfl) rfl) ?_
 refine Lo u14 (v_move (.inr rfl) rfl) ?_
 refine L_nil (K_seq (B_ret ?_))
 refine W36 (.inr rfl) (vres_tmp rfl rfl) ?_
 exact ⟨rfl, rfl⟩
theorem sNew_spec {x : SW} (H : VHeap) : F (psys x) 16 [] H fun v G => v = .ptr (some (H.length, 0)) ∧ G = H ++ [gaB 0] := by
 refine F_body Tryd.func16 rfl u3 rfl ?_
 refine B_seq (B_region ?_)
 refine Lo u3 (v_const (VVal.ptr none) (.inr rfl) rfl) ?_
 refine L_nil (K_seq (B_seq (B_region ?_)))
 refine Lo u3 (rfl) ?_
 refine Lo u3 (v_boxT rfl rfl rfl) ?_
 refine Lo u3 (v_move (.inr rfl) rfl) ?_
 refine L_nil (K_seq (B_ret ?_))
 refine E_keep (.inr rfl) (vres_tmp rfl rfl) ?_
 exact ⟨rfl, rfl⟩
end Go.Proofs.YtalmjnkcibgclaaDoor.VT

set_option autoImplicit false
set_option linter.unusedVariables false
set_option linter.unusedSimpArgs false
set_option maxHeartbeats 4000000
set_option maxRecDepth 100000
namespace Go.Proofs.YtalmjnkcibgclaaDoor.VT
open Go Go.V Go.RowKit
abbrev u24 {a0 a1 a2 a3 a4 a5 a6 a7 a8 a9 a10 a11 a12 a13 a14 a15 a16 a17 a18 a19 a20 a21 a22 a23 : VVal} : VEnv := a0 :: a1 :: a2 :: a3 :: a4 :: a5 :: a6 :: a7 :: a8 :: a9 :: a10 :: a11 :: a12 :: a13 :: a14 :: a15 :: a16 :: a17 :: a18 :: a19 :: a20 :: a21 :: a22 :: a23 :: []
abbrev u26 {a0 a1 a2 a3 a4 a5 a6 a7 a8 a9 a10 a11 a12 a13 a14 a15 a16 a17 a18 a19 a20 a21 a22 a23 a24 a25 : VVal} : VEnv := a0 :: a1 :: a2 :: a3 :: a4 :: a5 :: a6 :: a7 :: a8 :: a9 :: a10 :: a11 :: a12 :: a13 :: a14 :: a15 :: a16 :: a17 :: a18 :: a19 :: a20 :: a21 :: a22 :: a23 :: a24 :: a25 :: []
abbrev u27 {a0 a1 a2 a3 a4 a5 a6 a7 a8 a9 a10 a11 a12 a13 a14 a15 a16 a17 a18 a19 a20 a21 a22 a23 a24 a25 a26 : VVal} : VEnv := a0 :: a1 :: a2 :: a3 :: a4 :: a5 :: a6 :: a7 :: a8 :: a9 :: a10 :: a11 :: a12 :: a13 :: a14 :: a15 :: a16 :: a17 :: a18 :: a19 :: a20 :: a21 :: a22 :: a23 :: a24 :: a25 :: a26 :: []
theorem W57 {T : TypeId → Option VTy} {H : VHeap} {op : Op} {ρ : Operand → VVal} {t : TypeId} {a : Operand} {y : VTy} {p v : VVal} (ho : op = .load t a) (ha : ρ a = p) (hy : T t = some y) (hd : isAggDesc y.desc = false) (h : LdOk H p v := by first | exact .inl ⟨_, _, rfl, by first | rfl | exact fgetN (α := Int) 0 (by omega)⟩ | exact .inr ⟨_, _, _, _, rfl, by first | exact get_app rfl rfl | exact get_out (by assumption) | exact getE0 rfl rfl | exact get_out (get_app rfl rfl) | exact get_app rfl (by assumption) | assumption | (simp only [List.append_assoc, List.singleton_append, List.cons_append, List.nil_append]; refine getE (i := 0) rfl ?_ rfl; simp; done) | (simp only [List.append_assoc, List.singleton_append, List.cons_append, List.nil_append]; refine getE (i := 1) rfl ?_ rfl; simp; done) | (simp only [List.append_assoc, List.singleton_append, List.cons_append, List.nil_append]; refine getE (i := 2) rfl ?_ rfl; simp; done) | (simp only [List.append_assoc, List.singleton_append, List.cons_append, List.nil_append]; refine getE (i := 3) rfl ?_ rfl; simp; done) | (simp [*]; done), by first | rfl | exact fgetN (α := Int) 0 (by omega)⟩) : vop T ρ H op = some (v, H) := v_ld ho ha hy hd h
theorem W59 {T : TypeId → Option VTy} {H : VHeap} {op : Op} {ρ : Operand → VVal} {t : TypeId} {a : Operand} {y : VTy} {p v : VVal} (ho : op = .load t a) (ha : ρ a = p) (hy : T t = some y) (hd : isAggDesc y.desc = false) (h : LdOk H p v := by first | exact .inl ⟨_, _, rfl, by first | rfl | exact fgetN (α := BitVec 64) 0 (by omega)⟩ | exact .inr ⟨_, _, _, _, rfl, by first | exact get_app rfl rfl | exact get_out (by assumption) | exact getE0 rfl rfl | exact get_out (get_app rfl rfl) | exact get_app rfl (by assumption) | assumption | (simp only [List.append_assoc, List.singleton_append, List.cons_append, List.nil_append]; refine getE (i := 0) rfl ?_ rfl; simp; done) | (simp only [List.append_assoc, List.singleton_append, List.cons_append, List.nil_append]; refine getE (i := 1) rfl ?_ rfl; simp; done) | (simp only [List.append_assoc, List.singleton_append, List.cons_append, List.nil_append]; refine getE (i := 2) rfl ?_ rfl; simp; done) | (simp only [List.append_assoc, List.singleton_append, List.cons_append, List.nil_append]; refine getE (i := 3) rfl ?_ rfl; simp; done) | (simp [*]; done), by first | rfl | exact fgetN (α := BitVec 64) 0 (by omega)⟩) : vop T ρ H op = some (v, H) := v_ld ho ha hy hd h
theorem W5b {P : Prop} (h : P := by first | exact (decide_eq_false (fun e => by subst e; first | exact absurd rfl (by assumption) | simp at *)).symm | exact decide_eq_decide.2 (by obtain ⟨a1, a2, a3, ⟨⟩⟩ := a; obtain ⟨b1, b2, b3, ⟨⟩⟩ := b; simp_all [Rul.kind, Rul.k, Rul.steps])) : P := h
theorem Cut_few {x : SW} (H : VHeap) (p : Pb) (m : Nat) : F (psys x) 19 [.agg (pbB (fewP p m))] H fun v G => v = .agg (pbB (fewP p m)) ∧ G = H := by
  have := Cut_spec (x := x) H (fewP p m)
  rw [fewP_cut] at this; exact this
theorem kInts_spec {x : SW} (H : VHeap) (l r : List (Int)) (h1 : l.length ≤ 1000000) : F (psys x) 27 [fzI l, fzI r] H fun v G => v = .bool (decide (l = r)) ∧ G = H := by
 refine F_body Tryd.func27 rfl u26 rfl ?_
 refine B_seq (B_region ?_)
 refine Lo u26 (v_const (VVal.bool false) (.inr rfl) rfl) ?_
 refine L_nil (K_seq (B_seq (B_seq (B_region ?_))))
 refine Lo u26 (v_move (.inl rfl) rfl) ?_
 refine Lo u26 (rfl) ?_
 refine Lo u26 (v_move (.inl rfl) rfl) ?_
 refine Lo u26 (rfl) ?_
 refine Lo u26 (rfl) ?_
 refine L_nil (K_seq ?_)
 refine B_cond _ rfl (fun hc1 => ?_) (fun hc1 => ?_)
 ·try simp only [qB, qN] at hc1
  refine B_seq (B_region ?_)
  refine Lo u26 (v_const (VVal.bool false) (.inr rfl) rfl) ?_
  refine L_nil (K_seq (B_ret (K_seqR ?_)))
  refine W10 (.inr rfl) (vres_tmp rfl rfl) ?_
  exact ⟨by rw [decide_eq_false (fun e => by rw [e] at hc1; omega)], rfl⟩
 ·try simp only [qB, qN] at hc1
  refine B_skip (K_seq (B_seq (B_seq (B_region ?_))))
  refine Lo u26 (v_const (VVal.int .i64 0) (.inr rfl) rfl) ?_
  refine L_nil (K_seq (B_block ?_))
  refine B_clear (mk 26 67108828) (env' := u26) rfl ?_
  refine B_loopE (fun (k : Nat) => l.length - k) (fun (k : Nat) => [(5, iI (k : Nat))]) (fun (k : Nat) G => (k ≤ l.length ∧ ∀ j, j < k → l.getD j 0 = r.getD j 0) ∧ G = H ++ []) 0 rfl ?_ ?_
  ·refine ⟨?_, rfl⟩
   exact ⟨Nat.zero_le _, fun j h => by omega⟩
  rintro k _ ⟨⟨hk, hall⟩, rfl⟩
  refine B_env (env' := u26) rfl ?_
  refine B_seq (B_seq (B_region ?_))
  refine Lo u26 (v_move (.inl rfl) rfl) ?_
  refine Lo u26 (v_move (.inl rfl) rfl) ?_
  refine Lo u26 (rfl) ?_
  refine Lo u26 (rfl) ?_
  refine L_nil (K_seq ?_)
  refine B_cond _ rfl (fun hc2 => ?_) (fun hc2 => ?_)
  ·try simp only [qB, qN] at hc2
   refine B_skip (K_seq (B_seq (B_block (B_seq ?_))))
   refine B_draw [0, 1, 2, 3, 4, 5, 6, 7, 8] #[0, 0, 3, 7, 0, 0, 48, 112, 255] (by kernel_rfl) (by kernel_rfl) (by kernel_rfl) ?_
   refine Oo u26 .calm rfl (v_move (.inl rfl) rfl) ?_
   refine Oo u26 .calm rfl (v_move (.inl rfl) rfl) ?_
   refine Oo u26 .calm rfl (W18 rfl rfl rfl rfl rfl rfl rfl) ?_
   refine Oo u26 .look rfl (W57 rfl rfl rfl rfl) ?_
   refine Oo u26 .calm rfl (v_move (.inl rfl) rfl) ?_
   refine Oo u26 .calm rfl (v_move (.inl rfl) rfl) ?_
   refine Oo u26 .calm rfl (W18 rfl rfl rfl rfl rfl rfl rfl) ?_
   refine Oo u26 .look rfl (W57 rfl rfl rfl rfl) ?_
   refine Oo u26 .calm rfl (rfl) ?_
   refine O_nil [] (by kernel_rfl) (trivial) ?_
   refine K_seq ?_
   refine B_cond _ rfl (fun hc3 => ?_) (fun hc3 => ?_)
   ·try simp only [qB, qN] at hc3
    refine B_seq (B_region ?_)
    refine Lo u26 (v_const (VVal.bool false) (.inr rfl) rfl) ?_
    refine L_nil (K_seq (B_ret (K_blkR (K_seqR (K_loopR (K_blkR (K_seqR ?_)))))))
    refine W10 (.inr rfl) (vres_tmp rfl rfl) ?_
    exact ⟨by rw [decide_eq_false (fun e => by subst e; exact hc3 rfl)], rfl⟩
   ·try simp only [qB, qN] at hc3
    refine B_skip (K_blk (K_seq (B_region ?_)))
    refine Lo u26 (v_move (.inl rfl) rfl) ?_
    refine Lo u26 (W14 rfl rfl rfl) ?_
    refine Lo u26 (v_move (.inr rfl) rfl) ?_
    refine L_nil ?_
    refine K_loop (mk 26 67108828) (env' := u26) rfl ⟨k + 1, ?_, rfl, ?_⟩
    ·first | omega | (simp only []; omega)
    ·exact ⟨⟨by omega, fun j hj => by by_cases e : j = k; (subst e; assumption); exact hall j (by omega)⟩, rfl⟩
  ·try simp only [qB, qN] at hc2
   refine B_exit (K_seqX (K_loopX (K_blkX (K_seq (B_seq (B_region ?_))))))
   refine Lo u26 (v_const (VVal.bool true) (.inr rfl) rfl) ?_
   refine L_nil (K_seq (B_ret ?_))
   refine W10 (.inr rfl) (vres_tmp rfl rfl) ?_
   have e := eq_getD (d := 0) (by omega) (fun j hj => hall j (by omega))
   exact ⟨by rw [decide_eq_true e], rfl⟩
theorem kRows_spec {x : SW} (H : VHeap) (l r : List (BitVec 64)) (h1 : l.length ≤ 1000000) : F (psys x) 40 [fzW l, fzW r] H fun v G => v = .bool (decide (l = r)) ∧ G = H := by
 refine F_body Tryd.func40 rfl u26 rfl ?_
 refine B_seq (B_region ?_)
 refine Lo u26 (v_const (VVal.bool false) (.inr rfl) rfl) ?_
 refine L_nil (K_seq (B_seq (B_seq (B_region ?_))))
 refine Lo u26 (v_move (.inl rfl) rfl) ?_
 refine Lo u26 (rfl) ?_
 refine Lo u26 (v_move (.inl rfl) rfl) ?_
 refine Lo u26 (rfl) ?_
 refine Lo u26 (rfl) ?_
 refine L_nil (K_seq ?_)
 refine B_cond _ rfl (fun hc1 => ?_) (fun hc1 => ?_)
 ·try simp only [qB, qN] at hc1
  refine B_seq (B_region ?_)
  refine Lo u26 (v_const (VVal.bool false) (.inr rfl) rfl) ?_
  refine L_nil (K_seq (B_ret (K_seqR ?_)))
  refine W10 (.inr rfl) (vres_tmp rfl rfl) ?_
  exact ⟨by rw [decide_eq_false (fun e => by rw [e] at hc1; omega)], rfl⟩
 ·try simp only [qB, qN] at hc1
  refine B_skip (K_seq (B_seq (B_seq (B_region ?_))))
  refine Lo u26 (v_const (VVal.int .i64 0) (.inr rfl) rfl) ?_
  refine L_nil (K_seq (B_block ?_))
  refine B_clear (mk 26 67108828) (env' := u26) rfl ?_
  refine B_loopE (fun (k : Nat) => l.length - k) (fun (k : Nat) => [(5, iI (k : Nat))]) (fun (k : Nat) G => (k ≤ l.length ∧ ∀ j, j < k → l.getD j 0 = r.getD j 0) ∧ G = H ++ []) 0 rfl ?_ ?_
  ·refine ⟨?_, rfl⟩
   exact ⟨Nat.zero_le _, fun j h => by omega⟩
  rintro k _ ⟨⟨hk, hall⟩, rfl⟩
  refine B_env (env' := u26) rfl ?_
  refine B_seq (B_seq (B_region ?_))
  refine Lo u26 (v_move (.inl rfl) rfl) ?_
  refine Lo u26 (v_move (.inl rfl) rfl) ?_
  refine Lo u26 (rfl) ?_
  refine Lo u26 (rfl) ?_
  refine L_nil (K_seq ?_)
  refine B_cond _ rfl (fun hc2 => ?_) (fun hc2 => ?_)
  ·try simp only [qB, qN] at hc2
   refine B_skip (K_seq (B_seq (B_block (B_seq ?_))))
   refine B_draw [0, 1, 2, 3, 4, 5, 6, 7, 8] #[0, 0, 3, 7, 0, 0, 48, 112, 255] (by kernel_rfl) (by kernel_rfl) (by kernel_rfl) ?_
   refine Oo u26 .calm rfl (v_move (.inl rfl) rfl) ?_
   refine Oo u26 .calm rfl (v_move (.inl rfl) rfl) ?_
   refine Oo u26 .calm rfl (W18 rfl rfl rfl rfl rfl rfl rfl) ?_
   refine Oo u26 .look rfl (W59 rfl rfl rfl rfl) ?_
   refine Oo u26 .calm rfl (v_move (.inl rfl) rfl) ?_
   refine Oo u26 .calm rfl (v_move (.inl rfl) rfl) ?_
   refine Oo u26 .calm rfl (W18 rfl rfl rfl rfl rfl rfl rfl) ?_
   refine Oo u26 .look rfl (W59 rfl rfl rfl rfl) ?_
   refine Oo u26 .calm rfl (rfl) ?_
   refine O_nil [] (by kernel_rfl) (trivial) ?_
   refine K_seq ?_
   refine B_cond _ rfl (fun hc3 => ?_) (fun hc3 => ?_)
   ·try simp only [qB, qN] at hc3
    refine B_seq (B_region ?_)
    refine Lo u26 (v_const (VVal.bool false) (.inr rfl) rfl) ?_
    refine L_nil (K_seq (B_ret (K_blkR (K_seqR (K_loopR (K_blkR (K_seqR ?_)))))))
    refine W10 (.inr rfl) (vres_tmp rfl rfl) ?_
    exact ⟨by rw [decide_eq_false (fun e => by subst e; exact hc3 rfl)], rfl⟩
   ·try simp only [qB, qN] at hc3
    refine B_skip (K_blk (K_seq (B_region ?_)))
    refine Lo u26 (v_move (.inl rfl) rfl) ?_
    refine Lo u26 (W14 rfl rfl rfl) ?_
    refine Lo u26 (v_move (.inr rfl) rfl) ?_
    refine L_nil ?_
    refine K_loop (mk 26 67108828) (env' := u26) rfl ⟨k + 1, ?_, rfl, ?_⟩
    ·first | omega | (simp only []; omega)
    ·exact ⟨⟨by omega, fun j hj => by by_cases e : j = k; (subst e; assumption); exact hall j (by omega)⟩, rfl⟩
  ·try simp only [qB, qN] at hc2
   refine B_exit (K_seqX (K_loopX (K_blkX (K_seq (B_seq (B_region ?_))))))
   refine Lo u26 (v_const (VVal.bool true) (.inr rfl) rfl) ?_
   refine L_nil (K_seq (B_ret ?_))
   refine W10 (.inr rfl) (vres_tmp rfl rfl) ?_
   have e := eq_getD (d := 0) (by omega) (fun j hj => hall j (by omega))
   exact ⟨by rw [decide_eq_true e], rfl⟩
theorem kRule_spec {x : SW} (H : VHeap) (a b : Rul) (h1 : a.steps.length ≤ 1000000) : F (psys x) 80 [.agg (rlB a), .agg (rlB b)] H fun v G => v = .bool (decide (a = b)) ∧ G = H := by
 refine F_body Tryd.func80 rfl u24 rfl ?_
 refine B_seq (B_region ?_)
 refine Lo u24 (v_boxT rfl rfl rfl) ?_
 refine Lo u24 (v_boxT rfl rfl rfl) ?_
 refine Lo u24 (v_const (VVal.bool false) (.inr rfl) rfl) ?_
 refine L_nil (K_seq (B_seq (B_region ?_)))
 refine Lo u24 (rfl) ?_
 refine Lo u24 (W12 rfl rfl rfl rfl) ?_
 refine Lo u24 (rfl) ?_
 refine Lo u24 (W12 rfl rfl rfl rfl) ?_
 refine Lo u24 (rfl) ?_
 refine Lo u24 (v_move (.inl rfl) rfl) ?_
 refine L_split 10 (env1 := u24) (env2 := u24) rfl rfl rfl (fun hg1 => ?_) (fun hg1 => ?_)
 ·try simp only [qB] at hg1
  refine Lo u24 (rfl) ?_
  refine Lo u24 (W12 rfl rfl rfl rfl) ?_
  refine Lo u24 (rfl) ?_
  refine Lo u24 (W12 rfl rfl rfl rfl) ?_
  refine Lo u24 (rfl) ?_
  refine Lo u24 (v_pickT rfl rfl rfl) ?_
  refine Lo u24 (v_move (.inl rfl) rfl) ?_
  refine L_split 17 (env1 := u24) (env2 := u24) rfl rfl rfl (fun hg2 => ?_) (fun hg2 => ?_)
  ·try simp only [qB] at hg2
   refine Lo u24 (rfl) ?_
   refine Lo u24 (W12 rfl rfl rfl rfl) ?_
   refine Lo u24 (rfl) ?_
   refine Lo u24 (W12 rfl rfl rfl rfl) ?_
   refine L_call rfl rfl rfl (by exact kInts_spec _ _ _ h1) ?_
   rintro _ _ ⟨rfl, rfl⟩
   refine Le u24 ?_
   refine Lo u24 (v_pickT rfl rfl rfl) ?_
   refine Lo u24 (v_move (.inr rfl) rfl) ?_
   refine L_nil (K_seq (B_ret ?_))
   refine W10 (.inr rfl) (vres_tmp rfl rfl) ?_
   refine ⟨congrArg VVal.bool ?_, rfl⟩
   exact W5b
  ·try simp only [qB] at hg2
   refine Lf u24 ?_
   refine Lf u24 ?_
   refine Lf u24 ?_
   refine Lf u24 ?_
   refine Lf u24 ?_
   refine Lo u24 (v_pickFC (VVal.bool false) rfl rfl rfl) ?_
   refine Lo u24 (v_move (.inr rfl) rfl) ?_
   refine L_nil (K_seq (B_ret ?_))
   refine W10 (.inr rfl) (vres_tmp rfl rfl) ?_
   refine ⟨congrArg VVal.bool ?_, rfl⟩
   exact W5b
 ·try simp only [qB] at hg1
  refine Lf u24 ?_
  refine Lf u24 ?_
  refine Lf u24 ?_
  refine Lf u24 ?_
  refine Lf u24 ?_
  refine Lo u24 (v_pickFC (VVal.bool false) rfl rfl rfl) ?_
  refine Lo u24 (v_move (.inl rfl) rfl) ?_
  refine Lf u24 ?_
  refine Lf u24 ?_
  refine Lf u24 ?_
  refine Lf u24 ?_
  refine Lf u24 ?_
  refine Lo u24 (v_pickFC (VVal.bool false) rfl rfl rfl) ?_
  refine Lo u24 (v_move (.inr rfl) rfl) ?_
  refine L_nil (K_seq (B_ret ?_))
  refine W10 (.inr rfl) (vres_tmp rfl rfl) ?_
  refine ⟨congrArg VVal.bool ?_, rfl⟩
  exact W5b
theorem kRules_spec {x : SW} (H : VHeap) (l r : List Rul) (h1 : l.length ≤ 1000000) (h2 : ∀ r, r ∈ l → r.steps.length ≤ 1000000) : F (psys x) 41 [fzR l, fzR r] H fun v G => v = .bool (decide (l = r)) ∧ G = H := by
 refine F_body Tryd.func41 rfl u27 rfl ?_
 refine B_seq (B_region ?_)
 refine Lo u27 (v_const (VVal.bool false) (.inr rfl) rfl) ?_
 refine L_nil (K_seq (B_seq (B_seq (B_region ?_))))
 refine Lo u27 (v_move (.inl rfl) rfl) ?_
 refine Lo u27 (rfl) ?_
 refine Lo u27 (v_move (.inl rfl) rfl) ?_
 refine Lo u27 (rfl) ?_
 refine Lo u27 (rfl) ?_
 refine L_nil (K_seq ?_)
 refine B_cond _ rfl (fun hc1 => ?_) (fun hc1 => ?_)
 ·try simp only [qB, qN] at hc1
  refine B_seq (B_region ?_)
  refine Lo u27 (v_const (VVal.bool false) (.inr rfl) rfl) ?_
  refine L_nil (K_seq (B_ret (K_seqR ?_)))
  refine W10 (.inr rfl) (vres_tmp rfl rfl) ?_
  exact ⟨by rw [decide_eq_false (fun e => by rw [e] at hc1; omega)], rfl⟩
 ·try simp only [qB, qN] at hc1
  refine B_skip (K_seq (B_seq (B_seq (B_region ?_))))
  refine Lo u27 (v_const (VVal.int .i64 0) (.inr rfl) rfl) ?_
  refine L_nil (K_seq (B_block ?_))
  refine B_clear (mk 27 134217692) (env' := u27) rfl ?_
  refine B_loopE (fun (k : Nat) => l.length - k) (fun (k : Nat) => [(5, iI (k : Nat))]) (fun (k : Nat) G => (k ≤ l.length ∧ ∀ j, j < k → l.getD j r0 = r.getD j r0) ∧ G = H ++ []) 0 rfl ?_ ?_
  ·refine ⟨?_, rfl⟩
   exact ⟨Nat.zero_le _, fun j h => by omega⟩
  rintro k _ ⟨⟨hk, hall⟩, rfl⟩
  refine B_env (env' := u27) rfl ?_
  refine B_seq (B_seq (B_region ?_))
  refine Lo u27 (v_move (.inl rfl) rfl) ?_
  refine Lo u27 (v_move (.inl rfl) rfl) ?_
  refine Lo u27 (rfl) ?_
  refine Lo u27 (rfl) ?_
  refine L_nil (K_seq ?_)
  refine B_cond _ rfl (fun hc2 => ?_) (fun hc2 => ?_)
  ·try simp only [qB, qN] at hc2
   refine B_skip (K_seq (B_seq (B_block (B_seq ?_))))
   refine B_draw [0, 1, 2, 3, 4, 5, 6, 7, 8, 9] #[0, 0, 3, 7, 0, 0, 48, 112, 255, 511] (by kernel_rfl) (by kernel_rfl) (by kernel_rfl) ?_
   refine Oo u27 .calm rfl (v_move (.inl rfl) rfl) ?_
   refine Oo u27 .calm rfl (v_move (.inl rfl) rfl) ?_
   refine Oo u27 .calm rfl (W18 rfl rfl rfl rfl rfl rfl rfl) ?_
   refine Oo u27 .look rfl (W23 rfl rfl rfl rfl rfl) ?_
   refine Oo u27 .calm rfl (v_move (.inl rfl) rfl) ?_
   refine Oo u27 .calm rfl (v_move (.inl rfl) rfl) ?_
   refine Oo u27 .calm rfl (W18 rfl rfl rfl rfl rfl rfl rfl) ?_
   refine Oo u27 .look rfl (W23 rfl rfl rfl rfl rfl) ?_
   refine O_call (env' := u27) rfl rfl rfl rfl rfl (by exact kRule_spec _ _ _ (h2 _ (rul_mem (by omega)))) (by first | exact Nat.le_refl _ | simp) rfl rfl ?_
   refine Oo u27 .calm rfl (rfl) ?_
   refine O_nil [] (by kernel_rfl) (trivial) ?_
   refine K_seq ?_
   refine B_cond _ rfl (fun hc3 => ?_) (fun hc3 => ?_)
   ·try simp only [qB, qN] at hc3
    refine B_seq (B_region ?_)
    refine Lo u27 (v_const (VVal.bool false) (.inr rfl) rfl) ?_
    refine L_nil (K_seq (B_ret (K_blkR (K_seqR (K_loopR (K_blkR (K_seqR ?_)))))))
    refine W10 (.inr rfl) (vres_tmp rfl rfl) ?_
    exact ⟨by rw [decide_eq_false (fun e => by subst e; exact hc3 rfl)], rfl⟩
   ·try simp only [qB, qN] at hc3
    refine B_skip (K_blk (K_seq (B_region ?_)))
    refine Lo u27 (v_move (.inl rfl) rfl) ?_
    refine Lo u27 (W14 rfl rfl rfl) ?_
    refine Lo u27 (v_move (.inr rfl) rfl) ?_
    refine L_nil ?_
    refine K_loop (mk 27 134217692) (env' := u27) rfl ⟨k + 1, ?_, rfl, ?_⟩
    ·first | omega | (simp only []; omega)
    ·exact ⟨⟨by omega, fun j hj => by by_cases e : j = k; (subst e; assumption); exact hall j (by omega)⟩, rfl⟩
  ·try simp only [qB, qN] at hc2
   refine B_exit (K_seqX (K_loopX (K_blkX (K_seq (B_seq (B_region ?_))))))
   refine Lo u27 (v_const (VVal.bool true) (.inr rfl) rfl) ?_
   refine L_nil (K_seq (B_ret ?_))
   refine W10 (.inr rfl) (vres_tmp rfl rfl) ?_
   have e := eq_getD (d := r0) (by omega) (fun j hj => hall j (by omega))
   exact ⟨by rw [decide_eq_true e], rfl⟩
end Go.Proofs.YtalmjnkcibgclaaDoor.VT

set_option autoImplicit false
set_option linter.unusedVariables false
set_option linter.unusedSimpArgs false
set_option maxHeartbeats 4000000
set_option maxRecDepth 100000
namespace Go.Proofs.YtalmjnkcibgclaaDoor.VT
open Go Go.V Go.RowKit
def z0P : Pb := (0, [], [], [], ())
def mpR (p : Pb) (rs : List Int) (k : Nat) : List Rul := ((List.range k).filter fun i => !inB rs i).map fun i => p.rules.getD i r0
theorem mpR_step {p : Pb} {rs : List Int} {k : Nat} : mpR p rs (k + 1) = mpR p rs k ++ if inB rs k = true then [] else [p.rules.getD k r0] := by
  unfold mpR
  rw [List.range_succ, List.filter_append, List.map_append]
  congr 1
  cases h : inB rs k <;> simp [h]
theorem mpR_len {p : Pb} {rs : List Int} {k : Nat} : (mpR p rs k).length ≤ k := by
  unfold mpR
  rw [List.length_map]
  exact Nat.le_trans (List.length_filter_le _ _) (by simp)
theorem mpR_mem {p : Pb} {rs : List Int} {r : Rul} : r ∈ mpR p rs p.rules.length ↔ ∃ k, k < p.rules.length ∧ inB rs k = false ∧ p.rules.getD k r0 = r := by
  unfold mpR
  rw [List.mem_map]
  constructor
  · rintro ⟨k, h1, h2⟩
    rw [List.mem_filter, List.mem_range] at h1
    exact ⟨k, h1.1, by simpa using h1.2, h2⟩
  · rintro ⟨k, h1, h2, h3⟩
    exact ⟨k, List.mem_filter.2 ⟨List.mem_range.2 h1, by rw [h2]; rfl⟩, h3⟩
def woE (p : Pb) (rs ss : List Int) : Int := if pck p ≠ 0 then pck p else if ltB rs p.rules.length = true ∧ ltB ss p.who.length = true then 0 else 1
def woQ (p : Pb) (rs ss : List Int) : Pb := (p.users, mpW p (inB ss), mpF p (inB ss), mpR p rs p.rules.length, ())
def woP (p : Pb) (rs ss : List Int) : Pb := if woE p rs ss = 0 then woQ p rs ss else z0P
theorem woE_ok {p : Pb} {rs ss : List Int} : woE p rs ss = 0 ↔ Go.V.Good p ∧ ltB rs p.rules.length = true ∧ ltB ss p.who.length = true := by
  unfold woE
  constructor
  · intro h
    split at h
    · rename_i h1; exact absurd h h1
    · rename_i h1
      split at h
      · rename_i h2; exact ⟨pck_good.1 (Decidable.of_not_not h1), h2⟩
      · cases h
  · rintro ⟨g, h2⟩
    rw [if_neg (fun e => e (pck_good.2 g)), if_pos h2]
theorem woP_ok {p : Pb} {rs ss : List Int} (h : woE p rs ss = 0) : woP p rs ss = woQ p rs ss := if_pos h
theorem woP_no {p : Pb} {rs ss : List Int} (h : ¬ woE p rs ss = 0) : woP p rs ss = z0P := if_neg h
theorem woQ_L {p : Pb} {rs ss : List Int} (h : PbL p) : PbL (woQ p rs ss) := by
  refine ⟨h.u, by show (mpW p _).length ≤ _; rw [mpW_len]; exact h.w, by show (mpF p _).length ≤ _; rw [mpF_len]; exact h.w, ?_, fun r hr => ?_⟩
  · exact Nat.le_trans mpR_len h.r
  · obtain ⟨k, h1, _, rfl⟩ := mpR_mem.1 hr
    exact h.s _ (rul_mem h1)
theorem woP_L {p : Pb} {rs ss : List Int} (h : PbL p) : PbL (woP p rs ss) := by
  by_cases e : woE p rs ss = 0
  · rw [woP_ok e]; exact woQ_L h
  · rw [woP_no e]; exact ⟨by decide, by decide, by decide, by decide, fun r hr => by cases hr⟩
end Go.Proofs.YtalmjnkcibgclaaDoor.VT

set_option autoImplicit false
set_option linter.unusedVariables false
set_option linter.unusedSimpArgs false
set_option maxHeartbeats 4000000
set_option maxRecDepth 100000
namespace Go.Proofs.YtalmjnkcibgclaaDoor.VT
open Go Go.V Go.RowKit
abbrev u34 {a0 a1 a2 a3 a4 a5 a6 a7 a8 a9 a10 a11 a12 a13 a14 a15 a16 a17 a18 a19 a20 a21 a22 a23 a24 a25 a26 a27 a28 a29 a30 a31 a32 a33 : VVal} : VEnv := a0 :: a1 :: a2 :: a3 :: a4 :: a5 :: a6 :: a7 :: a8 :: a9 :: a10 :: a11 :: a12 :: a13 :: a14 :: a15 :: a16 :: a17 :: a18 :: a19 :: a20 :: a21 :: a22 :: a23 :: a24 :: a25 :: a26 :: a27 :: a28 :: a29 :: a30 :: a31 :: a32 :: a33 :: []
theorem W5i {S : V.Sys} {H : VHeap} {fn : Func} {ex : Exit} {env : VEnv} {B L : VHeap} {v : VVal} {R : VVal → VHeap → Prop} (hx : ex = .normal ∨ ex = .ret) (hv : vresults S.C.T env (B ++ L) fn.results = some v) (h : R v B) (hB : BaseOk H B := by first | exact BaseOk.refl _ | exact BaseOk.set (BaseOk.refl _) _ rfl) (hu : v.under H.length = true := by exact pb_under (p := p)) : fnK S fn H R ex env (B ++ L) := E_app hx hv hB hu h
theorem CloI_emp {x : SW} (H : VHeap) : F (psys x) 107 [.slice none 0 0 false 0] H fun v G => v = .fsl [] 0 1 false ∧ G = H := by
 refine F_body Tryd.func107 rfl u8 rfl ?_
 refine B_seq (B_region ?_)
 refine Lo u8 (v_const (VVal.slice none 0 0 true 0) (.inr rfl) rfl) ?_
 refine L_nil (K_seq (B_seq (B_seq (B_region ?_))))
 refine Lo u8 (v_move (.inl rfl) rfl) ?_
 refine Lo u8 (rfl) ?_
 refine L_nil (K_seq ?_)
 refine B_false rfl rfl ?_
 refine B_skip (K_seq (B_seq (B_region ?_)))
 refine Lo u8 (v_buildSlice rfl rfl (by decide) rfl) ?_
 refine Lo u8 (v_move (.inl rfl) rfl) ?_
 refine Lo u8 (v_appIn rfl rfl rfl rfl rfl rfl rfl (get_app rfl rfl) rfl rfl rfl rfl (by decide) (by decide) (by decide)) ?_
 refine L_heap (H' := H ++ [.cells [] true]) (by rw [set_app rfl]; rfl) ?_
 refine Lo u8 (v_move (.inr rfl) rfl) ?_
 refine L_nil (K_seq (B_ret ?_))
 refine E_gh (.inr rfl) (vres_tmp rfl rfl) (Gh.fsl (j := 0) (off := 0) (len := 0) (l := []) (BaseOk.refl _) rfl rfl (Nat.le_refl _) rfl) ?_
 exact ⟨rfl, rfl⟩
theorem CloI_c {x : SW} (H : VHeap) (l : List Int) (hne : l ≠ []) (hl : l.length ≤ 1000000) : F (psys x) 107 [fzI l] H fun v G => v = .slice (some (H.length, 0)) l.length l.length (decide (l.length = 0)) 1 ∧ G = H ++ [.cells (l.map iI) true] := by
 refine F_body Tryd.func107 rfl u8 rfl ?_
 refine B_seq (B_region ?_)
 refine Lo u8 (v_const (VVal.slice none 0 0 true 0) (.inr rfl) rfl) ?_
 refine L_nil (K_seq (B_seq (B_seq (B_region ?_))))
 refine Lo u8 (v_move (.inl rfl) rfl) ?_
 refine Lo u8 (v_eqNilC rfl rfl rfl rfl rfl (fun e => hne (List.eq_nil_of_length_eq_zero e))) ?_
 refine L_nil (K_seq ?_)
 refine B_false rfl rfl ?_
 refine B_skip (K_seq (B_seq (B_region ?_)))
 refine Lo u8 (v_buildSlice rfl rfl (by decide) rfl) ?_
 refine Lo u8 (v_move (.inl rfl) rfl) ?_
 refine L_opX rfl rfl (v_appE rfl rfl rfl rfl rfl rfl rfl rfl (by rw [List.length_map]; exact (Nat.mul_one _).symm) (mapI_one _) (by decide) (by show l.length * 8 ≤ _ ∧ l.length ≤ _; omega)) ?_
 rintro _ _ ⟨Z, i, rfl, rfl, hi⟩
 refine Le u8 ?_
 refine Lo u8 (v_move (.inr rfl) rfl) ?_
 refine L_nil (K_seq (B_ret ?_))
 refine E_gh (.inr rfl) (vres_tmp rfl rfl) (Gh.pack (BaseOk.refl _) hi (mapI_under _ _)) ?_
 exact ⟨rfl, rfl⟩
theorem CloWf {x : SW} (H : VHeap) (l : List (BitVec 64)) (hl : l.length ≤ 1000000) : F (psys x) 106 [fzW l] H fun v G => v = fzW l ∧ G = H := by
  by_cases h : l = []
  · subst h; exact CloW_0 H
  · exact F.gh (CloW_c H l h hl) fun v G h => by
      obtain ⟨rfl, rfl⟩ := h
      exact ⟨_, _, Gh.fsl (j := 0) (BaseOk.refl H) rfl wApp_c (Nat.le_refl _) (mapW_under _ _), rfl, rfl⟩
theorem CloIf {x : SW} (H : VHeap) (l : List Int) (hl : l.length ≤ 1000000) : F (psys x) 107 [fzI l] H fun v G => v = fzI l ∧ G = H := by
  by_cases h : l = []
  · subst h; exact F_split0 (CloI_nil H) (CloI_emp H)
  · exact F.gh (CloI_c H l h hl) fun v G h => by
      obtain ⟨rfl, rfl⟩ := h
      exact ⟨_, _, Gh.fsl (j := 0) (BaseOk.refl H) rfl map_all (Nat.le_refl _) (mapI_under _ _), rfl, rfl⟩
theorem CloI_L {x : SW} (H L : VHeap) (l : List Int) (hne : l ≠ []) (hl : l.length ≤ 1000000) : F (psys x) 107 [fzI l] (H ++ L) fun v G => v = .slice (some (H.length + L.length, 0)) l.length l.length (decide (l.length = 0)) 1 ∧ G = H ++ (L ++ [.cells (l.map iI) true]) := by
  have := CloI_c (x := x) (H ++ L) l hne hl
  rw [List.length_append, List.append_assoc] at this
  exact this
def CwR (H : VHeap) (p : Pb) (v : VVal) (G : VHeap) : Prop := ∃ Y j k, v = .agg [iI p.users, .slice (some (H.length + j, 0)) p.who.length p.who.length false 1, .slice (some (H.length + k, 0)) p.fixed.length p.fixed.length false 1, fzR p.rules] ∧ G = H ++ Y ∧ Y[j]? = some (.cells (p.who.map iW) true) ∧ Y[k]? = some (.cells (p.fixed.map iI) true) ∧ j ≠ k
theorem Copy_L {x : SW} (H : VHeap) (p : Pb) (hp : PbL p) (hne : p.who ≠ []) (hnf : p.fixed ≠ []) : F (psys x) 73 [.agg (pbB p)] H (CwR H p) := by
 have h1 := hp.w; have h2 := hp.f; have h3 := hp.r; have h4 := hp.s
 have hd : decide (p.who.length = 0) = false := decide_eq_false fun e => hne (List.eq_nil_of_length_eq_zero e)
 have hd2 : decide (p.fixed.length = 0) = false := decide_eq_false fun e => hnf (List.eq_nil_of_length_eq_zero e)
 refine F_body Tryd.func73 rfl u34 rfl ?_
 refine B_seq (B_region ?_)
 refine Lo u34 (v_boxT rfl rfl rfl) ?_
 refine Lo u34 (v_alloc rfl rfl) ?_
 refine L_nil (K_seq (B_seq ?_))
 refine B_gh (Gh.freezePtrL (cs := pbB p) 1 0 rfl rfl rfl) ?_
 refine B_draw [0, 1, 2, 3, 5, 6, 9, 4, 7, 8, 10] #[0, 1, 0, 4, 12, 0, 32, 124, 255, 0, 1023] (by kernel_rfl) (by kernel_rfl) (by kernel_rfl) ?_
 refine Oo u34 .calm rfl (rfl) ?_
 refine O_opI (env' := u34) (x := .look _ _) rfl rfl rfl (W2j rfl rfl rfl rfl) rfl rfl rfl ?_
 refine Oo u34 .calm rfl (rfl) ?_
 refine Oo u34 .look rfl (W2j rfl rfl rfl rfl) ?_
 refine Oo u34 .calm rfl (rfl) ?_
 refine O_opI (env' := u34) (x := .look _ _) rfl rfl rfl (W2j rfl rfl rfl rfl) rfl rfl rfl ?_
 refine O_opI (env' := u34) (x := .grow _) rfl rfl rfl (v_alloc rfl rfl) rfl rfl rfl ?_
 refine O_call (env' := u34) rfl rfl rfl rfl rfl (by exact CloW_L _ _ _ hne h1) (by first | exact Nat.le_refl _ | simp) rfl rfl ?_
 refine O_call (env' := u34) rfl rfl rfl rfl rfl (by exact CloI_L _ _ _ hnf h2) (by first | exact Nat.le_refl _ | simp) rfl rfl ?_
 refine Oo u34 .calm rfl (rfl) ?_
 refine Oo u34 .turn rfl (W13 rfl rfl rfl rfl rfl rfl rfl) ?_
 refine O_nil [_, _, _, _, _] (by rfl) (And.intro (And.intro (W2j rfl rfl rfl rfl) (W2j rfl rfl rfl rfl)) (And.intro (And.intro (W2j rfl rfl rfl rfl) (W2j rfl rfl rfl rfl)) (And.intro (And.intro (W2j rfl rfl rfl rfl) (W2j rfl rfl rfl rfl)) (And.intro ((by simp [V.fine])) (And.intro ((by simp [V.fine])) trivial))))) ?_
 refine K_seq (B_seq (B_seq (B_region ?_)))
 refine Lo u34 (rfl) ?_
 refine Lo u34 (W2j rfl rfl rfl rfl) ?_
 refine Lo u34 (rfl) ?_
 refine Lo u34 (v_const (VVal.int .i64 0) (.inl rfl) rfl) ?_
 refine L_nil (K_seq (B_block ?_))
 refine B_clear (mk 34 17179410419) (env' := u34) rfl ?_
 refine B_loopE (fun (k : Nat) => p.rules.length - k) (fun (k : Nat) => [(18, iI (k : Nat))]) (fun (k : Nat) G => (k ≤ p.rules.length) ∧ ∃ lv X, G = (H ++ [.dead, pqB 0 nilS nilS nilS, .cells [iI p.users, .slice (some (H.length + 3, 0)) p.who.length p.who.length (decide (p.who.length = 0)) 1, .slice (some (H.length + 4, 0)) p.fixed.length p.fixed.length (decide (p.fixed.length = 0)) 1, lv] true, .cells (p.who.map iW) true, .cells (p.fixed.map iI) true]) ++ X ∧ LV (H.length + 5) 3 X lv ((p.rules.take k).flatMap rlB) (p.rules.take k).length) 0 rfl ?_ ?_
 ·refine ⟨?_, ⟨_, [], by rw [List.append_nil]; rfl, LV.nil _ _ _⟩⟩
  exact Nat.zero_le _
 rintro k _ ⟨hk, ⟨lv, X, rfl, hl⟩⟩
 refine B_env (env' := u34) rfl ?_
 refine B_seq (B_region ?_)
 refine Lo u34 (rfl) ?_
 refine L_nil (K_seq (B_seq ?_))
 refine B_cond _ rfl (fun hc1 => ?_) (fun hc1 => ?_)
 ·try simp only [qB, qN] at hc1
  refine B_skip (K_seq (B_seq (B_block (B_seq (B_region ?_)))))
  refine Lo u34 (W18 rfl rfl rfl rfl rfl rfl rfl) ?_
  refine Lo u34 (W2h rfl rfl rfl rfl rfl) ?_
  refine Lo u34 (v_alloc rfl rfl) ?_
  refine Lo u34 (W13 rfl rfl rfl rfl rfl rfl rfl) ?_
  refine L_nil (K_seq (B_seq (B_region ?_)))
  refine Lo u34 (rfl) ?_
  refine Lo u34 (W2j rfl rfl rfl rfl) ?_
  refine L_call rfl rfl rfl (by exact CloIf _ _ (h4 _ (rul_mem (by omega)))) ?_
  rintro _ _ ⟨rfl, rfl⟩
  refine Le u34 ?_
  refine Lo u34 (rfl) ?_
  refine Lo u34 (W13 rfl rfl rfl rfl rfl rfl rfl) ?_
  refine L_nil (K_seq (B_region ?_))
  refine Lo u34 (rfl) ?_
  refine Lo u34 (W2j rfl rfl rfl rfl) ?_
  refine Lo u34 (W2h rfl rfl rfl rfl rfl) ?_
  refine Lo u34 (v_buildSlice rfl rfl (by decide) rfl) ?_
  refine L_opX rfl rfl (v_appXh rfl rfl rfl rfl rfl rfl rfl (by simp) (hl.app _) rfl rfl (by decide) (by rw [List.length_take]; show (_ + 1) * 40 ≤ _ ∧ _ + 1 ≤ _; omega) (by decide)) ?_
  rintro _ _ ⟨Y1, rfl, rfl, hY1, hY2, hY3⟩
  refine Le u34 ?_
  refine Lo u34 (rfl) ?_
  refine Lo u34 (W13 rfl rfl rfl rfl rfl rfl rfl) ?_
  refine L_nil (K_blk (K_seq (B_region ?_)))
  refine Lo u34 (W14 rfl rfl rfl) ?_
  refine Lo u34 (v_move (.inl rfl) rfl) ?_
  refine L_nil ?_
  refine K_loop (mk 34 17179410419) (env' := u34) rfl ⟨k + 1, ?_, rfl, ?_⟩
  ·first | omega | (simp only []; omega)
  ·exact ⟨by omega, _, _, rfl, by rw [take_at (d := r0) (by omega)]; exact LV.pushF hY3⟩
 ·try simp only [qB, qN] at hc1
  refine B_exit (K_seqX (K_loopX (K_blkX (K_seq (B_seq ?_)))))
  obtain rfl : k = p.rules.length := by omega
  rw [List.take_length] at hl
  refine B_ghCell 2 3 hl rfl rfl (by simp) fun X5 _ _ => ?_
  refine B_heap (List.append_assoc _ _ _) ?_
  refine B_region ?_
  refine Lo u34 (W2h rfl rfl rfl rfl rfl) ?_
  refine Lo u34 (W13 rfl rfl rfl rfl rfl rfl rfl) ?_
  refine L_nil (K_seq (B_ret ?_))
  refine E_keep (.inr rfl) (vres_cellA rfl rfl rfl rfl (by first | exact get_app rfl rfl | exact get_out (by assumption) | exact getE0 rfl rfl | exact get_out (get_app rfl rfl) | exact get_app rfl (by assumption) | assumption | (simp only [List.append_assoc, List.singleton_append, List.cons_append, List.nil_append]; refine getE (i := 0) rfl ?_ rfl; simp; done) | (simp only [List.append_assoc, List.singleton_append, List.cons_append, List.nil_append]; refine getE (i := 1) rfl ?_ rfl; simp; done) | (simp only [List.append_assoc, List.singleton_append, List.cons_append, List.nil_append]; refine getE (i := 2) rfl ?_ rfl; simp; done) | (simp only [List.append_assoc, List.singleton_append, List.cons_append, List.nil_append]; refine getE (i := 3) rfl ?_ rfl; simp; done) | (simp [*]; done)) (by first | rfl | assumption | exact fgetN (α := BitVec 64) 0 (by omega) | exact fgetN (α := Int) 0 (by omega) | exact rul_at (by omega) | exact rul_f2 (by omega) | exact rul_f0 (by omega) | exact rul_f1 (by omega))) ?_
  exact ⟨_, 3, 4, (show VVal.agg [iI p.users, .slice (some (H.length + 3, 0)) p.who.length p.who.length (decide (p.who.length = 0)) 1, .slice (some (H.length + 4, 0)) p.fixed.length p.fixed.length (decide (p.fixed.length = 0)) 1, fzR p.rules] = _ from by rw [hd, hd2]), rfl, rfl, rfl, by decide⟩
theorem Copy_F {x : SW} (H : VHeap) (p : Pb) (hp : PbL p) : F (psys x) 73 [.agg (pbB p)] H fun v G => v = .agg (pbB p) ∧ G = H := by
 have h1 := hp.w; have h2 := hp.f; have h3 := hp.r; have h4 := hp.s
 refine F_body Tryd.func73 rfl u34 rfl ?_
 refine B_seq (B_region ?_)
 refine Lo u34 (v_boxT rfl rfl rfl) ?_
 refine Lo u34 (v_alloc rfl rfl) ?_
 refine L_nil (K_seq (B_seq ?_))
 refine B_gh (Gh.freezePtrL (cs := pbB p) 1 0 rfl rfl rfl) ?_
 refine B_draw [0, 1, 2, 3, 5, 6, 9, 4, 7, 8, 10] #[0, 1, 0, 4, 12, 0, 32, 124, 255, 0, 1023] (by kernel_rfl) (by kernel_rfl) (by kernel_rfl) ?_
 refine Oo u34 .calm rfl (rfl) ?_
 refine O_opI (env' := u34) (x := .look _ _) rfl rfl rfl (W2j rfl rfl rfl rfl) rfl rfl rfl ?_
 refine Oo u34 .calm rfl (rfl) ?_
 refine Oo u34 .look rfl (W2j rfl rfl rfl rfl) ?_
 refine Oo u34 .calm rfl (rfl) ?_
 refine O_opI (env' := u34) (x := .look _ _) rfl rfl rfl (W2j rfl rfl rfl rfl) rfl rfl rfl ?_
 refine O_opI (env' := u34) (x := .grow _) rfl rfl rfl (v_alloc rfl rfl) rfl rfl rfl ?_
 refine O_call (env' := u34) rfl rfl rfl rfl rfl (by exact CloWf _ _ h1) (by first | exact Nat.le_refl _ | simp) rfl rfl ?_
 refine O_call (env' := u34) rfl rfl rfl rfl rfl (by exact CloIf _ _ h2) (by first | exact Nat.le_refl _ | simp) rfl rfl ?_
 refine Oo u34 .calm rfl (rfl) ?_
 refine Oo u34 .turn rfl (W13 rfl rfl rfl rfl rfl rfl rfl) ?_
 refine O_nil [_, _, _, _, _] (by rfl) (And.intro (And.intro (W2j rfl rfl rfl rfl) (W2j rfl rfl rfl rfl)) (And.intro (And.intro (W2j rfl rfl rfl rfl) (W2j rfl rfl rfl rfl)) (And.intro (And.intro (W2j rfl rfl rfl rfl) (W2j rfl rfl rfl rfl)) (And.intro ((by simp [V.fine])) (And.intro ((by simp [V.fine])) trivial))))) ?_
 refine K_seq (B_seq (B_seq (B_region ?_)))
 refine Lo u34 (rfl) ?_
 refine Lo u34 (W2j rfl rfl rfl rfl) ?_
 refine Lo u34 (rfl) ?_
 refine Lo u34 (v_const (VVal.int .i64 0) (.inl rfl) rfl) ?_
 refine L_nil (K_seq (B_block ?_))
 refine B_clear (mk 34 17179410419) (env' := u34) rfl ?_
 refine B_loopE (fun (k : Nat) => p.rules.length - k) (fun (k : Nat) => [(18, iI (k : Nat))]) (fun (k : Nat) G => (k ≤ p.rules.length) ∧ ∃ lv X, G = (H ++ [.dead, pqB 0 nilS nilS nilS, .cells [iI p.users, fzW p.who, fzI p.fixed, lv] true]) ++ X ∧ LV (H.length + 3) 3 X lv ((p.rules.take k).flatMap rlB) (p.rules.take k).length) 0 rfl ?_ ?_
 ·refine ⟨?_, ⟨_, [], by rw [List.append_nil]; rfl, LV.nil _ _ _⟩⟩
  exact Nat.zero_le _
 rintro k _ ⟨hk, ⟨lv, X, rfl, hl⟩⟩
 refine B_env (env' := u34) rfl ?_
 refine B_seq (B_region ?_)
 refine Lo u34 (rfl) ?_
 refine L_nil (K_seq (B_seq ?_))
 refine B_cond _ rfl (fun hc1 => ?_) (fun hc1 => ?_)
 ·try simp only [qB, qN] at hc1
  refine B_skip (K_seq (B_seq (B_block (B_seq (B_region ?_)))))
  refine Lo u34 (W18 rfl rfl rfl rfl rfl rfl rfl) ?_
  refine Lo u34 (W2h rfl rfl rfl rfl rfl) ?_
  refine Lo u34 (v_alloc rfl rfl) ?_
  refine Lo u34 (W13 rfl rfl rfl rfl rfl rfl rfl) ?_
  refine L_nil (K_seq (B_seq (B_region ?_)))
  refine Lo u34 (rfl) ?_
  refine Lo u34 (W2j rfl rfl rfl rfl) ?_
  refine L_call rfl rfl rfl (by exact CloIf _ _ (h4 _ (rul_mem (by omega)))) ?_
  rintro _ _ ⟨rfl, rfl⟩
  refine Le u34 ?_
  refine Lo u34 (rfl) ?_
  refine Lo u34 (W13 rfl rfl rfl rfl rfl rfl rfl) ?_
  refine L_nil (K_seq (B_region ?_))
  refine Lo u34 (rfl) ?_
  refine Lo u34 (W2j rfl rfl rfl rfl) ?_
  refine Lo u34 (W2h rfl rfl rfl rfl rfl) ?_
  refine Lo u34 (v_buildSlice rfl rfl (by decide) rfl) ?_
  refine L_opX rfl rfl (v_appXh rfl rfl rfl rfl rfl rfl rfl (by simp) (hl.app _) rfl rfl (by decide) (by rw [List.length_take]; show (_ + 1) * 40 ≤ _ ∧ _ + 1 ≤ _; omega) (by decide)) ?_
  rintro _ _ ⟨Y1, rfl, rfl, hY1, hY2, hY3⟩
  refine Le u34 ?_
  refine Lo u34 (rfl) ?_
  refine Lo u34 (W13 rfl rfl rfl rfl rfl rfl rfl) ?_
  refine L_nil (K_blk (K_seq (B_region ?_)))
  refine Lo u34 (W14 rfl rfl rfl) ?_
  refine Lo u34 (v_move (.inl rfl) rfl) ?_
  refine L_nil ?_
  refine K_loop (mk 34 17179410419) (env' := u34) rfl ⟨k + 1, ?_, rfl, ?_⟩
  ·first | omega | (simp only []; omega)
  ·exact ⟨by omega, _, _, rfl, by rw [take_at (d := r0) (by omega)]; exact LV.pushF hY3⟩
 ·try simp only [qB, qN] at hc1
  refine B_exit (K_seqX (K_loopX (K_blkX (K_seq (B_seq ?_)))))
  obtain rfl : k = p.rules.length := by omega
  rw [List.take_length] at hl
  refine B_ghCell 2 3 hl rfl rfl (by simp) fun X5 _ _ => ?_
  refine B_heap (List.append_assoc _ _ _) ?_
  refine B_region ?_
  refine Lo u34 (W2h rfl rfl rfl rfl rfl) ?_
  refine Lo u34 (W13 rfl rfl rfl rfl rfl rfl rfl) ?_
  refine L_nil (K_seq (B_ret ?_))
  refine W5i (.inr rfl) (vres_cellA rfl rfl rfl rfl (by first | exact get_app rfl rfl | exact get_out (by assumption) | exact getE0 rfl rfl | exact get_out (get_app rfl rfl) | exact get_app rfl (by assumption) | assumption | (simp only [List.append_assoc, List.singleton_append, List.cons_append, List.nil_append]; refine getE (i := 0) rfl ?_ rfl; simp; done) | (simp only [List.append_assoc, List.singleton_append, List.cons_append, List.nil_append]; refine getE (i := 1) rfl ?_ rfl; simp; done) | (simp only [List.append_assoc, List.singleton_append, List.cons_append, List.nil_append]; refine getE (i := 2) rfl ?_ rfl; simp; done) | (simp only [List.append_assoc, List.singleton_append, List.cons_append, List.nil_append]; refine getE (i := 3) rfl ?_ rfl; simp; done) | (simp [*]; done)) (by first | rfl | assumption | exact fgetN (α := BitVec 64) 0 (by omega) | exact fgetN (α := Int) 0 (by omega) | exact rul_at (by omega) | exact rul_f2 (by omega) | exact rul_f0 (by omega) | exact rul_f1 (by omega))) ?_
  exact ⟨rfl, rfl⟩
end Go.Proofs.YtalmjnkcibgclaaDoor.VT

set_option autoImplicit false
set_option linter.unusedVariables false
set_option linter.unusedSimpArgs false
set_option maxHeartbeats 4000000
set_option maxRecDepth 100000
namespace Go.Proofs.YtalmjnkcibgclaaDoor.VT
open Go Go.V Go.RowKit
abbrev u19 {a0 a1 a2 a3 a4 a5 a6 a7 a8 a9 a10 a11 a12 a13 a14 a15 a16 a17 a18 : VVal} : VEnv := a0 :: a1 :: a2 :: a3 :: a4 :: a5 :: a6 :: a7 :: a8 :: a9 :: a10 :: a11 :: a12 :: a13 :: a14 :: a15 :: a16 :: a17 :: a18 :: []
theorem W5k {P : Prop} (h : P := by first | exact ⟨⟨_, rfl, by rw [inB_hit (k := k) (by omega) (by omega)]; exact decide_eq_true (by omega)⟩, rfl⟩ | (rw [List.take_of_length_le (by omega)] at hi; exact ⟨⟨_, rfl, by rw [hi]; rfl⟩, rfl⟩)) : P := h
theorem W5m {P : Prop} (h : P := by first | exact ⟨congrArg VVal.bool (by simp; omega), rfl⟩ | exact ⟨congrArg VVal.bool (by rw [Bool.eq_iff_iff]; simp; omega), rfl⟩) : P := h
theorem W5n {T : TypeId → Option VTy} {H : VHeap} {op : Op} {ρ : Operand → VVal} {t : TypeId} {a : Operand} {y : VTy} {p v : VVal} (ho : op = .load t a) (ha : ρ a = p) (hy : T t = some y) (hd : isAggDesc y.desc = false) (h : LdOk H p v := by first | exact .inl ⟨_, _, rfl, by first | rfl | assumption | exact fget (α := BitVec 64) 0 (by omega) | exact fget (α := Int) 0 (by omega) | exact fget0 (α := BitVec 64) 0 (by omega) | exact fget0 (α := Int) 0 (by omega) | exact fget (α := Bool) false (by omega) | exact fget0 (α := Bool) false (by omega) | (simp [*]; done)⟩ | exact .inr ⟨_, _, _, _, rfl, by exact get_append hb, by first | rfl | assumption | exact fget (α := BitVec 64) 0 (by omega) | exact fget (α := Int) 0 (by omega) | exact fget0 (α := BitVec 64) 0 (by omega) | exact fget0 (α := Int) 0 (by omega) | exact fget (α := Bool) false (by omega) | exact fget0 (α := Bool) false (by omega) | (simp [*]; done)⟩) : vop T ρ H op = some (v, H) := v_ld ho ha hy hd h
theorem W5o {P : Prop} (h : P := by first | exact ⟨⟨_, rfl, by rw [ltB_bad (k := k) (by omega) (by have h9 := hc2; simp at h9; omega)]; exact decide_eq_true (by omega)⟩, rfl⟩ | (rw [List.take_of_length_le (by omega)] at hi; exact ⟨⟨_, rfl, by rw [hi]; rfl⟩, rfl⟩)) : P := h
theorem W5r {P : Prop} (h : P := by first | exact ⟨by rw [inB_hit (k := k) (by omega) (by omega)], rfl⟩ | (rw [List.take_of_length_le (by omega)] at hi; exact ⟨by rw [hi], rfl⟩)) : P := h
theorem inB_step' {l : List Int} {k n : Nat} (h : k < l.length) : inB (l.take (k + 1)) n = (inB (l.take k) n || decide (l.getD k 0 = (n : Int))) := by
  rw [take_at (d := 0) h, inB_app, inB_one]
theorem inB_hit {l : List Int} {k n : Nat} (h : k < l.length) (e : l.getD k 0 = (n : Int)) : inB l n = true := by
  rw [inB_mem, ← e, List.getD_eq_getElem?_getD, List.getElem?_eq_getElem h]; exact List.getElem_mem h
theorem ltB_step {l : List Int} {k n : Nat} (h : k < l.length) : ltB (l.take (k + 1)) n = (ltB (l.take k) n && decide (0 ≤ l.getD k 0 ∧ l.getD k 0 < (n : Int))) := by
  rw [take_at (d := 0) h, ltB_app, ltB_one]
theorem ltB_bad {l : List Int} {k n : Nat} (h : k < l.length) (e : ¬ (0 ≤ l.getD k 0 ∧ l.getD k 0 < (n : Int))) : ltB l n = false := by
  rw [Bool.eq_false_iff]; intro h2
  refine e (ltB_mem.1 h2 _ ?_)
  rw [List.getD_eq_getElem?_getD, List.getElem?_eq_getElem h]; exact List.getElem_mem h
theorem ltB_at {l : List Int} {n k : Nat} (h : ltB l n = true) (hk : k < l.length) : ∃ i : Nat, l.getD k 0 = (i : Int) ∧ i < n := by
  have := ltB_mem.1 h (l.getD k 0) (by rw [List.getD_eq_getElem?_getD, List.getElem?_eq_getElem hk]; exact List.getElem_mem hk)
  exact ⟨(l.getD k 0).toNat, by omega, by omega⟩
theorem Index_spec {x : SW} (H : VHeap) (rv : VVal) (l : List Int) (n : Nat) (hr : RD H rv l) (hn : l.length ≤ 1000000) : F (psys x) 108 [rv, iI (n : Nat)] H fun v G => (∃ r : Int, v = iI r ∧ decide (0 ≤ r) = inB l n) ∧ G = H := by
 refine F_body Tryd.func108 rfl u19 rfl ?_
 refine B_seq (B_region ?_)
 refine Lo u19 (v_const (VVal.int .i64 0) (.inr rfl) rfl) ?_
 refine L_nil (K_seq (B_seq (B_seq (B_region ?_))))
 refine Lo u19 (v_move (.inl rfl) rfl) ?_
 refine Lo u19 (v_lenD rfl rfl rfl rfl hr) ?_
 refine Lo u19 (v_const (VVal.int .i64 0) (.inl rfl) rfl) ?_
 refine L_nil (K_seq (B_block ?_))
 refine B_clear (mk 19 523900) (env' := u19) rfl ?_
 refine B_loopE (fun (k : Nat) => l.length - k) (fun (k : Nat) => [(8, iI (k : Nat))]) (fun (k : Nat) G => (k ≤ l.length ∧ inB (l.take k) n = false) ∧ G = H ++ []) 0 rfl ?_ ?_
 ·refine ⟨?_, rfl⟩
  exact ⟨Nat.zero_le _, rfl⟩
 rintro k _ ⟨⟨hk, hi⟩, rfl⟩
 refine B_env (env' := u19) rfl ?_
 refine B_seq (B_region ?_)
 refine Lo u19 (rfl) ?_
 refine L_nil (K_seq (B_seq ?_))
 refine B_cond _ rfl (fun hc1 => ?_) (fun hc1 => ?_)
 ·try simp only [qB, qN] at hc1
  refine B_skip (K_seq (B_seq (B_block (B_seq (B_region ?_)))))
  refine Lo u19 (v_move (.inl rfl) rfl) ?_
  refine Lo u19 (v_move (.inr rfl) rfl) ?_
  refine L_nil (K_seq (B_seq (B_region ?_)))
  refine Lo u19 (v_move (.inl rfl) rfl) ?_
  refine Lo u19 (v_move (.inl rfl) rfl) ?_
  refine Lo u19 (v_move (.inl rfl) rfl) ?_
  refine L_opX rfl rfl (v_ixD rfl rfl rfl rfl rfl rfl rfl hr (by omega) _) ?_
  rintro w _ ⟨rfl, hw⟩
  refine Le u19 ?_
  refine Lo u19 (v_ld rfl rfl rfl rfl hw.app) ?_
  refine Lo u19 (rfl) ?_
  refine L_nil (K_seq ?_)
  refine B_cond _ rfl (fun hc2 => ?_) (fun hc2 => ?_)
  ·try simp only [qB, qN] at hc2
   refine B_seq (B_region ?_)
   refine Lo u19 (v_move (.inl rfl) rfl) ?_
   refine Lo u19 (v_move (.inr rfl) rfl) ?_
   refine L_nil (K_seq (B_ret (K_blkR (K_seqR (K_loopR (K_blkR (K_seqR ?_)))))))
   refine W10 (.inr rfl) (vres_tmp rfl rfl) ?_
   exact W5k
  ·try simp only [qB, qN] at hc2
   refine B_skip (K_blk (K_seq (B_region ?_)))
   refine Lo u19 (W14 rfl rfl rfl) ?_
   refine Lo u19 (v_move (.inl rfl) rfl) ?_
   refine L_nil ?_
   refine K_loop (mk 19 523900) (env' := u19) rfl ⟨k + 1, ?_, rfl, ?_⟩
   ·first | omega | (simp only []; omega)
   ·exact ⟨⟨by omega, by rw [inB_step' (by omega), hi, decide_eq_false (by omega)]; rfl⟩, rfl⟩
 ·try simp only [qB, qN] at hc1
  refine B_exit (K_seqX (K_loopX (K_blkX (K_seq (B_seq (B_region ?_))))))
  refine Lo u19 (v_const (VVal.int .i64 (-1)) (.inr rfl) rfl) ?_
  refine L_nil (K_seq (B_ret ?_))
  refine W10 (.inr rfl) (vres_tmp rfl rfl) ?_
  exact W5k
theorem Contains_spec {x : SW} (H : VHeap) (rv : VVal) (l : List Int) (n : Nat) (hr : RD H rv l) (hn : l.length ≤ 1000000) : F (psys x) 74 [rv, iI (n : Nat)] H fun v G => v = .bool (inB l n) ∧ G = H := by
 refine F_body Tryd.func74 rfl u9 rfl ?_
 refine B_seq (B_region ?_)
 refine Lo u9 (v_const (VVal.bool false) (.inr rfl) rfl) ?_
 refine L_nil (K_seq (B_seq (B_region ?_)))
 refine Lo u9 (v_move (.inl rfl) rfl) ?_
 refine Lo u9 (v_move (.inl rfl) rfl) ?_
 refine L_call rfl rfl rfl (by exact Index_spec _ rv l n (hr.app _) hn) ?_
 rintro _ _ ⟨⟨r, rfl, hd⟩, rfl⟩
 refine Le u9 ?_
 refine Lo u9 (rfl) ?_
 refine Lo u9 (v_move (.inr rfl) rfl) ?_
 refine L_nil (K_seq (B_ret ?_))
 refine W10 (.inr rfl) (vres_tmp rfl rfl) ?_
 exact ⟨by rw [← hd], rfl⟩
theorem within1_spec {x : SW} (H : VHeap) (b n : Nat) (hb : H[b]? = some (.cells [iI (n : Nat)] true)) (i : Int) : F (psys x) 105 [iI i, .ptr (some (b, 0))] H fun v G => v = .bool (!decide (0 ≤ i ∧ i < (n : Int))) ∧ G = H := by
 refine F_body Tryd.func105 rfl u11 rfl ?_
 refine B_seq (B_region ?_)
 refine Lo u11 (v_const (VVal.bool false) (.inr rfl) rfl) ?_
 refine L_nil (K_seq (B_seq (B_region ?_)))
 refine Lo u11 (v_move (.inl rfl) rfl) ?_
 refine Lo u11 (rfl) ?_
 refine Lo u11 (v_move (.inl rfl) rfl) ?_
 refine L_split 6 (env1 := u11) (env2 := u11) rfl rfl rfl (fun hg1 => ?_) (fun hg1 => ?_)
 ·try simp only [qB, qN] at hg1
  refine Lf u11 ?_
  refine Lf u11 ?_
  refine Lf u11 ?_
  refine Lo u11 (v_pickTC (VVal.bool true) rfl rfl rfl) ?_
  refine Lo u11 (v_move (.inr rfl) rfl) ?_
  refine L_nil (K_seq (B_ret ?_))
  refine W10 (.inr rfl) (vres_tmp rfl rfl) ?_
  exact W5m
 ·try simp only [qB, qN] at hg1
  refine Lo u11 (v_move (.inl rfl) rfl) ?_
  refine Lo u11 (W5n rfl rfl rfl rfl) ?_
  refine Lo u11 (rfl) ?_
  refine Lo u11 (v_pickF rfl rfl rfl) ?_
  refine Lo u11 (v_move (.inr rfl) rfl) ?_
  refine L_nil (K_seq (B_ret ?_))
  refine W10 (.inr rfl) (vres_tmp rfl rfl) ?_
  exact W5m
theorem IndexFunc_spec {x : SW} (H : VHeap) (rv : VVal) (l : List Int) (b n : Nat) (hb : H[b]? = some (.cells [iI (n : Nat)] true)) (hr : RD H rv l) (hn : l.length ≤ 1000000) : F (psys x) 131 [rv, .func 105 [] [.ptr (some (b, 0))]] H fun v G => (∃ r : Int, v = iI r ∧ decide (0 ≤ r) = !ltB l n) ∧ G = H := by
 refine F_body Tryd.func131 rfl u19 rfl ?_
 refine B_seq (B_region ?_)
 refine Lo u19 (v_const (VVal.int .i64 0) (.inr rfl) rfl) ?_
 refine L_nil (K_seq (B_seq (B_seq (B_region ?_))))
 refine Lo u19 (v_move (.inl rfl) rfl) ?_
 refine Lo u19 (v_lenD rfl rfl rfl rfl hr) ?_
 refine Lo u19 (v_const (VVal.int .i64 0) (.inl rfl) rfl) ?_
 refine L_nil (K_seq (B_block ?_))
 refine B_clear (mk 19 523900) (env' := u19) rfl ?_
 refine B_loopE (fun (k : Nat) => l.length - k) (fun (k : Nat) => [(8, iI (k : Nat))]) (fun (k : Nat) G => (k ≤ l.length ∧ ltB (l.take k) n = true) ∧ G = H ++ []) 0 rfl ?_ ?_
 ·refine ⟨?_, rfl⟩
  exact ⟨Nat.zero_le _, rfl⟩
 rintro k _ ⟨⟨hk, hi⟩, rfl⟩
 refine B_env (env' := u19) rfl ?_
 refine B_seq (B_region ?_)
 refine Lo u19 (rfl) ?_
 refine L_nil (K_seq (B_seq ?_))
 refine B_cond _ rfl (fun hc1 => ?_) (fun hc1 => ?_)
 ·try simp only [qB, qN] at hc1
  refine B_skip (K_seq (B_seq (B_block (B_seq (B_region ?_)))))
  refine Lo u19 (v_move (.inl rfl) rfl) ?_
  refine Lo u19 (v_move (.inr rfl) rfl) ?_
  refine L_nil (K_seq (B_seq (B_region ?_)))
  refine Lo u19 (v_move (.inl rfl) rfl) ?_
  refine Lo u19 (v_move (.inl rfl) rfl) ?_
  refine Lo u19 (v_move (.inl rfl) rfl) ?_
  refine L_opX rfl rfl (v_ixD rfl rfl rfl rfl rfl rfl rfl hr (by omega) _) ?_
  rintro w _ ⟨rfl, hw⟩
  refine Le u19 ?_
  refine Lo u19 (v_ld rfl rfl rfl rfl hw.app) ?_
  refine L_call rfl rfl rfl (by exact within1_spec _ b n (get_append hb) (l.getD k 0)) ?_
  rintro _ _ ⟨rfl, rfl⟩
  refine Le u19 ?_
  refine L_nil (K_seq ?_)
  refine B_cond _ rfl (fun hc2 => ?_) (fun hc2 => ?_)
  ·try simp only [qB, qN] at hc2
   refine B_seq (B_region ?_)
   refine Lo u19 (v_move (.inl rfl) rfl) ?_
   refine Lo u19 (v_move (.inr rfl) rfl) ?_
   refine L_nil (K_seq (B_ret (K_blkR (K_seqR (K_loopR (K_blkR (K_seqR ?_)))))))
   refine W10 (.inr rfl) (vres_tmp rfl rfl) ?_
   exact W5o
  ·try simp only [qB, qN] at hc2
   refine B_skip (K_blk (K_seq (B_region ?_)))
   refine Lo u19 (W14 rfl rfl rfl) ?_
   refine Lo u19 (v_move (.inl rfl) rfl) ?_
   refine L_nil ?_
   refine K_loop (mk 19 523900) (env' := u19) rfl ⟨k + 1, ?_, rfl, ?_⟩
   ·first | omega | (simp only []; omega)
   ·exact ⟨⟨by omega, by rw [ltB_step (by omega), hi, decide_eq_true (by have h9 := hc2; simp at h9; omega)]; rfl⟩, rfl⟩
 ·try simp only [qB, qN] at hc1
  refine B_exit (K_seqX (K_loopX (K_blkX (K_seq (B_seq (B_region ?_))))))
  refine Lo u19 (v_const (VVal.int .i64 (-1)) (.inr rfl) rfl) ?_
  refine L_nil (K_seq (B_ret ?_))
  refine W10 (.inr rfl) (vres_tmp rfl rfl) ?_
  exact W5o
theorem ContainsFunc_spec {x : SW} (H : VHeap) (rv : VVal) (l : List Int) (b n : Nat) (hb : H[b]? = some (.cells [iI (n : Nat)] true)) (hr : RD H rv l) (hn : l.length ≤ 1000000) : F (psys x) 104 [rv, .func 105 [] [.ptr (some (b, 0))]] H fun v G => v = .bool (!ltB l n) ∧ G = H := by
 refine F_body Tryd.func104 rfl u9 rfl ?_
 refine B_seq (B_region ?_)
 refine Lo u9 (v_const (VVal.bool false) (.inr rfl) rfl) ?_
 refine L_nil (K_seq (B_seq (B_region ?_)))
 refine Lo u9 (v_move (.inl rfl) rfl) ?_
 refine Lo u9 (v_move (.inl rfl) rfl) ?_
 refine L_call rfl rfl rfl (by exact IndexFunc_spec _ rv l b n (get_append hb) (hr.app _) hn) ?_
 rintro _ _ ⟨⟨r, rfl, hd⟩, rfl⟩
 refine Le u9 ?_
 refine Lo u9 (rfl) ?_
 refine Lo u9 (v_move (.inr rfl) rfl) ?_
 refine L_nil (K_seq (B_ret ?_))
 refine W10 (.inr rfl) (vres_tmp rfl rfl) ?_
 exact ⟨by rw [← hd], rfl⟩
theorem cwithin_spec {x : SW} (H : VHeap) (rv : VVal) (l : List Int) (n : Nat) (hr : RD H rv l) (hn : l.length ≤ 1000000) : F (psys x) 72 [rv, iI (n : Nat)] H fun v G => v = .bool (ltB l n) ∧ G = H := by
 refine F_body Tryd.func72 rfl u9 rfl ?_
 refine B_seq (B_region ?_)
 refine Lo u9 (v_boxT rfl rfl rfl) ?_
 refine Lo u9 (v_const (VVal.bool false) (.inr rfl) rfl) ?_
 refine L_nil (K_seq (B_seq (B_region ?_)))
 refine Lo u9 (v_move (.inl rfl) rfl) ?_
 refine Lo u9 (v_func [_] rfl rfl) ?_
 refine L_call rfl rfl rfl (by exact ContainsFunc_spec _ rv l H.length n get_end (hr.app _) hn) ?_
 rintro _ _ ⟨rfl, rfl⟩
 refine Le u9 ?_
 refine Lo u9 (rfl) ?_
 refine Lo u9 (v_move (.inr rfl) rfl) ?_
 refine L_nil (K_seq (B_ret ?_))
 refine W10 (.inr rfl) (vres_tmp rfl rfl) ?_
 exact ⟨by rw [Bool.not_not], rfl⟩
theorem fin_spec {x : SW} (H : VHeap) (l : List Int) (n : Nat) (hn : l.length ≤ 1000000) : F (psys x) 77 [fzI l, iI (n : Nat)] H fun v G => v = .bool (inB l n) ∧ G = H := by
 refine F_body Tryd.func77 rfl u18 rfl ?_
 refine B_seq (B_region ?_)
 refine Lo u18 (v_const (VVal.bool false) (.inr rfl) rfl) ?_
 refine L_nil (K_seq (B_seq (B_seq (B_region ?_))))
 refine Lo u18 (v_const (VVal.int .i64 0) (.inr rfl) rfl) ?_
 refine L_nil (K_seq (B_block ?_))
 refine B_clear (mk 18 262108) (env' := u18) rfl ?_
 refine B_loopE (fun (k : Nat) => l.length - k) (fun (k : Nat) => [(5, iI (k : Nat))]) (fun (k : Nat) G => (k ≤ l.length ∧ inB (l.take k) n = false) ∧ G = H ++ []) 0 rfl ?_ ?_
 ·refine ⟨?_, rfl⟩
  exact ⟨Nat.zero_le _, rfl⟩
 rintro k _ ⟨⟨hk, hi⟩, rfl⟩
 refine B_env (env' := u18) rfl ?_
 refine B_seq (B_seq (B_region ?_))
 refine Lo u18 (v_move (.inl rfl) rfl) ?_
 refine Lo u18 (v_move (.inl rfl) rfl) ?_
 refine Lo u18 (rfl) ?_
 refine Lo u18 (rfl) ?_
 refine L_nil (K_seq ?_)
 refine B_cond _ rfl (fun hc1 => ?_) (fun hc1 => ?_)
 ·try simp only [qB, qN] at hc1
  refine B_skip (K_seq (B_seq (B_block (B_seq (B_region ?_)))))
  refine Lo u18 (v_move (.inl rfl) rfl) ?_
  refine Lo u18 (v_move (.inl rfl) rfl) ?_
  refine Lo u18 (W18 rfl rfl rfl rfl rfl rfl rfl) ?_
  refine Lo u18 (W1f rfl rfl rfl rfl) ?_
  refine Lo u18 (v_move (.inl rfl) rfl) ?_
  refine Lo u18 (rfl) ?_
  refine L_nil (K_seq ?_)
  refine B_cond _ rfl (fun hc2 => ?_) (fun hc2 => ?_)
  ·try simp only [qB, qN] at hc2
   refine B_seq (B_region ?_)
   refine Lo u18 (v_const (VVal.bool true) (.inr rfl) rfl) ?_
   refine L_nil (K_seq (B_ret (K_blkR (K_seqR (K_loopR (K_blkR (K_seqR ?_)))))))
   refine W10 (.inr rfl) (vres_tmp rfl rfl) ?_
   exact W5r
  ·try simp only [qB, qN] at hc2
   refine B_skip (K_blk (K_seq (B_region ?_)))
   refine Lo u18 (v_move (.inl rfl) rfl) ?_
   refine Lo u18 (W14 rfl rfl rfl) ?_
   refine Lo u18 (v_move (.inr rfl) rfl) ?_
   refine L_nil ?_
   refine K_loop (mk 18 262108) (env' := u18) rfl ⟨k + 1, ?_, rfl, ?_⟩
   ·first | omega | (simp only []; omega)
   ·exact ⟨⟨by omega, by rw [inB_step' (by omega), hi, decide_eq_false (by omega)]; rfl⟩, rfl⟩
 ·try simp only [qB, qN] at hc1
  refine B_exit (K_seqX (K_loopX (K_blkX (K_seq (B_seq (B_region ?_))))))
  refine Lo u18 (v_const (VVal.bool false) (.inr rfl) rfl) ?_
  refine L_nil (K_seq (B_ret ?_))
  refine W10 (.inr rfl) (vres_tmp rfl rfl) ?_
  exact W5r
theorem every_spec {x : SW} (H : VHeap) (u : Int) (h0 : 0 ≤ u) : F (psys x) 75 [iI u] H fun v G => v = iW (allW u) ∧ G = H := by
 refine F_body Tryd.func75 rfl u6 rfl ?_
 refine B_seq (B_region ?_)
 refine Lo u6 (v_const (VVal.int .u64 0) (.inr rfl) rfl) ?_
 refine L_nil (K_seq (B_seq (B_region ?_)))
 refine Lo u6 (v_move (.inl rfl) rfl) ?_
 refine Lo u6 (v_shl1 rfl rfl rfl (by first | assumption | omega | (simp [*]; done) | (simp at *; omega))) ?_
 refine Lo u6 (v_subW (b := 1#64) rfl rfl rfl) ?_
 refine Lo u6 (v_move (.inr rfl) rfl) ?_
 refine L_nil (K_seq (B_ret ?_))
 refine W10 (.inr rfl) (vres_tmp rfl rfl) ?_
 exact ⟨rfl, rfl⟩
end Go.Proofs.YtalmjnkcibgclaaDoor.VT

set_option autoImplicit false
set_option linter.unusedVariables false
set_option linter.unusedSimpArgs false
set_option maxHeartbeats 4000000
set_option maxRecDepth 100000
namespace Go.Proofs.YtalmjnkcibgclaaDoor.VT
open Go Go.V Go.RowKit
abbrev u77 {a0 a1 a2 a3 a4 a5 a6 a7 a8 a9 a10 a11 a12 a13 a14 a15 a16 a17 a18 a19 a20 a21 a22 a23 a24 a25 a26 a27 a28 a29 a30 a31 a32 a33 a34 a35 a36 a37 a38 a39 a40 a41 a42 a43 a44 a45 a46 a47 a48 a49 a50 a51 a52 a53 a54 a55 a56 a57 a58 a59 a60 a61 a62 a63 a64 a65 a66 a67 a68 a69 a70 a71 a72 a73 a74 a75 a76 : VVal} : VEnv := a0 :: a1 :: a2 :: a3 :: a4 :: a5 :: a6 :: a7 :: a8 :: a9 :: a10 :: a11 :: a12 :: a13 :: a14 :: a15 :: a16 :: a17 :: a18 :: a19 :: a20 :: a21 :: a22 :: a23 :: a24 :: a25 :: a26 :: a27 :: a28 :: a29 :: a30 :: a31 :: a32 :: a33 :: a34 :: a35 :: a36 :: a37 :: a38 :: a39 :: a40 :: a41 :: a42 :: a43 :: a44 :: a45 :: a46 :: a47 :: a48 :: a49 :: a50 :: a51 :: a52 :: a53 :: a54 :: a55 :: a56 :: a57 :: a58 :: a59 :: a60 :: a61 :: a62 :: a63 :: a64 :: a65 :: a66 :: a67 :: a68 :: a69 :: a70 :: a71 :: a72 :: a73 :: a74 :: a75 :: a76 :: []
theorem W5u {S : V.Sys} {H : VHeap} {fn : Func} {ex : Exit} {env : VEnv} {B L : VHeap} {v : VVal} {R : VVal → VHeap → Prop} (hx : ex = .normal ∨ ex = .ret) (hv : vresults S.C.T env (B ++ L) fn.results = some v) (h : R v B) (hB : BaseOk H B := by first | exact BaseOk.refl _ | exact BaseOk.set (BaseOk.refl _) _ rfl) (hu : v.under H.length = true := by exact (show ((VVal.agg (pbB z0P)).under H.length && (true && true)) = true by rw [pb_under]; rfl)) : fnK S fn H R ex env (B ++ L) := E_app hx hv hB hu h
theorem W5v {P : Prop} (h : P := by first | exact ⟨by rw [woP_no he]; unfold woE; rw [if_pos (by assumption)]; rfl, rfl⟩ | exact ⟨by rw [woP_no he, woE_1 he (by assumption)]; rfl, rfl⟩) : P := h
theorem W5y {T : TypeId → Option VTy} {H : VHeap} {op : Op} {ρ : Operand → VVal} {t : TypeId} {a : Operand} {y : VTy} {p v : VVal} (ho : op = .load t a) (ha : ρ a = p) (hy : T t = some y) (hd : isAggDesc y.desc = false) (h : LdOk H p v := by first | exact .inl ⟨_, _, rfl, by first | rfl | assumption | exact fgetN (α := BitVec 64) 0 (by omega) | exact fgetN (α := Int) 0 (by omega) | exact rul_at (by omega) | exact rul_f2 (by omega) | exact rul_f0 (by omega) | exact rul_f1 (by omega)⟩ | exact .inr ⟨_, _, _, _, rfl, by exact getQ rfl, by first | rfl | assumption | exact fgetN (α := BitVec 64) 0 (by omega) | exact fgetN (α := Int) 0 (by omega) | exact rul_at (by omega) | exact rul_f2 (by omega) | exact rul_f0 (by omega) | exact rul_f1 (by omega)⟩) : vop T ρ H op = some (v, H) := v_ld ho ha hy hd h
theorem W5z {T : TypeId → Option VTy} {H : VHeap} {op : Op} {ρ : VEnv} {H' : VHeap} {t : TypeId} {a : Operand} {i : Nat} {v : VVal} {y : VTy} {b off : Nat} {cs new : List VVal} (ho : op = .store t a (.tmp i)) (hv : ρ[i]? = some v) (ha : ρ.eval a = .ptr (some (b, off))) (hy : T t = some y) (hx : v.cells = some new) (hn : new.length = y.size) (h1 : new.all VVal.one = true) (hb : H[b]? = some (.cells cs true) := by exact getQ rfl) (hl : off + new.length ≤ cs.length := by first | exact Nat.le_of_ble_eq_true rfl | (simp only [List.length_map, List.length_cons, List.length_nil]; omega) | omega | (simp; done) | (simp; omega)) (hH : H.set b (.cells (splice cs off new) true) = H' := by exact setQ rfl) : vop T ρ.eval H op = some (.skip, H') := v_storeT ho hv ha hy hx hn h1 hb hl hH
theorem W61 {T : TypeId → Option VTy} {H : VHeap} {op : Op} {ρ : Operand → VVal} {t : TypeId} {a : Operand} {y : VTy} {p v : VVal} (ho : op = .load t a) (ha : ρ a = p) (hy : T t = some y) (hd : isAggDesc y.desc = false) (h : LdOk H p v := by first | exact .inl ⟨_, _, rfl, by first | rfl | assumption | exact fgetN (α := BitVec 64) 0 (by omega) | exact fgetN (α := Int) 0 (by omega) | exact rul_at (by omega) | exact rul_f2 (by omega) | exact rul_f0 (by omega) | exact rul_f1 (by omega)⟩ | exact .inr ⟨_, _, _, _, rfl, by exact get_app rfl (get_append (get_endE (by first | exact hZl | (rw [List.length_set]; exact hZl)))), by first | rfl | assumption | exact fgetN (α := BitVec 64) 0 (by omega) | exact fgetN (α := Int) 0 (by omega) | exact rul_at (by omega) | exact rul_f2 (by omega) | exact rul_f0 (by omega) | exact rul_f1 (by omega)⟩) : vop T ρ H op = some (v, H) := v_ld ho ha hy hd h
theorem W62 {T : TypeId → Option VTy} {H : VHeap} {op : Op} {ρ : VEnv} {H' : VHeap} {t : TypeId} {a : Operand} {i : Nat} {v : VVal} {y : VTy} {b off : Nat} {cs new : List VVal} (ho : op = .store t a (.tmp i)) (hv : ρ[i]? = some v) (ha : ρ.eval a = .ptr (some (b, off))) (hy : T t = some y) (hx : v.cells = some new) (hn : new.length = y.size) (h1 : new.all VVal.one = true) (hb : H[b]? = some (.cells cs true) := by exact get_app rfl (get_append (get_append hZ1))) (hl : off + new.length ≤ cs.length := by show 0 + ((i : Nat) : Int).toNat * 1 + 1 ≤ _; rw [List.length_map, mpW_len]; omega) (hH : H.set b (.cells (splice cs off new) true) = H' := by exact (set_app rfl).trans (by rw [set_out (by simp; have := lt_of_get hZ1; omega), set_out (lt_of_get hZ1)])) : vop T ρ.eval H op = some (.skip, H') := v_storeT ho hv ha hy hx hn h1 hb hl hH
theorem W63 {T : TypeId → Option VTy} {H : VHeap} {op : Op} {ρ : Operand → VVal} {t : TypeId} {a : Operand} {y : VTy} {p : VVal} {n : Nat} {vs : List VVal} (ho : op = .load t a) (ha : ρ a = p) (hy : T t = some y) (hd : isAggDesc y.desc = true) (hn : y.size = n) (h : LdOkA H p n vs := by first | exact .inl ⟨_, _, rfl, by first | rfl | assumption | exact fgetN (α := BitVec 64) 0 (by omega) | exact fgetN (α := Int) 0 (by omega) | exact rul_at (by omega) | exact rul_f2 (by omega) | exact rul_f0 (by omega) | exact rul_f1 (by omega)⟩ | exact .inr ⟨_, _, _, _, rfl, by first | exact get_app rfl (get_append (get_endE hZl)) | exact get_app rfl (List.getElem?_set_self (by simp; omega)), by first | rfl | assumption | exact fgetN (α := BitVec 64) 0 (by omega) | exact fgetN (α := Int) 0 (by omega) | exact rul_at (by omega) | exact rul_f2 (by omega) | exact rul_f0 (by omega) | exact rul_f1 (by omega)⟩) : vop T ρ H op = some (.agg vs, H) := v_ldA ho ha hy hd hn h
theorem W64 {T : TypeId → Option VTy} {H : VHeap} {op : Op} {ρ : VEnv} {H' : VHeap} {t : TypeId} {a : Operand} {i : Nat} {v : VVal} {y : VTy} {b off : Nat} {cs new : List VVal} (ho : op = .store t a (.tmp i)) (hv : ρ[i]? = some v) (ha : ρ.eval a = .ptr (some (b, off))) (hy : T t = some y) (hx : v.cells = some new) (hn : new.length = y.size) (h1 : new.all VVal.one = true) (hb : H[b]? = some (.cells cs true) := by exact getB rfl rfl) (hl : off + new.length ≤ cs.length := by first | exact Nat.le_of_ble_eq_true rfl | (simp only [List.length_map, List.length_cons, List.length_nil]; omega) | omega | (simp; done) | (simp; omega)) (hH : H.set b (.cells (splice cs off new) true) = H' := by exact setB rfl (show 1 < 2 by decide)) : vop T ρ.eval H op = some (.skip, H') := v_storeT ho hv ha hy hx hn h1 hb hl hH
theorem W65 {S : V.Sys} {H : VHeap} {fn : Func} {ex : Exit} {env : VEnv} {B L : VHeap} {v : VVal} {R : VVal → VHeap → Prop} (hx : ex = .normal ∨ ex = .ret) (hv : vresults S.C.T env (B ++ L) fn.results = some v) (h : R v B) (hB : BaseOk H B := by first | exact BaseOk.refl _ | exact BaseOk.set (BaseOk.refl _) _ rfl) (hu : v.under H.length = true := by exact (show ((VVal.agg (pbB (woQ p rs ss))).under H.length && (true && true)) = true by rw [pb_under]; rfl)) : fnK S fn H R ex env (B ++ L) := E_app hx hv hB hu h
theorem W66 {S : V.Sys} {H : VHeap} {fn : Func} {ex : Exit} {env : VEnv} {B L : VHeap} {v : VVal} {R : VVal → VHeap → Prop} (hx : ex = .normal ∨ ex = .ret) (hv : vresults S.C.T env (B ++ L) fn.results = some v) (h : R v B) (hB : BaseOk H B := by first | exact BaseOk.refl _ | exact BaseOk.set (BaseOk.refl _) _ rfl) (hu : v.under H.length = true := by exact (show ((VVal.agg (pbB (p.users, p.who, p.fixed, [], ()))).under H.length && (true && true)) = true by rw [pb_under]; rfl)) : fnK S fn H R ex env (B ++ L) := E_app hx hv hB hu h
abbrev t6c : VBlk := pqB 0 nilS nilS nilS
theorem stepW {p : Pb} {ss : List Int} {s i : Nat} (hi : i < p.who.length) (h : s < ss.length) (e : ss.getD s 0 = (i : Int)) : splice ((mpW p (inB (ss.take s))).map iW) (0 + ((i : Nat) : Int).toNat * 1) [iW (allW p.users)] = (mpW p (inB (ss.take (s + 1)))).map iW := by
  rw [Int.toNat_natCast, spl_W (by rw [mpW_len]; exact hi), mpW_set, inB_step h e]
theorem stepF {p : Pb} {ss : List Int} {s i : Nat} (hi : i < p.who.length) (h : s < ss.length) (e : ss.getD s 0 = (i : Int)) : splice ((mpF p (inB (ss.take s))).map iI) (0 + ((i : Nat) : Int).toNat * 1) [iI (-1)] = (mpF p (inB (ss.take (s + 1)))).map iI := by
  rw [Int.toNat_natCast, spl_I' (by rw [mpF_len]; exact hi), mpF_set, inB_step h e]
theorem stepWr {p : Pb} {ss : List Int} {s : Nat} (hi : s < p.who.length) (h : inB ss s = true) : splice ((mpW p (fun j => decide (j < s) && inB ss j)).map iW) (0 + ((s : Nat) : Int).toNat * 1) [iW (allW p.users)] = (mpW p (fun j => decide (j < s + 1) && inB ss j)).map iW := by
  rw [Int.toNat_natCast, spl_W (by rw [mpW_len]; exact hi), mpW_set, stp_yes h]
theorem stepFr {p : Pb} {ss : List Int} {s : Nat} (hi : s < p.who.length) (h : inB ss s = true) : splice ((mpF p (fun j => decide (j < s) && inB ss j)).map iI) (0 + ((s : Nat) : Int).toNat * 1) [iI (-1)] = (mpF p (fun j => decide (j < s + 1) && inB ss j)).map iI := by
  rw [Int.toNat_natCast, spl_I' (by rw [mpF_len]; exact hi), mpF_set, stp_yes h]
theorem endW {p : Pb} {ss : List Int} : mpW p (fun j => decide (j < p.who.length) && inB ss j) = mpW p (inB ss) := mpW_congr fun i hi => by rw [decide_eq_true hi, Bool.true_and]
theorem endF {p : Pb} {ss : List Int} : mpF p (fun j => decide (j < p.who.length) && inB ss j) = mpF p (inB ss) := mpF_congr fun i hi => by rw [decide_eq_true hi, Bool.true_and]
theorem beg_f {ss : List Int} : (fun j : Nat => decide (j < 0) && inB ss j) = fun _ => false := funext fun j => by rw [decide_eq_false (Nat.not_lt_zero j)]; rfl
theorem woP_0 {p : Pb} (g : Go.V.Good p) (h : p.who = []) : p.fixed = [] ∧ p.rules = [] := by
  refine ⟨List.eq_nil_of_length_eq_zero (by rw [g.fx, h]; rfl), ?_⟩
  cases hr : p.rules with
  | nil => rfl
  | cons r l =>
    have := g.ru r (by rw [hr]; simp)
    have h1 := (rck_steps this).1
    have h2 : ∀ x, x ∈ r.steps → 0 ≤ x ∧ x < (p.who.length : Int) := fun x hx => by
      unfold rck at this
      rw [Bool.and_eq_true, Bool.and_eq_true] at this
      have := riseA_mem _ _ this.2.1 x hx; omega
    cases hs : r.steps with
    | nil => exact absurd hs h1
    | cons x m => have := h2 x (by rw [hs]; simp); rw [h] at this; exact absurd this (by simp)
theorem ltB_0 {l : List Int} (h : ltB l 0 = true) : l = [] := by
  cases l with
  | nil => rfl
  | cons x m => have := ltB_mem.1 h x (by simp); omega
theorem woE_1 {p : Pb} {rs ss : List Int} (he : ¬ woE p rs ss = 0) (h : pck p = 0) : woE p rs ss = 1 := by
  unfold woE at he ⊢
  rw [if_neg (fun e => e h)] at he ⊢
  split at he
  · exact absurd rfl he
  · rename_i h2; rw [if_neg h2]
theorem woQ_0 {p : Pb} {rs ss : List Int} (g : Go.V.Good p) (h : p.who = []) : woQ p rs ss = (p.users, p.who, p.fixed, [], ()) := by
  obtain ⟨h1, h2⟩ := woP_0 g h
  have e : p.rules.length = 0 := by rw [h2]; rfl
  unfold woQ
  rw [List.eq_nil_of_length_eq_zero (l := mpW p (inB ss)) (by rw [mpW_len, h]; rfl), List.eq_nil_of_length_eq_zero (l := mpF p (inB ss)) (by rw [mpF_len, h]; rfl), List.eq_nil_of_length_eq_zero (l := mpR p rs p.rules.length) (by have := @mpR_len p rs p.rules.length; omega), h, h1]
theorem Without_e {x : SW} (H : VHeap) (p : Pb) (rv sv : VVal) (rs ss : List Int) (hp : PbL p) (hr : RD H rv rs) (hs : RD H sv ss) (hrl : rs.length ≤ 1000000) (hsl : ss.length ≤ 1000000) (he : ¬ woE p rs ss = 0) : F (psys x) 31 [.agg (pbB p), rv, sv] H fun v G => v = .tuple [.agg (pbB (woP p rs ss)), iI (woE p rs ss)] ∧ G = H := by
 refine F_body Tryd.func31 rfl u77 rfl ?_
 refine B_seq (B_region ?_)
 refine Lo u77 (v_boxT rfl rfl rfl) ?_
 refine Lo u77 (v_alloc rfl rfl) ?_
 refine Lo u77 (v_const (VVal.int .i64 0) (.inr rfl) rfl) ?_
 refine L_nil (K_seq (B_seq (B_seq ?_)))
 refine B_gh (Gh.freezePtrL (cs := pbB p) 3 0 rfl rfl rfl) ?_
 refine B_region ?_
 refine Lo u77 (W2h rfl rfl rfl rfl rfl) ?_
 refine L_call rfl rfl rfl (by exact sCheck_spec _ p hp) ?_
 rintro _ _ ⟨rfl, rfl⟩
 refine Le u77 ?_
 refine Lo u77 (v_move (.inr rfl) rfl) ?_
 refine L_nil (K_seq (B_seq (B_region ?_)))
 refine Lo u77 (v_move (.inl rfl) rfl) ?_
 refine Lo u77 (rfl) ?_
 refine L_nil (K_seq ?_)
 refine B_cond _ rfl (fun hc1 => ?_) (fun hc1 => ?_)
 ·try simp only [qB, qN] at hc1
  refine B_seq (B_region ?_)
  refine Lo u77 (rfl) ?_
  refine Lo u77 (v_move (.inl rfl) rfl) ?_
  refine Lo u77 (W13 rfl rfl rfl rfl rfl rfl rfl) ?_
  refine Lo u77 (v_move (.inr rfl) rfl) ?_
  refine L_nil (K_seq ?_)
  refine B_gh (Gh.cellNilL 1 1 (es' := 1) rfl rfl) ?_
  refine B_gh (Gh.cellNilL 1 2 (es' := 1) rfl rfl) ?_
  refine B_gh (Gh.cellNilL 1 3 (es' := 3) rfl rfl) ?_
  refine B_ret (K_seqR ?_)
  refine W5u (.inr rfl) (vres_cAt rfl rfl rfl rfl (by first | exact get_app rfl rfl | exact getB rfl rfl) (by first | rfl | assumption | exact fgetN (α := BitVec 64) 0 (by omega) | exact fgetN (α := Int) 0 (by omega) | exact rul_at (by omega) | exact rul_f2 (by omega) | exact rul_f0 (by omega) | exact rul_f1 (by omega)) rfl) ?_
  exact W5v
 ·try simp only [qB, qN] at hc1
  refine B_skip (K_seq (B_seq (B_seq (B_region ?_))))
  refine Lo u77 (v_move (.inl rfl) rfl) ?_
  refine Lo u77 (rfl) ?_
  refine Lo u77 (W2j rfl rfl rfl rfl) ?_
  refine Lo u77 (rfl) ?_
  refine L_call rfl rfl rfl (by exact cwithin_spec _ _ rs p.rules.length (by first | exact hr | exact hr.app _ | exact (hr.app _).app _ | exact ((hr.app _).app _).app _) hrl) ?_
  rintro _ _ ⟨rfl, rfl⟩
  refine Le u77 ?_
  refine Lo u77 (rfl) ?_
  refine Lo u77 (v_move (.inl rfl) rfl) ?_
  refine L_split 26 (env1 := u77) (env2 := u77) rfl rfl rfl (fun hg2 => ?_) (fun hg2 => ?_)
  ·try simp only [qB, qN] at hg2
   refine Lf u77 ?_
   refine Lf u77 ?_
   refine Lf u77 ?_
   refine Lf u77 ?_
   refine Lf u77 ?_
   refine Lf u77 ?_
   refine Lo u77 (v_pickTC (VVal.bool true) rfl rfl rfl) ?_
   refine L_nil (K_seq ?_)
   refine B_true rfl rfl ?_
   refine B_seq (B_region ?_)
   refine Lo u77 (rfl) ?_
   refine Lo u77 (W13 rfl rfl rfl rfl rfl rfl rfl) ?_
   refine Lo u77 (v_const (VVal.int .i64 1) (.inr rfl) rfl) ?_
   refine L_nil (K_seq ?_)
   refine B_gh (Gh.cellNilL 1 1 (es' := 1) rfl rfl) ?_
   refine B_gh (Gh.cellNilL 1 2 (es' := 1) rfl rfl) ?_
   refine B_gh (Gh.cellNilL 1 3 (es' := 3) rfl rfl) ?_
   refine B_ret (K_seqR ?_)
   refine W5u (.inr rfl) (vres_cAt rfl rfl rfl rfl (by first | exact get_app rfl rfl | exact getB rfl rfl) (by first | rfl | assumption | exact fgetN (α := BitVec 64) 0 (by omega) | exact fgetN (α := Int) 0 (by omega) | exact rul_at (by omega) | exact rul_f2 (by omega) | exact rul_f0 (by omega) | exact rul_f1 (by omega)) rfl) ?_
   exact W5v
  ·try simp only [qB, qN] at hg2
   refine Lo u77 (v_move (.inl rfl) rfl) ?_
   refine Lo u77 (rfl) ?_
   refine Lo u77 (W2j rfl rfl rfl rfl) ?_
   refine Lo u77 (rfl) ?_
   refine L_call rfl rfl rfl (by exact cwithin_spec _ _ ss p.who.length (by first | exact hs | exact hs.app _ | exact (hs.app _).app _ | exact ((hs.app _).app _).app _) hsl) ?_
   rintro _ _ ⟨rfl, rfl⟩
   refine Le u77 ?_
   refine Lo u77 (rfl) ?_
   refine Lo u77 (v_pickF rfl rfl rfl) ?_
   refine L_nil (K_seq ?_)
   refine B_cond _ rfl (fun hc3 => ?_) (fun hc3 => ?_)
   ·try simp only [qB, qN] at hc3
    refine B_seq (B_region ?_)
    refine Lo u77 (rfl) ?_
    refine Lo u77 (W13 rfl rfl rfl rfl rfl rfl rfl) ?_
    refine Lo u77 (v_const (VVal.int .i64 1) (.inr rfl) rfl) ?_
    refine L_nil (K_seq ?_)
    refine B_gh (Gh.cellNilL 1 1 (es' := 1) rfl rfl) ?_
    refine B_gh (Gh.cellNilL 1 2 (es' := 1) rfl rfl) ?_
    refine B_gh (Gh.cellNilL 1 3 (es' := 3) rfl rfl) ?_
    refine B_ret (K_seqR ?_)
    refine W5u (.inr rfl) (vres_cAt rfl rfl rfl rfl (by first | exact get_app rfl rfl | exact getB rfl rfl) (by first | rfl | assumption | exact fgetN (α := BitVec 64) 0 (by omega) | exact fgetN (α := Int) 0 (by omega) | exact rul_at (by omega) | exact rul_f2 (by omega) | exact rul_f0 (by omega) | exact rul_f1 (by omega)) rfl) ?_
    exact W5v
   ·try simp only [qB, qN] at hc3
    exfalso
    first | exact he (woE_ok.2 ⟨pck_good.1 (by assumption), by simpa using hg2, by simpa using hc3⟩) | simp_all
theorem Without_F {x : SW} (H : VHeap) (p : Pb) (rv sv : VVal) (rs ss : List Int) (hp : PbL p) (hr : RD H rv rs) (hs : RD H sv ss) (hrl : rs.length ≤ 1000000) (hsl : ss.length ≤ 1000000) (he : woE p rs ss = 0) (hne : 0 < p.who.length) : F (psys x) 31 [.agg (pbB p), rv, sv] H fun v G => v = .tuple [.agg (pbB (woP p rs ss)), iI (woE p rs ss)] ∧ G = H := by
 obtain ⟨g, hlr, hls⟩ := woE_ok.1 he
 have g5 := g.fx; have h4 := g.r32; have h6 := g.n12
 refine F_body Tryd.func31 rfl u77 rfl ?_
 refine B_seq (B_region ?_)
 refine Lo u77 (v_boxT rfl rfl rfl) ?_
 refine Lo u77 (v_alloc rfl rfl) ?_
 refine Lo u77 (v_const (VVal.int .i64 0) (.inr rfl) rfl) ?_
 refine L_nil (K_seq (B_seq (B_seq ?_)))
 refine B_gh (Gh.freezePtrL (cs := pbB p) 3 0 rfl rfl rfl) ?_
 refine B_region ?_
 refine Lo u77 (W2h rfl rfl rfl rfl rfl) ?_
 refine L_call rfl rfl rfl (by exact sCheck_spec _ p hp) ?_
 rintro _ _ ⟨rfl, rfl⟩
 refine Le u77 ?_
 refine Lo u77 (v_move (.inr rfl) rfl) ?_
 refine L_nil (K_seq (B_seq (B_region ?_)))
 refine Lo u77 (v_move (.inl rfl) rfl) ?_
 refine Lo u77 (v_is false rfl (by rw [pck_good.2 g]; rfl)) ?_
 refine L_nil (K_seq ?_)
 refine B_false rfl rfl ?_
 refine B_skip (K_seq (B_seq (B_seq (B_region ?_))))
 refine Lo u77 (v_move (.inl rfl) rfl) ?_
 refine Lo u77 (rfl) ?_
 refine Lo u77 (W2j rfl rfl rfl rfl) ?_
 refine Lo u77 (rfl) ?_
 refine L_call rfl rfl rfl (by exact cwithin_spec _ _ rs p.rules.length (by first | exact hr | exact hr.app _ | exact (hr.app _).app _ | exact ((hr.app _).app _).app _) hrl) ?_
 rintro v _ ⟨hv, rfl⟩; rw [hlr] at hv; subst hv
 refine Le u77 ?_
 refine Lo u77 (rfl) ?_
 refine Lo u77 (v_move (.inl rfl) rfl) ?_
 refine Lo u77 (v_move (.inl rfl) rfl) ?_
 refine Lo u77 (rfl) ?_
 refine Lo u77 (W2j rfl rfl rfl rfl) ?_
 refine Lo u77 (rfl) ?_
 refine L_call rfl rfl rfl (by exact cwithin_spec _ _ ss p.who.length (by first | exact hs | exact hs.app _ | exact (hs.app _).app _ | exact ((hs.app _).app _).app _) hsl) ?_
 rintro v _ ⟨hv, rfl⟩; rw [hls] at hv; subst hv
 refine Le u77 ?_
 refine Lo u77 (rfl) ?_
 refine Lo u77 (v_pickF rfl rfl rfl) ?_
 refine L_nil (K_seq ?_)
 refine B_false rfl rfl ?_
 refine B_skip (K_seq (B_seq (B_region ?_)))
 refine Lo u77 (W2h rfl rfl rfl rfl rfl) ?_
 refine L_call rfl rfl rfl (by exact Copy_L _ p hp (fun e => by rw [e] at hne; cases hne) (fun e => by rw [e] at g5; simp at g5; omega)) ?_
 rintro _ _ ⟨Y, j, k, rfl, rfl, hY1, hY2, hjk⟩
 refine Le u77 ?_
 refine Lo u77 (v_alloc rfl rfl) ?_
 refine Lo u77 (W13 rfl rfl rfl rfl rfl rfl rfl) ?_
 refine L_nil (K_seq (B_seq (B_region ?_)))
 refine Lo u77 (rfl) ?_
 refine Lo u77 (v_storeC (VVal.slice none 0 0 true 0) rfl rfl rfl rfl rfl rfl rfl (by first | exact get_app rfl rfl | exact get_out (by assumption) | exact getE0 rfl rfl | exact get_out (get_app rfl rfl) | exact get_app rfl (by assumption) | assumption | (simp only [List.append_assoc, List.singleton_append, List.cons_append, List.nil_append]; refine getE (i := 0) rfl ?_ rfl; simp; done) | (simp only [List.append_assoc, List.singleton_append, List.cons_append, List.nil_append]; refine getE (i := 1) rfl ?_ rfl; simp; done) | (simp only [List.append_assoc, List.singleton_append, List.cons_append, List.nil_append]; refine getE (i := 2) rfl ?_ rfl; simp; done) | (simp only [List.append_assoc, List.singleton_append, List.cons_append, List.nil_append]; refine getE (i := 3) rfl ?_ rfl; simp; done) | (simp [*]; done)) (by first | exact Nat.le_of_ble_eq_true rfl | (simp only [List.length_map, List.length_cons, List.length_nil]; omega) | omega | (simp; done) | (simp; omega)) (by first | exact setE0 rfl rfl | (simp only [List.append_assoc, List.singleton_append, List.cons_append, List.nil_append]; refine setE (i := 0) rfl ?_; simp; done) | (simp only [List.append_assoc, List.singleton_append, List.cons_append, List.nil_append]; refine setE (i := 1) rfl ?_; simp; done) | (simp only [List.append_assoc, List.singleton_append, List.cons_append, List.nil_append]; refine setE (i := 2) rfl ?_; simp; done) | (simp only [List.append_assoc, List.singleton_append, List.cons_append, List.nil_append]; refine setE (i := 3) rfl ?_; simp; done) | (refine setB rfl ?_; simp; done) | exact set_app rfl | exact set_out (lt_of_get (by assumption)) | rfl)) ?_
 refine L_nil (K_seq (B_seq (B_seq (B_region ?_))))
 refine Lo u77 (W2h rfl rfl rfl rfl rfl) ?_
 refine L_call rfl rfl rfl (by exact Copy_F _ p hp) ?_
 rintro _ _ ⟨rfl, rfl⟩
 refine Le u77 ?_
 refine Lo u77 (rfl) ?_
 refine Lo u77 (rfl) ?_
 refine Lo u77 (v_const (VVal.int .i64 0) (.inl rfl) rfl) ?_
 refine L_nil (K_seq (B_block ?_))
 refine B_clear (mk 77 151115727444132065443249) (env' := u77) rfl ?_
 refine B_loopE (fun (i : Nat) => p.rules.length - i) (fun (i : Nat) => [(42, iI (i : Nat))]) (fun (i : Nat) G => (i ≤ p.rules.length) ∧ ∃ lv X, G = ((H ++ [.dead, t6c]) ++ (Y ++ [.cells [iI p.users, .slice (some ((H ++ [.dead, t6c]).length + j, 0)) p.who.length p.who.length false 1, .slice (some ((H ++ [.dead, t6c]).length + k, 0)) p.fixed.length p.fixed.length false 1, lv] true])) ++ X ∧ LV (H.length + 2 + (Y.length + 1)) 3 X lv ((mpR p rs i).flatMap rlB) (mpR p rs i).length) 0 rfl ?_ ?_
 ·refine ⟨?_, ⟨_, [], by rw [List.append_nil]; rfl, LV.nil _ _ _⟩⟩
  exact Nat.zero_le _
 rintro i _ ⟨hi, ⟨lv, X, rfl, hl⟩⟩
 refine B_env (env' := u77) rfl ?_
 refine B_seq (B_region ?_)
 refine Lo u77 (rfl) ?_
 refine L_nil (K_seq (B_seq ?_))
 refine B_cond _ rfl (fun hc1 => ?_) (fun hc1 => ?_)
 ·try simp only [qB, qN] at hc1
  refine B_skip (K_seq (B_seq (B_block (B_seq (B_region ?_)))))
  refine Lo u77 (v_move (.inl rfl) rfl) ?_
  refine Lo u77 (W18 rfl rfl rfl rfl rfl rfl rfl) ?_
  refine Lo u77 (W2h rfl rfl rfl rfl rfl) ?_
  refine Lo u77 (v_alloc rfl rfl) ?_
  refine Lo u77 (v_move (.inr rfl) rfl) ?_
  refine Lo u77 (W13 rfl rfl rfl rfl rfl rfl rfl) ?_
  refine L_nil (K_seq (B_seq (B_region ?_)))
  refine Lo u77 (v_move (.inl rfl) rfl) ?_
  refine Lo u77 (v_move (.inl rfl) rfl) ?_
  refine L_call rfl rfl rfl (by exact Contains_spec _ _ rs i (by first | exact hr | exact hr.app _ | exact (hr.app _).app _ | exact ((hr.app _).app _).app _) hrl) ?_
  rintro _ _ ⟨rfl, rfl⟩
  refine Le u77 ?_
  refine Lo u77 (rfl) ?_
  refine L_nil (K_seq ?_)
  refine B_cond _ rfl (fun hc2 => ?_) (fun hc2 => ?_)
  ·try simp only [qB, qN] at hc2
   refine B_region ?_
   refine Lo u77 (rfl) ?_
   refine Lo u77 (W5y rfl rfl rfl rfl) ?_
   refine Lo u77 (W2h rfl rfl rfl rfl rfl) ?_
   refine Lo u77 (v_buildSlice rfl rfl (by decide) rfl) ?_
   refine L_opX rfl rfl (v_appXh rfl rfl rfl rfl rfl rfl rfl (by simp; omega) (hl.app _) rfl rfl (by decide) (by have := @mpR_len p rs i; show (_ + 1) * 40 ≤ _ ∧ _ + 1 ≤ _; omega) (by decide)) ?_
   rintro _ _ ⟨Y1, rfl, rfl, hX1, hX2, hX3⟩
   refine Le u77 ?_
   refine Lo u77 (rfl) ?_
   refine Lo u77 (W5z rfl rfl rfl rfl rfl rfl rfl) ?_
   refine L_nil (K_blk (K_seq (B_region ?_)))
   refine Lo u77 (W14 rfl rfl rfl) ?_
   refine Lo u77 (v_move (.inl rfl) rfl) ?_
   refine L_nil ?_
   refine K_loop (mk 77 151115727444132065443249) (env' := u77) rfl ⟨i + 1, ?_, rfl, ?_⟩
   ·first | omega | (simp only []; omega)
   ·first | exact ⟨by omega, _, _, rfl, by rw [mpR_step, if_neg (by simp_all)]; exact LV.pushF hX3⟩ | exact ⟨by omega, _, _, rfl, by rw [mpR_step, if_pos (by simp_all), List.append_nil]; exact hl.app _⟩
  ·try simp only [qB, qN] at hc2
   refine B_skip (K_blk (K_seq (B_region ?_)))
   refine Lo u77 (W14 rfl rfl rfl) ?_
   refine Lo u77 (v_move (.inl rfl) rfl) ?_
   refine L_nil ?_
   refine K_loop (mk 77 151115727444132065443249) (env' := u77) rfl ⟨i + 1, ?_, rfl, ?_⟩
   ·first | omega | (simp only []; omega)
   ·first | exact ⟨by omega, _, _, rfl, by rw [mpR_step, if_neg (by simp_all)]; exact LV.pushF hX3⟩ | exact ⟨by omega, _, _, rfl, by rw [mpR_step, if_pos (by simp_all), List.append_nil]; exact hl.app _⟩
 ·try simp only [qB, qN] at hc1
  refine B_exit (K_seqX (K_loopX (K_blkX (K_seq (B_seq (B_seq ?_))))))
  obtain rfl : i = p.rules.length := by omega
  refine B_ghCell (H := (H ++ [.dead, t6c])) (L := Y ++ [.cells [iI p.users, .slice (some ((H ++ [.dead, t6c]).length + j, 0)) p.who.length p.who.length false 1, .slice (some ((H ++ [.dead, t6c]).length + k, 0)) p.fixed.length p.fixed.length false 1, lv] true]) Y.length 3 hl get_end rfl (by simp; omega) fun X5 _ _ => ?_
  rw [set_end]
  refine B_heap (List.append_assoc _ _ _) ?_
  refine B_region ?_
  refine Lo u77 (v_move (.inl rfl) rfl) ?_
  refine Lo u77 (v_lenD rfl rfl rfl rfl hs) ?_
  refine Lo u77 (v_const (VVal.int .i64 0) (.inl rfl) rfl) ?_
  refine L_nil (K_seq (B_block ?_))
  refine B_clear (mk 77 151113709839195584855479) (env' := u77) rfl ?_
  refine B_loopE (fun (s : Nat) => ss.length - s) (fun (s : Nat) => [(60, iI (s : Nat))]) (fun (s : Nat) G => (s ≤ ss.length) ∧ ∃ Z, G = (H ++ [.dead, t6c]) ++ ((Z ++ [.cells [iI p.users, .slice (some ((H ++ [.dead, t6c]).length + j, 0)) p.who.length p.who.length false 1, .slice (some ((H ++ [.dead, t6c]).length + k, 0)) p.fixed.length p.fixed.length false 1, fzR (mpR p rs p.rules.length)] true]) ++ X5) ∧ Z.length = Y.length ∧ Z[j]? = some (.cells ((mpW p (inB (ss.take s))).map iW) true) ∧ Z[k]? = some (.cells ((mpF p (inB (ss.take s))).map iI) true)) 0 rfl ?_ ?_
  ·refine ⟨?_, ⟨Y, rfl, rfl, by rw [show inB (ss.take 0) = fun _ => false from rfl, mpW_no]; exact hY1, by rw [show inB (ss.take 0) = fun _ => false from rfl, mpF_no g5]; exact hY2⟩⟩
   exact Nat.zero_le _
  rintro s _ ⟨hs9, ⟨Z, rfl, hZl, hZ1, hZ2⟩⟩
  refine B_env (env' := u77) rfl ?_
  refine B_seq (B_region ?_)
  refine Lo u77 (rfl) ?_
  refine L_nil (K_seq (B_seq ?_))
  refine B_cond _ rfl (fun hc3 => ?_) (fun hc3 => ?_)
  ·try simp only [qB, qN] at hc3
   refine B_skip (K_seq (B_seq (B_block (B_seq (B_region ?_)))))
   refine L_opX rfl rfl (v_ixD rfl rfl rfl rfl rfl rfl rfl (hs.app _) (by omega) _) ?_
   rintro w _ ⟨rfl, hw⟩
   refine Le u77 ?_
   refine Lo u77 (v_ld rfl rfl rfl rfl hw.app) ?_
   refine Lo u77 (v_move (.inr rfl) rfl) ?_
   refine L_nil (K_seq ?_)
   obtain ⟨i, hi1, hi2⟩ := ltB_at hls (show s < ss.length by omega)
   rw [hi1]
   refine B_draw [0, 1, 2, 3, 4, 5, 6, 7, 8, 9, 10, 11, 12] #[0, 1, 0, 0, 8, 0, 0, 64, 192, 455, 967, 2047, 4095] (by kernel_rfl) (by kernel_rfl) (by kernel_rfl) ?_
   refine Oo u77 .calm rfl (rfl) ?_
   refine O_opI (env' := u77) (x := .look _ _) rfl rfl rfl (W61 rfl rfl rfl rfl) rfl rfl rfl ?_
   refine Oo u77 .calm rfl (v_move (.inl rfl) rfl) ?_
   refine Oo u77 .calm rfl (rfl) ?_
   refine O_opI (env' := u77) (x := .look _ _) rfl rfl rfl (W61 rfl rfl rfl rfl) rfl rfl rfl ?_
   refine Oo u77 .calm rfl (v_move (.inl rfl) rfl) ?_
   refine Oo u77 .calm rfl (rfl) ?_
   refine Oo u77 .look rfl (W2j rfl rfl rfl rfl) ?_
   refine O_call (env' := u77) rfl rfl rfl rfl rfl (by exact every_spec _ _ g.u0) (by first | exact Nat.le_refl _ | simp) rfl rfl ?_
   refine Oo u77 .calm rfl (W18 rfl rfl rfl rfl rfl rfl rfl) ?_
   refine O_opI (env' := u77) (x := .turn _ _) rfl rfl rfl (W62 rfl rfl rfl rfl rfl rfl rfl) rfl rfl rfl ?_
   refine Oo u77 .calm rfl (W18 rfl rfl rfl rfl rfl rfl rfl) ?_
   refine Oo u77 .turn rfl (v_storeC (VVal.int .i64 (-1)) rfl rfl rfl rfl rfl rfl rfl (by exact get_app rfl (get_append (get_append (by rw [List.getElem?_set_ne hjk]; exact hZ2)))) (by show 0 + ((i : Nat) : Int).toNat * 1 + 1 ≤ _; rw [List.length_map, mpF_len]; omega) (by exact (set_app rfl).trans (by rw [set_out (by simp; have := lt_of_get hZ2; omega), set_out (by rw [List.length_set]; exact lt_of_get hZ2)]))) ?_
   refine O_nilP [(1, 8), (4, 8), (4, 10)] (by kernel_rfl) (And.intro ⟨_, _, _, _, ⟨(gA (gA (gA (gA (gA (gA (gA (gA (gA (gA (gA (gL (by kernel_rfl))))))))))))), (gA (gA (gA (gA (gL (by kernel_rfl)))))), And.intro (W61 rfl rfl rfl rfl) (W61 rfl rfl rfl rfl)⟩⟩ (And.intro ⟨_, _, _, _, ⟨(gA (gA (gA (gA (gA (gA (gA (gA (gL (by kernel_rfl)))))))))), (gA (gA (gA (gA (gL (by kernel_rfl)))))), And.intro (W61 rfl rfl rfl rfl) (W61 rfl rfl rfl rfl)⟩⟩ (And.intro ⟨_, _, _, _, ⟨(gA (gA (gA (gA (gA (gA (gA (gA (gL (by kernel_rfl)))))))))), (gA (gA (gL (by kernel_rfl)))), And.intro (W61 rfl rfl rfl rfl) (W61 rfl rfl rfl rfl)⟩⟩ (trivial)))) ?_
   refine K_blk (K_seq (B_region ?_))
   refine Lo u77 (W14 rfl rfl rfl) ?_
   refine Lo u77 (v_move (.inl rfl) rfl) ?_
   refine L_nil ?_
   refine K_loop (mk 77 151113709839195584855479) (env' := u77) rfl ⟨s + 1, ?_, rfl, ?_⟩
   ·first | omega | (simp only []; omega)
   ·exact ⟨by omega, _, rfl, by rw [List.length_set, List.length_set]; exact hZl, by rw [List.getElem?_set_ne (Ne.symm hjk), List.getElem?_set_self (lt_of_get hZ1)]; exact congrArg (fun l => some (VBlk.cells l true)) (stepW hi2 (by omega) hi1), by rw [List.getElem?_set_self (by rw [List.length_set]; exact lt_of_get hZ2)]; exact congrArg (fun l => some (VBlk.cells l true)) (stepF hi2 (by omega) hi1)⟩
  ·try simp only [qB, qN] at hc3
   refine B_exit (K_seqX (K_loopX (K_blkX (K_seq (B_seq ?_)))))
   obtain rfl : s = ss.length := by omega
   rw [List.take_length] at hZ1 hZ2
   have hjl := lt_of_get hZ1; have hkl := lt_of_get hZ2
   refine B_gh (Gh.cellL (H := (H ++ [.dead, t6c])) (l := (mpW p (inB ss)).map iW) Y.length 1 j (get_append (get_endE hZl)) rfl (by omega) (get_append (get_append hZ1)) (cellsAt_all (by rw [List.length_map, mpW_len])) (Nat.le_refl _)) ?_
   refine B_gh (Gh.cellL (H := (H ++ [.dead, t6c])) (l := (mpF p (inB ss)).map iI) Y.length 2 k (List.getElem?_set_self (by simp; omega)) rfl (by omega) (by rw [List.getElem?_set_ne (by omega), List.getElem?_set_ne hjk]; exact get_append (get_append hZ2)) (cellsAt_all (by rw [List.length_map, mpF_len, g5])) (Nat.le_refl _)) ?_
   refine B_region ?_
   refine Lo u77 (W63 rfl rfl rfl rfl rfl) ?_
   refine Lo u77 (W64 rfl rfl rfl rfl rfl rfl rfl) ?_
   refine Lo u77 (v_const (VVal.int .i64 0) (.inr rfl) rfl) ?_
   refine L_nil (K_seq ?_)
   refine B_heap (List.append_assoc _ _ _) ?_
   refine B_ret ?_
   refine W65 (.inr rfl) (vres_cAt rfl rfl rfl rfl (by first | exact get_app rfl rfl | exact getB rfl rfl) (by first | rfl | assumption | exact fgetN (α := BitVec 64) 0 (by omega) | exact fgetN (α := Int) 0 (by omega) | exact rul_at (by omega) | exact rul_f2 (by omega) | exact rul_f0 (by omega) | exact rul_f1 (by omega)) rfl) ?_
   exact ⟨by rw [he, woP_ok he]; show _ = VVal.tuple [.agg [iI p.users, .fsl ((mpW p (inB ss)).map iW) (mpW p (inB ss)).length 1 false, .fsl ((mpF p (inB ss)).map iI) (mpF p (inB ss)).length 1 false, fzR (mpR p rs p.rules.length)], iI 0]; rw [mpW_len, mpF_len, g5]; rfl, rfl⟩
theorem Without_0 {x : SW} (H : VHeap) (p : Pb) (rv sv : VVal) (rs ss : List Int) (hp : PbL p) (hr : RD H rv rs) (hs : RD H sv ss) (hrl : rs.length ≤ 1000000) (hsl : ss.length ≤ 1000000) (he : woE p rs ss = 0) (h0 : p.who = []) : F (psys x) 31 [.agg (pbB p), rv, sv] H fun v G => v = .tuple [.agg (pbB (woP p rs ss)), iI (woE p rs ss)] ∧ G = H := by
 obtain ⟨g, hlr, hls⟩ := woE_ok.1 he
 obtain ⟨h1, h2⟩ := woP_0 g h0
 have h3 : ss = [] := ltB_0 (by rw [h0] at hls; exact hls)
 refine F_body Tryd.func31 rfl u77 rfl ?_
 refine B_seq (B_region ?_)
 refine Lo u77 (v_boxT rfl rfl rfl) ?_
 refine Lo u77 (v_alloc rfl rfl) ?_
 refine Lo u77 (v_const (VVal.int .i64 0) (.inr rfl) rfl) ?_
 refine L_nil (K_seq (B_seq (B_seq ?_)))
 refine B_gh (Gh.freezePtrL (cs := pbB p) 3 0 rfl rfl rfl) ?_
 refine B_region ?_
 refine Lo u77 (W2h rfl rfl rfl rfl rfl) ?_
 refine L_call rfl rfl rfl (by exact sCheck_spec _ p hp) ?_
 rintro _ _ ⟨rfl, rfl⟩
 refine Le u77 ?_
 refine Lo u77 (v_move (.inr rfl) rfl) ?_
 refine L_nil (K_seq (B_seq (B_region ?_)))
 refine Lo u77 (v_move (.inl rfl) rfl) ?_
 refine Lo u77 (v_is false rfl (by rw [pck_good.2 g]; rfl)) ?_
 refine L_nil (K_seq ?_)
 refine B_false rfl rfl ?_
 refine B_skip (K_seq (B_seq (B_seq (B_region ?_))))
 refine Lo u77 (v_move (.inl rfl) rfl) ?_
 refine Lo u77 (rfl) ?_
 refine Lo u77 (W2j rfl rfl rfl rfl) ?_
 refine Lo u77 (rfl) ?_
 refine L_call rfl rfl rfl (by exact cwithin_spec _ _ rs p.rules.length (by first | exact hr | exact hr.app _ | exact (hr.app _).app _ | exact ((hr.app _).app _).app _) hrl) ?_
 rintro v _ ⟨hv, rfl⟩; rw [hlr] at hv; subst hv
 refine Le u77 ?_
 refine Lo u77 (rfl) ?_
 refine Lo u77 (v_move (.inl rfl) rfl) ?_
 refine Lo u77 (v_move (.inl rfl) rfl) ?_
 refine Lo u77 (rfl) ?_
 refine Lo u77 (W2j rfl rfl rfl rfl) ?_
 refine Lo u77 (rfl) ?_
 refine L_call rfl rfl rfl (by exact cwithin_spec _ _ ss p.who.length (by first | exact hs | exact hs.app _ | exact (hs.app _).app _ | exact ((hs.app _).app _).app _) hsl) ?_
 rintro v _ ⟨hv, rfl⟩; rw [hls] at hv; subst hv
 refine Le u77 ?_
 refine Lo u77 (rfl) ?_
 refine Lo u77 (v_pickF rfl rfl rfl) ?_
 refine L_nil (K_seq ?_)
 refine B_false rfl rfl ?_
 refine B_skip (K_seq (B_seq (B_region ?_)))
 refine Lo u77 (W2h rfl rfl rfl rfl rfl) ?_
 refine L_call rfl rfl rfl (by exact Copy_F _ p hp) ?_
 rintro _ _ ⟨rfl, rfl⟩
 refine Le u77 ?_
 refine Lo u77 (v_alloc rfl rfl) ?_
 refine Lo u77 (W13 rfl rfl rfl rfl rfl rfl rfl) ?_
 refine L_nil (K_seq (B_seq (B_region ?_)))
 refine Lo u77 (rfl) ?_
 refine Lo u77 (v_storeC (VVal.slice none 0 0 true 0) rfl rfl rfl rfl rfl rfl rfl (by first | exact get_app rfl rfl | exact get_out (by assumption) | exact getE0 rfl rfl | exact get_out (get_app rfl rfl) | exact get_app rfl (by assumption) | assumption | (simp only [List.append_assoc, List.singleton_append, List.cons_append, List.nil_append]; refine getE (i := 0) rfl ?_ rfl; simp; done) | (simp only [List.append_assoc, List.singleton_append, List.cons_append, List.nil_append]; refine getE (i := 1) rfl ?_ rfl; simp; done) | (simp only [List.append_assoc, List.singleton_append, List.cons_append, List.nil_append]; refine getE (i := 2) rfl ?_ rfl; simp; done) | (simp only [List.append_assoc, List.singleton_append, List.cons_append, List.nil_append]; refine getE (i := 3) rfl ?_ rfl; simp; done) | (simp [*]; done)) (by first | exact Nat.le_of_ble_eq_true rfl | (simp only [List.length_map, List.length_cons, List.length_nil]; omega) | omega | (simp; done) | (simp; omega)) (by first | exact setE0 rfl rfl | (simp only [List.append_assoc, List.singleton_append, List.cons_append, List.nil_append]; refine setE (i := 0) rfl ?_; simp; done) | (simp only [List.append_assoc, List.singleton_append, List.cons_append, List.nil_append]; refine setE (i := 1) rfl ?_; simp; done) | (simp only [List.append_assoc, List.singleton_append, List.cons_append, List.nil_append]; refine setE (i := 2) rfl ?_; simp; done) | (simp only [List.append_assoc, List.singleton_append, List.cons_append, List.nil_append]; refine setE (i := 3) rfl ?_; simp; done) | (refine setB rfl ?_; simp; done) | exact set_app rfl | exact set_out (lt_of_get (by assumption)) | rfl)) ?_
 refine L_nil (K_seq (B_seq (B_seq ?_)))
 refine B_gh (Gh.cellNilL 2 3 (es' := 3) rfl rfl) ?_
 refine B_region ?_
 refine Lo u77 (W2h rfl rfl rfl rfl rfl) ?_
 refine L_call rfl rfl rfl (by exact Copy_F _ p hp) ?_
 rintro _ _ ⟨rfl, rfl⟩
 refine Le u77 ?_
 refine Lo u77 (rfl) ?_
 refine Lo u77 (rfl) ?_
 refine Lo u77 (v_const (VVal.int .i64 0) (.inl rfl) rfl) ?_
 refine L_nil (K_seq (B_block ?_))
 refine B_clear (mk 77 151115727444132065443249) (env' := u77) rfl ?_
 refine B_loopE (fun (i : Nat) => p.rules.length - i) (fun (i : Nat) => [(42, iI (i : Nat))]) (fun (i : Nat) G => (i ≤ p.rules.length) ∧ G = H ++ [.dead, t6c, .cells [iI p.users, fzW p.who, fzI p.fixed, .fsl [] 0 3 false] true]) 0 rfl ?_ ?_
 ·refine ⟨?_, rfl⟩
  exact Nat.zero_le _
 rintro i _ ⟨hi, rfl⟩
 refine B_env (env' := u77) rfl ?_
 refine B_seq (B_region ?_)
 refine Lo u77 (rfl) ?_
 refine L_nil (K_seq (B_seq ?_))
 refine B_cond _ rfl (fun hc1 => ?_) (fun hc1 => ?_)
 ·try simp only [qB, qN] at hc1
  exfalso
  rw [h2] at hc1; simp at hc1; omega
 ·try simp only [qB, qN] at hc1
  refine B_exit (K_seqX (K_loopX (K_blkX (K_seq (B_seq (B_seq (B_region ?_)))))))
  refine Lo u77 (v_move (.inl rfl) rfl) ?_
  refine Lo u77 (v_lenD rfl rfl rfl rfl hs) ?_
  refine Lo u77 (v_const (VVal.int .i64 0) (.inl rfl) rfl) ?_
  refine L_nil (K_seq (B_block ?_))
  refine B_clear (mk 77 151113709839195584855479) (env' := u77) rfl ?_
  refine B_loopE (fun (s : Nat) => ss.length - s) (fun (s : Nat) => [(60, iI (s : Nat))]) (fun (s : Nat) G => (s ≤ ss.length) ∧ G = H ++ [.dead, t6c, .cells [iI p.users, fzW p.who, fzI p.fixed, .fsl [] 0 3 false] true]) 0 rfl ?_ ?_
  ·refine ⟨?_, rfl⟩
   exact Nat.zero_le _
  rintro s _ ⟨hs9, rfl⟩
  refine B_env (env' := u77) rfl ?_
  refine B_seq (B_region ?_)
  refine Lo u77 (rfl) ?_
  refine L_nil (K_seq (B_seq ?_))
  refine B_cond _ rfl (fun hc2 => ?_) (fun hc2 => ?_)
  ·try simp only [qB, qN] at hc2
   exfalso
   rw [h3] at hc2; simp at hc2; omega
  ·try simp only [qB, qN] at hc2
   refine B_exit (K_seqX (K_loopX (K_blkX (K_seq (B_seq (B_region ?_))))))
   refine Lo u77 (W2h rfl rfl rfl rfl rfl) ?_
   refine Lo u77 (W13 rfl rfl rfl rfl rfl rfl rfl) ?_
   refine Lo u77 (v_const (VVal.int .i64 0) (.inr rfl) rfl) ?_
   refine L_nil (K_seq (B_ret ?_))
   refine W66 (.inr rfl) (vres_cAt rfl rfl rfl rfl (by first | exact get_app rfl rfl | exact getB rfl rfl) (by first | rfl | assumption | exact fgetN (α := BitVec 64) 0 (by omega) | exact fgetN (α := Int) 0 (by omega) | exact rul_at (by omega) | exact rul_f2 (by omega) | exact rul_f0 (by omega) | exact rul_f1 (by omega)) rfl) ?_
   exact ⟨by rw [he, woP_ok he, woQ_0 g h0]; rfl, rfl⟩
theorem Without_spec {x : SW} (H : VHeap) (p : Pb) (rv sv : VVal) (rs ss : List Int) (hp : PbL p) (hr : RD H rv rs) (hs : RD H sv ss) (hrl : rs.length ≤ 1000000) (hsl : ss.length ≤ 1000000) : F (psys x) 31 [.agg (pbB p), rv, sv] H fun v G => v = .tuple [.agg (pbB (woP p rs ss)), iI (woE p rs ss)] ∧ G = H := by
  by_cases he : woE p rs ss = 0
  · by_cases h0 : p.who.length = 0
    · exact Without_0 H p rv sv rs ss hp hr hs hrl hsl he (List.eq_nil_of_length_eq_zero h0)
    · exact Without_F H p rv sv rs ss hp hr hs hrl hsl he (by omega)
  · exact Without_e H p rv sv rs ss hp hr hs hrl hsl he
end Go.Proofs.YtalmjnkcibgclaaDoor.VT

set_option autoImplicit false
set_option linter.unusedVariables false
set_option linter.unusedSimpArgs false
set_option maxHeartbeats 4000000
set_option maxRecDepth 100000
namespace Go.Proofs.YtalmjnkcibgclaaDoor.VT
open Go Go.V Go.RowKit
abbrev u56 {a0 a1 a2 a3 a4 a5 a6 a7 a8 a9 a10 a11 a12 a13 a14 a15 a16 a17 a18 a19 a20 a21 a22 a23 a24 a25 a26 a27 a28 a29 a30 a31 a32 a33 a34 a35 a36 a37 a38 a39 a40 a41 a42 a43 a44 a45 a46 a47 a48 a49 a50 a51 a52 a53 a54 a55 : VVal} : VEnv := a0 :: a1 :: a2 :: a3 :: a4 :: a5 :: a6 :: a7 :: a8 :: a9 :: a10 :: a11 :: a12 :: a13 :: a14 :: a15 :: a16 :: a17 :: a18 :: a19 :: a20 :: a21 :: a22 :: a23 :: a24 :: a25 :: a26 :: a27 :: a28 :: a29 :: a30 :: a31 :: a32 :: a33 :: a34 :: a35 :: a36 :: a37 :: a38 :: a39 :: a40 :: a41 :: a42 :: a43 :: a44 :: a45 :: a46 :: a47 :: a48 :: a49 :: a50 :: a51 :: a52 :: a53 :: a54 :: a55 :: []
theorem W6d {S : V.Sys} {H : VHeap} {fn : Func} {ex : Exit} {env : VEnv} {B L : VHeap} {v : VVal} {R : VVal → VHeap → Prop} (hx : ex = .normal ∨ ex = .ret) (hv : vresults S.C.T env (B ++ L) fn.results = some v) (h : R v B) (hB : BaseOk H B := by first | exact BaseOk.refl _ | exact BaseOk.set (BaseOk.refl _) _ rfl) (hu : v.under H.length = true := by exact pb_under (p := (a1, [], [], [], ()))) : fnK S fn H R ex env (B ++ L) := E_app hx hv hB hu h
theorem Twin_L {x : SW} (H : VHeap) (p : Pb) (hp : PbL p) (hne : 0 < p.fixed.length) (hnw : 0 < p.who.length) (hst : ∀ r, r ∈ p.rules → 0 < r.steps.length) : F (psys x) 76 [.agg (pbB p)] H (CwR H p) := by
 have h1 := hp.w; have h2 := hp.f; have h3 := hp.r; have h4 := hp.s
 refine F_body Tryd.func76 rfl u56 rfl ?_
 refine B_seq (B_region ?_)
 refine Lo u56 (v_boxT rfl rfl rfl) ?_
 refine Lo u56 (v_alloc rfl rfl) ?_
 refine L_nil (K_seq (B_seq ?_))
 refine B_gh (Gh.freezePtrL (cs := pbB p) 1 0 rfl rfl rfl) ?_
 refine B_region ?_
 refine Lo u56 (rfl) ?_
 refine Lo u56 (W2j rfl rfl rfl rfl) ?_
 refine Lo u56 (rfl) ?_
 refine Lo u56 (v_alloc rfl rfl) ?_
 refine Lo u56 (W13 rfl rfl rfl rfl rfl rfl rfl) ?_
 refine L_nil (K_seq (B_seq (B_region ?_)))
 refine Lo u56 (rfl) ?_
 refine Lo u56 (W2j rfl rfl rfl rfl) ?_
 refine Lo u56 (rfl) ?_
 refine Lo u56 (W2j rfl rfl rfl rfl) ?_
 refine Lo u56 (v_appNF rfl rfl rfl rfl rfl rfl rfl (by rw [List.length_map]; exact (Nat.mul_one _).symm) (mapW_one _) (by decide) hnw (by show p.who.length * 8 ≤ _ ∧ _; omega)) ?_
 refine Lo u56 (rfl) ?_
 refine Lo u56 (W13 rfl rfl rfl rfl rfl rfl rfl) ?_
 refine L_nil (K_seq (B_seq (B_region ?_)))
 refine Lo u56 (rfl) ?_
 refine Lo u56 (W2j rfl rfl rfl rfl) ?_
 refine Lo u56 (rfl) ?_
 refine Lo u56 (W2j rfl rfl rfl rfl) ?_
 refine Lo u56 (v_appNF rfl rfl rfl rfl rfl rfl rfl (by rw [List.length_map]; exact (Nat.mul_one _).symm) (mapI_one _) (by decide) hne (by show p.fixed.length * 8 ≤ _ ∧ _; omega)) ?_
 refine Lo u56 (rfl) ?_
 refine Lo u56 (W13 rfl rfl rfl rfl rfl rfl rfl) ?_
 refine L_nil (K_seq (B_seq (B_seq (B_region ?_))))
 refine Lo u56 (v_const (VVal.int .i64 0) (.inr rfl) rfl) ?_
 refine L_nil (K_seq (B_block ?_))
 refine B_clear (mk 56 72057594037927905) (env' := u56) rfl ?_
 refine B_loopE (fun (k : Nat) => p.rules.length - k) (fun (k : Nat) => [(4, iI (k : Nat))]) (fun (k : Nat) G => (k ≤ p.rules.length) ∧ ∃ lv X, G = (H ++ [.dead, pqB 0 nilS nilS nilS, .cells [iI p.users, .slice (some (H.length + 3, 0)) p.who.length p.who.length false 1, .slice (some (H.length + 4, 0)) p.fixed.length p.fixed.length false 1, lv] true, .cells (p.who.map iW) true, .cells (p.fixed.map iI) true]) ++ X ∧ LV (H.length + 5) 3 X lv ((p.rules.take k).flatMap rlB) (p.rules.take k).length) 0 rfl ?_ ?_
 ·refine ⟨?_, ⟨_, [], by rw [List.append_nil]; rfl, LV.nil _ _ _⟩⟩
  exact Nat.zero_le _
 rintro k _ ⟨hk, ⟨lv, X, rfl, hl⟩⟩
 refine B_env (env' := u56) rfl ?_
 refine B_seq (B_seq (B_region ?_))
 refine Lo u56 (v_move (.inl rfl) rfl) ?_
 refine Lo u56 (rfl) ?_
 refine Lo u56 (W2j rfl rfl rfl rfl) ?_
 refine Lo u56 (rfl) ?_
 refine Lo u56 (rfl) ?_
 refine L_nil (K_seq ?_)
 refine B_cond _ rfl (fun hc1 => ?_) (fun hc1 => ?_)
 ·try simp only [qB, qN] at hc1
  refine B_skip (K_seq (B_seq (B_block (B_seq (B_region ?_)))))
  refine Lo u56 (v_const (VVal.slice none 0 0 true 0) (.inr rfl) rfl) ?_
  refine L_nil (K_seq (B_seq ?_))
  have hr1 := rul_mem (l := p.rules) (k := k) (by omega)
  have hs1 := h4 _ hr1
  have hs2 := hst _ hr1
  refine B_region ?_
  refine Lo u56 (v_move (.inl rfl) rfl) ?_
  refine Lo u56 (rfl) ?_
  refine Lo u56 (W2j rfl rfl rfl rfl) ?_
  refine Lo u56 (v_move (.inl rfl) rfl) ?_
  refine Lo u56 (W18 rfl rfl rfl rfl rfl rfl rfl) ?_
  refine Lo u56 (rfl) ?_
  refine Lo u56 (W2j rfl rfl rfl rfl) ?_
  refine Lo u56 (v_appNF rfl rfl rfl rfl rfl rfl rfl (by rw [List.length_map]; exact (Nat.mul_one _).symm) (mapI_one _) (by decide) hs2 (by show (p.rules.getD k r0).steps.length * 8 ≤ _ ∧ _; omega)) ?_
  refine Lo u56 (v_move (.inr rfl) rfl) ?_
  refine L_nil (K_seq ?_)
  refine B_gh (Gh.freezeL (l := (p.rules.getD k r0).steps.map iI) 5 X.length rfl get_end map_all (Nat.le_refl _) rfl) ?_
  rw [set_end]
  refine B_draw [0, 1, 2, 3, 4, 5, 6, 7, 8, 9, 10, 11, 12, 13, 14, 15, 16, 17, 18, 19] #[0, 1, 0, 4, 0, 28, 60, 124, 0, 256, 0, 1792, 3840, 7936, 0, 32764, 65532, 131071, 262143, 524287] (by kernel_rfl) (by kernel_rfl) (by kernel_rfl) ?_
  refine Oo u56 .calm rfl (rfl) ?_
  refine Oo u56 .look rfl (W2j rfl rfl rfl rfl) ?_
  refine Oo u56 .calm rfl (rfl) ?_
  refine Oo u56 .look rfl (W2j rfl rfl rfl rfl) ?_
  refine Oo u56 .calm rfl (v_move (.inl rfl) rfl) ?_
  refine Oo u56 .calm rfl (W18 rfl rfl rfl rfl rfl rfl rfl) ?_
  refine Oo u56 .calm rfl (rfl) ?_
  refine Oo u56 .look rfl (W2j rfl rfl rfl rfl) ?_
  refine Oo u56 .calm rfl (rfl) ?_
  refine Oo u56 .look rfl (W2j rfl rfl rfl rfl) ?_
  refine Oo u56 .calm rfl (v_move (.inl rfl) rfl) ?_
  refine Oo u56 .calm rfl (W18 rfl rfl rfl rfl rfl rfl rfl) ?_
  refine Oo u56 .calm rfl (rfl) ?_
  refine Oo u56 .look rfl (W2j rfl rfl rfl rfl) ?_
  refine Oo u56 .calm rfl (v_move (.inl rfl) rfl) ?_
  refine Oo u56 .calm rfl (rfl) ?_
  refine Oo u56 .grow rfl (v_buildSlice rfl rfl (by decide) rfl) ?_
  refine O_opX .turn rfl rfl rfl (v_appXh rfl rfl rfl rfl rfl rfl rfl (by simp) (hl.app _) rfl rfl (by decide) (by rw [List.length_take]; show (_ + 1) * 40 ≤ _ ∧ _ + 1 ≤ _; omega) (by decide)) rfl rfl ?_
  rintro _ _ ⟨Y1, rfl, rfl, hY1, hY2, hY3⟩
  refine O_env (env' := u56) rfl ?_
  refine Oo u56 .calm rfl (rfl) ?_
  refine Oo u56 .turn rfl (W13 rfl rfl rfl rfl rfl rfl rfl) ?_
  refine O_nil [] (by kernel_rfl) (trivial) ?_
  refine K_blk (K_seq (B_region ?_))
  refine Lo u56 (v_move (.inl rfl) rfl) ?_
  refine Lo u56 (W14 rfl rfl rfl) ?_
  refine Lo u56 (v_move (.inr rfl) rfl) ?_
  refine L_nil ?_
  refine K_loop (mk 56 72057594037927905) (env' := u56) rfl ⟨k + 1, ?_, rfl, ?_⟩
  ·first | omega | (simp only []; omega)
  ·exact ⟨by omega, _, _, rfl, by rw [take_at (d := r0) (by omega)]; exact LV.pushF hY3⟩
 ·try simp only [qB, qN] at hc1
  refine B_exit (K_seqX (K_loopX (K_blkX (K_seq (B_seq ?_)))))
  obtain rfl : k = p.rules.length := by omega
  rw [List.take_length] at hl
  refine B_ghCell 2 3 hl rfl rfl (by simp) fun X5 _ _ => ?_
  refine B_heap (List.append_assoc _ _ _) ?_
  refine B_region ?_
  refine Lo u56 (W2h rfl rfl rfl rfl rfl) ?_
  refine Lo u56 (W13 rfl rfl rfl rfl rfl rfl rfl) ?_
  refine L_nil (K_seq (B_ret ?_))
  refine E_keep (.inr rfl) (vres_cellA rfl rfl rfl rfl (by first | exact get_app rfl rfl | exact get_out (by assumption) | exact getE0 rfl rfl | exact get_out (get_app rfl rfl) | exact get_app rfl (by assumption) | assumption | (simp only [List.append_assoc, List.singleton_append, List.cons_append, List.nil_append]; refine getE (i := 0) rfl ?_ rfl; simp; done) | (simp only [List.append_assoc, List.singleton_append, List.cons_append, List.nil_append]; refine getE (i := 1) rfl ?_ rfl; simp; done) | (simp only [List.append_assoc, List.singleton_append, List.cons_append, List.nil_append]; refine getE (i := 2) rfl ?_ rfl; simp; done) | (simp only [List.append_assoc, List.singleton_append, List.cons_append, List.nil_append]; refine getE (i := 3) rfl ?_ rfl; simp; done) | (simp [*]; done)) (by first | rfl | assumption | exact fgetN (α := BitVec 64) 0 (by omega) | exact fgetN (α := Int) 0 (by omega) | exact rul_at (by omega) | exact rul_f2 (by omega) | exact rul_f0 (by omega) | exact rul_f1 (by omega))) ?_
  exact ⟨_, 3, 4, rfl, rfl, rfl, rfl, by decide⟩
theorem Twin_F {x : SW} (H : VHeap) (p : Pb) (hp : PbL p) (hne : 0 < p.fixed.length) (hnw : 0 < p.who.length) (hst : ∀ r, r ∈ p.rules → 0 < r.steps.length) : F (psys x) 76 [.agg (pbB p)] H fun v G => v = .agg (pbB p) ∧ G = H := by
 have h1 := hp.w; have h2 := hp.f; have h3 := hp.r; have h4 := hp.s
 refine F_body Tryd.func76 rfl u56 rfl ?_
 refine B_seq (B_region ?_)
 refine Lo u56 (v_boxT rfl rfl rfl) ?_
 refine Lo u56 (v_alloc rfl rfl) ?_
 refine L_nil (K_seq (B_seq ?_))
 refine B_gh (Gh.freezePtrL (cs := pbB p) 1 0 rfl rfl rfl) ?_
 refine B_region ?_
 refine Lo u56 (rfl) ?_
 refine Lo u56 (W2j rfl rfl rfl rfl) ?_
 refine Lo u56 (rfl) ?_
 refine Lo u56 (v_alloc rfl rfl) ?_
 refine Lo u56 (W13 rfl rfl rfl rfl rfl rfl rfl) ?_
 refine L_nil (K_seq (B_seq (B_region ?_)))
 refine Lo u56 (rfl) ?_
 refine Lo u56 (W2j rfl rfl rfl rfl) ?_
 refine Lo u56 (rfl) ?_
 refine Lo u56 (W2j rfl rfl rfl rfl) ?_
 refine Lo u56 (v_appNF rfl rfl rfl rfl rfl rfl rfl (by rw [List.length_map]; exact (Nat.mul_one _).symm) (mapW_one _) (by decide) hnw (by show p.who.length * 8 ≤ _ ∧ _; omega)) ?_
 refine Lo u56 (rfl) ?_
 refine Lo u56 (W13 rfl rfl rfl rfl rfl rfl rfl) ?_
 refine L_nil (K_seq (B_seq ?_))
 refine B_gh (Gh.cellL (l := p.who.map iW) 2 1 3 rfl rfl (by decide) rfl wApp_c (Nat.le_refl _)) ?_
 refine B_region ?_
 refine Lo u56 (rfl) ?_
 refine Lo u56 (W2j rfl rfl rfl rfl) ?_
 refine Lo u56 (rfl) ?_
 refine Lo u56 (W2j rfl rfl rfl rfl) ?_
 refine Lo u56 (v_appNF rfl rfl rfl rfl rfl rfl rfl (by rw [List.length_map]; exact (Nat.mul_one _).symm) (mapI_one _) (by decide) hne (by show p.fixed.length * 8 ≤ _ ∧ _; omega)) ?_
 refine Lo u56 (rfl) ?_
 refine Lo u56 (W13 rfl rfl rfl rfl rfl rfl rfl) ?_
 refine L_nil (K_seq (B_seq (B_seq ?_)))
 refine B_gh (Gh.cellL (l := p.fixed.map iI) 2 2 4 rfl rfl (by decide) rfl map_all (Nat.le_refl _)) ?_
 refine B_region ?_
 refine Lo u56 (v_const (VVal.int .i64 0) (.inr rfl) rfl) ?_
 refine L_nil (K_seq (B_block ?_))
 refine B_clear (mk 56 72057594037927905) (env' := u56) rfl ?_
 refine B_loopE (fun (k : Nat) => p.rules.length - k) (fun (k : Nat) => [(4, iI (k : Nat))]) (fun (k : Nat) G => (k ≤ p.rules.length) ∧ ∃ lv X, G = (H ++ [.dead, pqB 0 nilS nilS nilS, .cells [iI p.users, fzW p.who, fzI p.fixed, lv] true, .dead, .dead]) ++ X ∧ LV (H.length + 5) 3 X lv ((p.rules.take k).flatMap rlB) (p.rules.take k).length) 0 rfl ?_ ?_
 ·refine ⟨?_, ⟨_, [], by rw [List.append_nil]; rfl, LV.nil _ _ _⟩⟩
  exact Nat.zero_le _
 rintro k _ ⟨hk, ⟨lv, X, rfl, hl⟩⟩
 refine B_env (env' := u56) rfl ?_
 refine B_seq (B_seq (B_region ?_))
 refine Lo u56 (v_move (.inl rfl) rfl) ?_
 refine Lo u56 (rfl) ?_
 refine Lo u56 (W2j rfl rfl rfl rfl) ?_
 refine Lo u56 (rfl) ?_
 refine Lo u56 (rfl) ?_
 refine L_nil (K_seq ?_)
 refine B_cond _ rfl (fun hc1 => ?_) (fun hc1 => ?_)
 ·try simp only [qB, qN] at hc1
  refine B_skip (K_seq (B_seq (B_block (B_seq (B_region ?_)))))
  refine Lo u56 (v_const (VVal.slice none 0 0 true 0) (.inr rfl) rfl) ?_
  refine L_nil (K_seq (B_seq ?_))
  have hr1 := rul_mem (l := p.rules) (k := k) (by omega)
  have hs1 := h4 _ hr1
  have hs2 := hst _ hr1
  refine B_region ?_
  refine Lo u56 (v_move (.inl rfl) rfl) ?_
  refine Lo u56 (rfl) ?_
  refine Lo u56 (W2j rfl rfl rfl rfl) ?_
  refine Lo u56 (v_move (.inl rfl) rfl) ?_
  refine Lo u56 (W18 rfl rfl rfl rfl rfl rfl rfl) ?_
  refine Lo u56 (rfl) ?_
  refine Lo u56 (W2j rfl rfl rfl rfl) ?_
  refine Lo u56 (v_appNF rfl rfl rfl rfl rfl rfl rfl (by rw [List.length_map]; exact (Nat.mul_one _).symm) (mapI_one _) (by decide) hs2 (by show (p.rules.getD k r0).steps.length * 8 ≤ _ ∧ _; omega)) ?_
  refine Lo u56 (v_move (.inr rfl) rfl) ?_
  refine L_nil (K_seq ?_)
  refine B_gh (Gh.freezeL (l := (p.rules.getD k r0).steps.map iI) 5 X.length rfl get_end map_all (Nat.le_refl _) rfl) ?_
  rw [set_end]
  refine B_draw [0, 1, 2, 3, 4, 5, 6, 7, 8, 9, 10, 11, 12, 13, 14, 15, 16, 17, 18, 19] #[0, 1, 0, 4, 0, 28, 60, 124, 0, 256, 0, 1792, 3840, 7936, 0, 32764, 65532, 131071, 262143, 524287] (by kernel_rfl) (by kernel_rfl) (by kernel_rfl) ?_
  refine Oo u56 .calm rfl (rfl) ?_
  refine Oo u56 .look rfl (W2j rfl rfl rfl rfl) ?_
  refine Oo u56 .calm rfl (rfl) ?_
  refine Oo u56 .look rfl (W2j rfl rfl rfl rfl) ?_
  refine Oo u56 .calm rfl (v_move (.inl rfl) rfl) ?_
  refine Oo u56 .calm rfl (W18 rfl rfl rfl rfl rfl rfl rfl) ?_
  refine Oo u56 .calm rfl (rfl) ?_
  refine Oo u56 .look rfl (W2j rfl rfl rfl rfl) ?_
  refine Oo u56 .calm rfl (rfl) ?_
  refine Oo u56 .look rfl (W2j rfl rfl rfl rfl) ?_
  refine Oo u56 .calm rfl (v_move (.inl rfl) rfl) ?_
  refine Oo u56 .calm rfl (W18 rfl rfl rfl rfl rfl rfl rfl) ?_
  refine Oo u56 .calm rfl (rfl) ?_
  refine Oo u56 .look rfl (W2j rfl rfl rfl rfl) ?_
  refine Oo u56 .calm rfl (v_move (.inl rfl) rfl) ?_
  refine Oo u56 .calm rfl (rfl) ?_
  refine Oo u56 .grow rfl (v_buildSlice rfl rfl (by decide) rfl) ?_
  refine O_opX .turn rfl rfl rfl (v_appXh rfl rfl rfl rfl rfl rfl rfl (by simp) (hl.app _) rfl rfl (by decide) (by rw [List.length_take]; show (_ + 1) * 40 ≤ _ ∧ _ + 1 ≤ _; omega) (by decide)) rfl rfl ?_
  rintro _ _ ⟨Y1, rfl, rfl, hY1, hY2, hY3⟩
  refine O_env (env' := u56) rfl ?_
  refine Oo u56 .calm rfl (rfl) ?_
  refine Oo u56 .turn rfl (W13 rfl rfl rfl rfl rfl rfl rfl) ?_
  refine O_nil [] (by kernel_rfl) (trivial) ?_
  refine K_blk (K_seq (B_region ?_))
  refine Lo u56 (v_move (.inl rfl) rfl) ?_
  refine Lo u56 (W14 rfl rfl rfl) ?_
  refine Lo u56 (v_move (.inr rfl) rfl) ?_
  refine L_nil ?_
  refine K_loop (mk 56 72057594037927905) (env' := u56) rfl ⟨k + 1, ?_, rfl, ?_⟩
  ·first | omega | (simp only []; omega)
  ·exact ⟨by omega, _, _, rfl, by rw [take_at (d := r0) (by omega)]; exact LV.pushF hY3⟩
 ·try simp only [qB, qN] at hc1
  refine B_exit (K_seqX (K_loopX (K_blkX (K_seq (B_seq ?_)))))
  obtain rfl : k = p.rules.length := by omega
  rw [List.take_length] at hl
  refine B_ghCell 2 3 hl rfl rfl (by simp) fun X5 _ _ => ?_
  refine B_heap (List.append_assoc _ _ _) ?_
  refine B_region ?_
  refine Lo u56 (W2h rfl rfl rfl rfl rfl) ?_
  refine Lo u56 (W13 rfl rfl rfl rfl rfl rfl rfl) ?_
  refine L_nil (K_seq (B_ret ?_))
  refine W5i (.inr rfl) (vres_cellA rfl rfl rfl rfl (by first | exact get_app rfl rfl | exact get_out (by assumption) | exact getE0 rfl rfl | exact get_out (get_app rfl rfl) | exact get_app rfl (by assumption) | assumption | (simp only [List.append_assoc, List.singleton_append, List.cons_append, List.nil_append]; refine getE (i := 0) rfl ?_ rfl; simp; done) | (simp only [List.append_assoc, List.singleton_append, List.cons_append, List.nil_append]; refine getE (i := 1) rfl ?_ rfl; simp; done) | (simp only [List.append_assoc, List.singleton_append, List.cons_append, List.nil_append]; refine getE (i := 2) rfl ?_ rfl; simp; done) | (simp only [List.append_assoc, List.singleton_append, List.cons_append, List.nil_append]; refine getE (i := 3) rfl ?_ rfl; simp; done) | (simp [*]; done)) (by first | rfl | assumption | exact fgetN (α := BitVec 64) 0 (by omega) | exact fgetN (α := Int) 0 (by omega) | exact rul_at (by omega) | exact rul_f2 (by omega) | exact rul_f0 (by omega) | exact rul_f1 (by omega))) ?_
  exact ⟨rfl, rfl⟩
theorem Twin_0 {x : SW} (H : VHeap) (p : Pb) (e1 : p.who = []) (e2 : p.fixed = []) (e3 : p.rules = []) : F (psys x) 76 [.agg (pbB p)] H fun v G => v = .agg (pbB p) ∧ G = H := by
 obtain ⟨a1, a2, a3, a4, ⟨⟩⟩ := p
 have e1 : a2 = [] := e1
 have e2 : a3 = [] := e2
 have e3 : a4 = [] := e3
 subst e1 e2 e3
 refine F_body Tryd.func76 rfl u56 rfl ?_
 refine B_seq (B_region ?_)
 refine Lo u56 (v_boxT rfl rfl rfl) ?_
 refine Lo u56 (v_alloc rfl rfl) ?_
 refine L_nil (K_seq (B_seq ?_))
 refine B_gh (Gh.freezePtrL (cs := pbB (a1, [], [], [], ())) 1 0 rfl rfl rfl) ?_
 refine B_region ?_
 refine Lo u56 (rfl) ?_
 refine Lo u56 (W2j rfl rfl rfl rfl) ?_
 refine Lo u56 (rfl) ?_
 refine Lo u56 (v_alloc rfl rfl) ?_
 refine Lo u56 (W13 rfl rfl rfl rfl rfl rfl rfl) ?_
 refine L_nil (K_seq (B_seq (B_region ?_)))
 refine Lo u56 (rfl) ?_
 refine Lo u56 (W2j rfl rfl rfl rfl) ?_
 refine Lo u56 (rfl) ?_
 refine Lo u56 (W2j rfl rfl rfl rfl) ?_
 refine Lo u56 (v_appN0 rfl rfl rfl rfl rfl rfl rfl (by decide)) ?_
 refine Lo u56 (rfl) ?_
 refine Lo u56 (W13 rfl rfl rfl rfl rfl rfl rfl) ?_
 refine L_nil (K_seq (B_seq (B_region ?_)))
 refine Lo u56 (rfl) ?_
 refine Lo u56 (W2j rfl rfl rfl rfl) ?_
 refine Lo u56 (rfl) ?_
 refine Lo u56 (W2j rfl rfl rfl rfl) ?_
 refine Lo u56 (v_appN0 rfl rfl rfl rfl rfl rfl rfl (by decide)) ?_
 refine Lo u56 (rfl) ?_
 refine Lo u56 (W13 rfl rfl rfl rfl rfl rfl rfl) ?_
 refine L_nil (K_seq (B_seq (B_seq (B_region ?_))))
 refine Lo u56 (v_const (VVal.int .i64 0) (.inr rfl) rfl) ?_
 refine L_nil (K_seq (B_block ?_))
 refine B_clear (mk 56 72057594037927905) (env' := u56) rfl ?_
 refine B_loopE (fun (k : Nat) => 0 - k) (fun (k : Nat) => [(4, iI (k : Nat))]) (fun (k : Nat) G => (k ≤ 0) ∧ G = H ++ [.dead, pqB 0 nilS nilS nilS, .cells [iI a1, .slice none 0 0 true 1, .slice none 0 0 true 1, nilS] true]) 0 rfl ?_ ?_
 ·refine ⟨?_, rfl⟩
  exact Nat.zero_le _
 rintro k _ ⟨hk, rfl⟩
 refine B_env (env' := u56) rfl ?_
 refine B_seq (B_seq (B_region ?_))
 refine Lo u56 (v_move (.inl rfl) rfl) ?_
 refine Lo u56 (rfl) ?_
 refine Lo u56 (W2j rfl rfl rfl rfl) ?_
 refine Lo u56 (rfl) ?_
 refine Lo u56 (rfl) ?_
 refine L_nil (K_seq ?_)
 refine B_cond _ rfl (fun hc1 => ?_) (fun hc1 => ?_)
 ·try simp only [qB, qN] at hc1
  exact absurd (Int.ofNat_lt.1 hc1) (Nat.not_lt_zero k)
 ·try simp only [qB, qN] at hc1
  refine B_exit (K_seqX (K_loopX (K_blkX (K_seq (B_seq ?_)))))
  refine B_gh (Gh.cellNilL 2 1 (es' := 1) rfl rfl) ?_
  refine B_gh (Gh.cellNilL 2 2 (es' := 1) rfl rfl) ?_
  refine B_gh (Gh.cellNilL 2 3 (es' := 3) rfl rfl) ?_
  refine B_region ?_
  refine Lo u56 (W2h rfl rfl rfl rfl rfl) ?_
  refine Lo u56 (W13 rfl rfl rfl rfl rfl rfl rfl) ?_
  refine L_nil (K_seq (B_ret ?_))
  refine W6d (.inr rfl) (vres_cellA rfl rfl rfl rfl (by first | exact get_app rfl rfl | exact get_out (by assumption) | exact getE0 rfl rfl | exact get_out (get_app rfl rfl) | exact get_app rfl (by assumption) | assumption | (simp only [List.append_assoc, List.singleton_append, List.cons_append, List.nil_append]; refine getE (i := 0) rfl ?_ rfl; simp; done) | (simp only [List.append_assoc, List.singleton_append, List.cons_append, List.nil_append]; refine getE (i := 1) rfl ?_ rfl; simp; done) | (simp only [List.append_assoc, List.singleton_append, List.cons_append, List.nil_append]; refine getE (i := 2) rfl ?_ rfl; simp; done) | (simp only [List.append_assoc, List.singleton_append, List.cons_append, List.nil_append]; refine getE (i := 3) rfl ?_ rfl; simp; done) | (simp [*]; done)) (by first | rfl | assumption | exact fgetN (α := BitVec 64) 0 (by omega) | exact fgetN (α := Int) 0 (by omega) | exact rul_at (by omega) | exact rul_f2 (by omega) | exact rul_f0 (by omega) | exact rul_f1 (by omega))) ?_
  exact ⟨rfl, rfl⟩
end Go.Proofs.YtalmjnkcibgclaaDoor.VT

set_option autoImplicit false
set_option linter.unusedVariables false
set_option linter.unusedSimpArgs false
set_option maxHeartbeats 4000000
set_option maxRecDepth 100000
namespace Go.Proofs.YtalmjnkcibgclaaDoor.VT
open Go Go.V Go.RowKit
abbrev u123 {a0 a1 a2 a3 a4 a5 a6 a7 a8 a9 a10 a11 a12 a13 a14 a15 a16 a17 a18 a19 a20 a21 a22 a23 a24 a25 a26 a27 a28 a29 a30 a31 a32 a33 a34 a35 a36 a37 a38 a39 a40 a41 a42 a43 a44 a45 a46 a47 a48 a49 a50 a51 a52 a53 a54 a55 a56 a57 a58 a59 a60 a61 a62 a63 a64 a65 a66 a67 a68 a69 a70 a71 a72 a73 a74 a75 a76 a77 a78 a79 a80 a81 a82 a83 a84 a85 a86 a87 a88 a89 a90 a91 a92 a93 a94 a95 a96 a97 a98 a99 a100 a101 a102 a103 a104 a105 a106 a107 a108 a109 a110 a111 a112 a113 a114 a115 a116 a117 a118 a119 a120 a121 a122 : VVal} : VEnv := a0 :: a1 :: a2 :: a3 :: a4 :: a5 :: a6 :: a7 :: a8 :: a9 :: a10 :: a11 :: a12 :: a13 :: a14 :: a15 :: a16 :: a17 :: a18 :: a19 :: a20 :: a21 :: a22 :: a23 :: a24 :: a25 :: a26 :: a27 :: a28 :: a29 :: a30 :: a31 :: a32 :: a33 :: a34 :: a35 :: a36 :: a37 :: a38 :: a39 :: a40 :: a41 :: a42 :: a43 :: a44 :: a45 :: a46 :: a47 :: a48 :: a49 :: a50 :: a51 :: a52 :: a53 :: a54 :: a55 :: a56 :: a57 :: a58 :: a59 :: a60 :: a61 :: a62 :: a63 :: a64 :: a65 :: a66 :: a67 :: a68 :: a69 :: a70 :: a71 :: a72 :: a73 :: a74 :: a75 :: a76 :: a77 :: a78 :: a79 :: a80 :: a81 :: a82 :: a83 :: a84 :: a85 :: a86 :: a87 :: a88 :: a89 :: a90 :: a91 :: a92 :: a93 :: a94 :: a95 :: a96 :: a97 :: a98 :: a99 :: a100 :: a101 :: a102 :: a103 :: a104 :: a105 :: a106 :: a107 :: a108 :: a109 :: a110 :: a111 :: a112 :: a113 :: a114 :: a115 :: a116 :: a117 :: a118 :: a119 :: a120 :: a121 :: a122 :: []
theorem W6l {T : TypeId → Option VTy} {H : VHeap} {op : Op} {ρ : Operand → VVal} {t : TypeId} {a : Operand} {y : VTy} {p v : VVal} (ho : op = .load t a) (ha : ρ a = p) (hy : T t = some y) (hd : isAggDesc y.desc = false) (h : LdOk H p v := by first | exact .inl ⟨_, _, rfl, by first | rfl | assumption | exact fgetN (α := BitVec 64) 0 (by omega) | exact fgetN (α := Int) 0 (by omega) | exact rul_at (by omega)⟩ | exact .inr ⟨_, _, _, _, rfl, by exact getQ rfl, by first | rfl | assumption | exact fgetN (α := BitVec 64) 0 (by omega) | exact fgetN (α := Int) 0 (by omega) | exact rul_at (by omega)⟩) : vop T ρ H op = some (v, H) := v_ld ho ha hy hd h
theorem W6n {T : TypeId → Option VTy} {H : VHeap} {op : Op} {ρ : Operand → VVal} {t : TypeId} {a : Operand} {y : VTy} {p v : VVal} (ho : op = .load t a) (ha : ρ a = p) (hy : T t = some y) (hd : isAggDesc y.desc = false) (h : LdOk H p v := by first | exact .inl ⟨_, _, rfl, by first | rfl | assumption | exact fgetN (α := BitVec 64) 0 (by omega) | exact fgetN (α := Int) 0 (by omega) | exact rul_at (by omega)⟩ | exact .inr ⟨_, _, _, _, rfl, by exact get_app rfl (get_append (get_endE hZl)), by first | rfl | assumption | exact fgetN (α := BitVec 64) 0 (by omega) | exact fgetN (α := Int) 0 (by omega) | exact rul_at (by omega)⟩) : vop T ρ H op = some (v, H) := v_ld ho ha hy hd h
theorem W6o {T : TypeId → Option VTy} {H : VHeap} {op : Op} {ρ : VEnv} {H' : VHeap} {t : TypeId} {a : Operand} {i : Nat} {v : VVal} {y : VTy} {b off : Nat} {cs new : List VVal} (ho : op = .store t a (.tmp i)) (hv : ρ[i]? = some v) (ha : ρ.eval a = .ptr (some (b, off))) (hy : T t = some y) (hx : v.cells = some new) (hn : new.length = y.size) (h1 : new.all VVal.one = true) (hb : H[b]? = some (.cells cs true) := by exact get_app rfl (get_append (get_append hZ1))) (hl : off + new.length ≤ cs.length := by show 0 + ((s : Nat) : Int).toNat * 1 + 1 ≤ _; rw [List.length_map, mpW_len]; omega) (hH : H.set b (.cells (splice cs off new) true) = H' := by exact (set_app rfl).trans (by rw [set_out (by simp; have := lt_of_get hZ1; omega), set_out (lt_of_get hZ1)])) : vop T ρ.eval H op = some (.skip, H') := v_storeT ho hv ha hy hx hn h1 hb hl hH
theorem W6p {T : TypeId → Option VTy} {H : VHeap} {op : Op} {ρ : Operand → VVal} {t : TypeId} {a : Operand} {y : VTy} {p v : VVal} (ho : op = .load t a) (ha : ρ a = p) (hy : T t = some y) (hd : isAggDesc y.desc = false) (h : LdOk H p v := by first | exact .inl ⟨_, _, rfl, by first | rfl | assumption | exact fgetN (α := BitVec 64) 0 (by omega) | exact fgetN (α := Int) 0 (by omega) | exact rul_at (by omega)⟩ | exact .inr ⟨_, _, _, _, rfl, by exact get_app rfl (get_append (get_endE (by rw [List.length_set]; exact hZl))), by first | rfl | assumption | exact fgetN (α := BitVec 64) 0 (by omega) | exact fgetN (α := Int) 0 (by omega) | exact rul_at (by omega)⟩) : vop T ρ H op = some (v, H) := v_ld ho ha hy hd h
theorem W6q {T : TypeId → Option VTy} {H : VHeap} {op : Op} {ρ : Operand → VVal} {t : TypeId} {a : Operand} {y : VTy} {p : VVal} {n : Nat} {vs : List VVal} (ho : op = .load t a) (ha : ρ a = p) (hy : T t = some y) (hd : isAggDesc y.desc = true) (hn : y.size = n) (h : LdOkA H p n vs := by first | exact .inl ⟨_, _, rfl, by first | rfl | assumption | exact fgetN (α := BitVec 64) 0 (by omega) | exact fgetN (α := Int) 0 (by omega) | exact rul_at (by omega)⟩ | exact .inr ⟨_, _, _, _, rfl, by exact get_app rfl (List.getElem?_set_self (by simp; omega)), by first | rfl | assumption | exact fgetN (α := BitVec 64) 0 (by omega) | exact fgetN (α := Int) 0 (by omega) | exact rul_at (by omega)⟩) : vop T ρ H op = some (.agg vs, H) := v_ldA ho ha hy hd hn h
theorem fWithout_e {x : SW} (H : VHeap) (p : Pb) (rs ss : List Int) (hp : PbL p) (hrl : rs.length ≤ 1000000) (hsl : ss.length ≤ 1000000) (he : ¬ woE p rs ss = 0) : F (psys x) 33 [.agg (pbB p), fzI rs, fzI ss] H fun v G => v = .tuple [.agg (pbB (woP p rs ss)), iI (woE p rs ss)] ∧ G = H := by
 have h2 := hp.w; have h3 := hp.r
 refine F_body Tryd.func33 rfl u123 rfl ?_
 refine B_seq (B_region ?_)
 refine Lo u123 (v_boxT rfl rfl rfl) ?_
 refine Lo u123 (v_alloc rfl rfl) ?_
 refine Lo u123 (v_const (VVal.int .i64 0) (.inr rfl) rfl) ?_
 refine L_nil (K_seq (B_seq ?_))
 refine B_gh (Gh.freezePtrL (cs := pbB p) 3 0 rfl rfl rfl) ?_
 refine B_region ?_
 refine Lo u123 (W1t rfl rfl rfl rfl rfl) ?_
 refine L_call rfl rfl rfl (by exact fpCheck_spec _ p hp) ?_
 rintro _ _ ⟨rfl, rfl⟩
 refine Le u123 ?_
 refine Lo u123 (v_move (.inr rfl) rfl) ?_
 refine L_nil (K_seq (B_seq (B_seq (B_region ?_))))
 refine Lo u123 (v_move (.inl rfl) rfl) ?_
 refine Lo u123 (rfl) ?_
 refine L_nil (K_seq ?_)
 refine B_cond _ rfl (fun hc1 => ?_) (fun hc1 => ?_)
 ·try simp only [qB, qN] at hc1
  refine B_seq (B_region ?_)
  refine Lo u123 (rfl) ?_
  refine Lo u123 (v_move (.inl rfl) rfl) ?_
  refine Lo u123 (W13 rfl rfl rfl rfl rfl rfl rfl) ?_
  refine Lo u123 (v_move (.inr rfl) rfl) ?_
  refine L_nil (K_seq ?_)
  refine B_gh (Gh.cellNilL 1 1 (es' := 1) rfl rfl) ?_
  refine B_gh (Gh.cellNilL 1 2 (es' := 1) rfl rfl) ?_
  refine B_gh (Gh.cellNilL 1 3 (es' := 3) rfl rfl) ?_
  refine B_ret (K_seqR ?_)
  refine W5u (.inr rfl) (vres_cAt rfl rfl rfl rfl (by first | exact get_app rfl rfl | exact getB rfl rfl) (by first | rfl | assumption | exact fgetN (α := BitVec 64) 0 (by omega) | exact fgetN (α := Int) 0 (by omega) | exact rul_at (by omega)) rfl) ?_
  exact W5v
 ·try simp only [qB, qN] at hc1
  refine B_skip (K_seq (B_seq (B_seq (B_region ?_))))
  refine Lo u123 (v_const (VVal.int .i64 0) (.inr rfl) rfl) ?_
  refine L_nil (K_seq (B_block ?_))
  refine B_clear (mk 123 10633823966279326983230456482242756017) (env' := u123) rfl ?_
  refine B_loopE (fun (i : Nat) => rs.length - i) (fun (i : Nat) => [(9, iI (i : Nat))]) (fun (i : Nat) G => (i ≤ rs.length ∧ ltB (rs.take i) p.rules.length = true) ∧ G = H ++ [.dead, t6c]) 0 rfl ?_ ?_
  ·refine ⟨?_, rfl⟩
   exact ⟨Nat.zero_le _, rfl⟩
  rintro i _ ⟨⟨hi, hii⟩, rfl⟩
  refine B_env (env' := u123) rfl ?_
  refine B_seq (B_seq (B_region ?_))
  refine Lo u123 (v_move (.inl rfl) rfl) ?_
  refine Lo u123 (v_move (.inl rfl) rfl) ?_
  refine Lo u123 (rfl) ?_
  refine Lo u123 (rfl) ?_
  refine L_nil (K_seq ?_)
  refine B_cond _ rfl (fun hc2 => ?_) (fun hc2 => ?_)
  ·try simp only [qB, qN] at hc2
   refine B_skip (K_seq (B_seq (B_block (B_seq ?_))))
   refine B_draw [0, 1, 2, 3, 4, 5, 6, 7, 8, 9, 10, 11, 12, 13, 14] #[0, 0, 3, 7, 15, 31, 63, 63, 255, 511, 63, 1087, 3135, 8191, 16383] (by kernel_rfl) (by kernel_rfl) (by kernel_rfl) ?_
   refine Oo u123 .calm rfl (v_move (.inl rfl) rfl) ?_
   refine Oo u123 .calm rfl (v_move (.inl rfl) rfl) ?_
   refine Oo u123 .calm rfl (W18 rfl rfl rfl rfl rfl rfl rfl) ?_
   refine Oo u123 .look rfl (W1p rfl rfl rfl rfl) ?_
   refine Oo u123 .calm rfl (rfl) ?_
   refine Oo u123 .calm rfl (v_move (.inl rfl) rfl) ?_
   refine O_split 34 (env1 := u123) (env2 := u123) rfl rfl rfl (fun hg3 => ?_) (fun hg3 => ?_)
   ·try simp only [qB, qN] at hg3
    refine Of u123 rfl ?_
    refine Of u123 rfl ?_
    refine Of u123 rfl ?_
    refine Of u123 rfl ?_
    refine Of u123 rfl ?_
    refine Of u123 rfl ?_
    refine Of u123 rfl ?_
    refine Of u123 rfl ?_
    refine Oo u123 .calm rfl (v_pickTC (VVal.bool true) rfl rfl rfl) ?_
    refine O_nil [] (by kernel_rfl) (trivial) ?_
    refine K_seq ?_
    refine B_true rfl rfl ?_
    refine B_seq (B_region ?_)
    refine Lo u123 (rfl) ?_
    refine Lo u123 (W13 rfl rfl rfl rfl rfl rfl rfl) ?_
    refine Lo u123 (v_const (VVal.int .i64 1) (.inr rfl) rfl) ?_
    refine L_nil (K_seq ?_)
    refine B_gh (Gh.cellNilL 1 1 (es' := 1) rfl rfl) ?_
    refine B_gh (Gh.cellNilL 1 2 (es' := 1) rfl rfl) ?_
    refine B_gh (Gh.cellNilL 1 3 (es' := 3) rfl rfl) ?_
    refine B_ret (K_blkR (K_seqR (K_loopR (K_blkR (K_seqR ?_)))))
    refine W5u (.inr rfl) (vres_cAt rfl rfl rfl rfl (by first | exact get_app rfl rfl | exact getB rfl rfl) (by first | rfl | assumption | exact fgetN (α := BitVec 64) 0 (by omega) | exact fgetN (α := Int) 0 (by omega) | exact rul_at (by omega)) rfl) ?_
    exact W5v
   ·try simp only [qB, qN] at hg3
    refine Oo u123 .calm rfl (v_move (.inl rfl) rfl) ?_
    refine Oo u123 .calm rfl (v_move (.inl rfl) rfl) ?_
    refine Oo u123 .calm rfl (W18 rfl rfl rfl rfl rfl rfl rfl) ?_
    refine Oo u123 .look rfl (W1p rfl rfl rfl rfl) ?_
    refine Oo u123 .calm rfl (rfl) ?_
    refine Oo u123 .look rfl (W1p rfl rfl rfl rfl) ?_
    refine Oo u123 .look rfl (rfl) ?_
    refine Oo u123 .calm rfl (rfl) ?_
    refine Oo u123 .calm rfl (v_pickF rfl rfl rfl) ?_
    refine O_nil [] (by kernel_rfl) (trivial) ?_
    refine K_seq ?_
    refine B_cond _ rfl (fun hc4 => ?_) (fun hc4 => ?_)
    ·try simp only [qB, qN] at hc4
     refine B_seq (B_region ?_)
     refine Lo u123 (rfl) ?_
     refine Lo u123 (W13 rfl rfl rfl rfl rfl rfl rfl) ?_
     refine Lo u123 (v_const (VVal.int .i64 1) (.inr rfl) rfl) ?_
     refine L_nil (K_seq ?_)
     refine B_gh (Gh.cellNilL 1 1 (es' := 1) rfl rfl) ?_
     refine B_gh (Gh.cellNilL 1 2 (es' := 1) rfl rfl) ?_
     refine B_gh (Gh.cellNilL 1 3 (es' := 3) rfl rfl) ?_
     refine B_ret (K_blkR (K_seqR (K_loopR (K_blkR (K_seqR ?_)))))
     refine W5u (.inr rfl) (vres_cAt rfl rfl rfl rfl (by first | exact get_app rfl rfl | exact getB rfl rfl) (by first | rfl | assumption | exact fgetN (α := BitVec 64) 0 (by omega) | exact fgetN (α := Int) 0 (by omega) | exact rul_at (by omega)) rfl) ?_
     exact W5v
    ·try simp only [qB, qN] at hc4
     refine B_skip (K_blk (K_seq (B_region ?_)))
     refine Lo u123 (v_move (.inl rfl) rfl) ?_
     refine Lo u123 (W14 rfl rfl rfl) ?_
     refine Lo u123 (v_move (.inr rfl) rfl) ?_
     refine L_nil ?_
     refine K_loop (mk 123 10633823966279326983230456482242756017) (env' := u123) rfl ⟨i + 1, ?_, rfl, ?_⟩
     ·first | omega | (simp only []; omega)
     ·exact ⟨⟨by omega, by rw [ltB_step (by omega), hii, decide_eq_true (by omega)]; rfl⟩, rfl⟩
  ·try simp only [qB, qN] at hc2
   refine B_exit (K_seqX (K_loopX (K_blkX (K_seq (B_seq (B_seq (B_region ?_)))))))
   refine Lo u123 (v_const (VVal.int .i64 0) (.inr rfl) rfl) ?_
   refine L_nil (K_seq (B_block ?_))
   refine B_clear (mk 123 10633823966279326983230456482242755505) (env' := u123) rfl ?_
   refine B_loopE (fun (j : Nat) => ss.length - j) (fun (j : Nat) => [(10, iI (j : Nat))]) (fun (j : Nat) G => (j ≤ ss.length ∧ ltB (ss.take j) p.who.length = true) ∧ G = H ++ [.dead, t6c]) 0 rfl ?_ ?_
   ·refine ⟨?_, rfl⟩
    exact ⟨Nat.zero_le _, rfl⟩
   rintro j _ ⟨⟨hj, hij⟩, rfl⟩
   refine B_env (env' := u123) rfl ?_
   refine B_seq (B_seq (B_region ?_))
   refine Lo u123 (v_move (.inl rfl) rfl) ?_
   refine Lo u123 (v_move (.inl rfl) rfl) ?_
   refine Lo u123 (rfl) ?_
   refine Lo u123 (rfl) ?_
   refine L_nil (K_seq ?_)
   refine B_cond _ rfl (fun hc5 => ?_) (fun hc5 => ?_)
   ·try simp only [qB, qN] at hc5
    refine B_skip (K_seq (B_seq (B_block (B_seq ?_))))
    refine B_draw [0, 1, 2, 3, 4, 5, 6, 7, 8, 9, 10, 11, 12, 13, 14] #[0, 0, 3, 7, 15, 31, 63, 63, 255, 511, 63, 1087, 3135, 8191, 16383] (by kernel_rfl) (by kernel_rfl) (by kernel_rfl) ?_
    refine Oo u123 .calm rfl (v_move (.inl rfl) rfl) ?_
    refine Oo u123 .calm rfl (v_move (.inl rfl) rfl) ?_
    refine Oo u123 .calm rfl (W18 rfl rfl rfl rfl rfl rfl rfl) ?_
    refine Oo u123 .look rfl (W1p rfl rfl rfl rfl) ?_
    refine Oo u123 .calm rfl (rfl) ?_
    refine Oo u123 .calm rfl (v_move (.inl rfl) rfl) ?_
    refine O_split 56 (env1 := u123) (env2 := u123) rfl rfl rfl (fun hg6 => ?_) (fun hg6 => ?_)
    ·try simp only [qB, qN] at hg6
     refine Of u123 rfl ?_
     refine Of u123 rfl ?_
     refine Of u123 rfl ?_
     refine Of u123 rfl ?_
     refine Of u123 rfl ?_
     refine Of u123 rfl ?_
     refine Of u123 rfl ?_
     refine Of u123 rfl ?_
     refine Oo u123 .calm rfl (v_pickTC (VVal.bool true) rfl rfl rfl) ?_
     refine O_nil [] (by kernel_rfl) (trivial) ?_
     refine K_seq ?_
     refine B_true rfl rfl ?_
     refine B_seq (B_region ?_)
     refine Lo u123 (rfl) ?_
     refine Lo u123 (W13 rfl rfl rfl rfl rfl rfl rfl) ?_
     refine Lo u123 (v_const (VVal.int .i64 1) (.inr rfl) rfl) ?_
     refine L_nil (K_seq ?_)
     refine B_gh (Gh.cellNilL 1 1 (es' := 1) rfl rfl) ?_
     refine B_gh (Gh.cellNilL 1 2 (es' := 1) rfl rfl) ?_
     refine B_gh (Gh.cellNilL 1 3 (es' := 3) rfl rfl) ?_
     refine B_ret (K_blkR (K_seqR (K_loopR (K_blkR (K_seqR ?_)))))
     refine W5u (.inr rfl) (vres_cAt rfl rfl rfl rfl (by first | exact get_app rfl rfl | exact getB rfl rfl) (by first | rfl | assumption | exact fgetN (α := BitVec 64) 0 (by omega) | exact fgetN (α := Int) 0 (by omega) | exact rul_at (by omega)) rfl) ?_
     exact W5v
    ·try simp only [qB, qN] at hg6
     refine Oo u123 .calm rfl (v_move (.inl rfl) rfl) ?_
     refine Oo u123 .calm rfl (v_move (.inl rfl) rfl) ?_
     refine Oo u123 .calm rfl (W18 rfl rfl rfl rfl rfl rfl rfl) ?_
     refine Oo u123 .look rfl (W1p rfl rfl rfl rfl) ?_
     refine Oo u123 .calm rfl (rfl) ?_
     refine Oo u123 .look rfl (W1p rfl rfl rfl rfl) ?_
     refine Oo u123 .look rfl (rfl) ?_
     refine Oo u123 .calm rfl (rfl) ?_
     refine Oo u123 .calm rfl (v_pickF rfl rfl rfl) ?_
     refine O_nil [] (by kernel_rfl) (trivial) ?_
     refine K_seq ?_
     refine B_cond _ rfl (fun hc7 => ?_) (fun hc7 => ?_)
     ·try simp only [qB, qN] at hc7
      refine B_seq (B_region ?_)
      refine Lo u123 (rfl) ?_
      refine Lo u123 (W13 rfl rfl rfl rfl rfl rfl rfl) ?_
      refine Lo u123 (v_const (VVal.int .i64 1) (.inr rfl) rfl) ?_
      refine L_nil (K_seq ?_)
      refine B_gh (Gh.cellNilL 1 1 (es' := 1) rfl rfl) ?_
      refine B_gh (Gh.cellNilL 1 2 (es' := 1) rfl rfl) ?_
      refine B_gh (Gh.cellNilL 1 3 (es' := 3) rfl rfl) ?_
      refine B_ret (K_blkR (K_seqR (K_loopR (K_blkR (K_seqR ?_)))))
      refine W5u (.inr rfl) (vres_cAt rfl rfl rfl rfl (by first | exact get_app rfl rfl | exact getB rfl rfl) (by first | rfl | assumption | exact fgetN (α := BitVec 64) 0 (by omega) | exact fgetN (α := Int) 0 (by omega) | exact rul_at (by omega)) rfl) ?_
      exact W5v
     ·try simp only [qB, qN] at hc7
      refine B_skip (K_blk (K_seq (B_region ?_)))
      refine Lo u123 (v_move (.inl rfl) rfl) ?_
      refine Lo u123 (W14 rfl rfl rfl) ?_
      refine Lo u123 (v_move (.inr rfl) rfl) ?_
      refine L_nil ?_
      refine K_loop (mk 123 10633823966279326983230456482242755505) (env' := u123) rfl ⟨j + 1, ?_, rfl, ?_⟩
      ·first | omega | (simp only []; omega)
      ·exact ⟨⟨by omega, by rw [ltB_step (by omega), hij, decide_eq_true (by omega)]; rfl⟩, rfl⟩
   ·try simp only [qB, qN] at hc5
    exfalso
    rw [List.take_of_length_le (by omega)] at hii hij
    exact he (woE_ok.2 ⟨pck_good.1 (by assumption), hii, hij⟩)
theorem fWithout_F {x : SW} (H : VHeap) (p : Pb) (rs ss : List Int) (hp : PbL p) (hrl : rs.length ≤ 1000000) (hsl : ss.length ≤ 1000000) (he : woE p rs ss = 0) (hne : 0 < p.who.length) : F (psys x) 33 [.agg (pbB p), fzI rs, fzI ss] H fun v G => v = .tuple [.agg (pbB (woP p rs ss)), iI (woE p rs ss)] ∧ G = H := by
 obtain ⟨g, hlr, hls⟩ := woE_ok.1 he
 have g5 := g.fx; have h4 := g.r32; have h6 := g.n12; have h7 := g.u64; have h8 := g.u0
 refine F_body Tryd.func33 rfl u123 rfl ?_
 refine B_seq (B_region ?_)
 refine Lo u123 (v_boxT rfl rfl rfl) ?_
 refine Lo u123 (v_alloc rfl rfl) ?_
 refine Lo u123 (v_const (VVal.int .i64 0) (.inr rfl) rfl) ?_
 refine L_nil (K_seq (B_seq ?_))
 refine B_gh (Gh.freezePtrL (cs := pbB p) 3 0 rfl rfl rfl) ?_
 refine B_region ?_
 refine Lo u123 (W1t rfl rfl rfl rfl rfl) ?_
 refine L_call rfl rfl rfl (by exact fpCheck_spec _ p hp) ?_
 rintro _ _ ⟨rfl, rfl⟩
 refine Le u123 ?_
 refine Lo u123 (v_move (.inr rfl) rfl) ?_
 refine L_nil (K_seq (B_seq (B_seq (B_region ?_))))
 refine Lo u123 (v_move (.inl rfl) rfl) ?_
 refine Lo u123 (v_is false rfl (by rw [pck_good.2 g]; rfl)) ?_
 refine L_nil (K_seq ?_)
 refine B_false rfl rfl ?_
 refine B_skip (K_seq (B_seq (B_seq (B_region ?_))))
 refine Lo u123 (v_const (VVal.int .i64 0) (.inr rfl) rfl) ?_
 refine L_nil (K_seq (B_block ?_))
 refine B_clear (mk 123 10633823966279326983230456482242756017) (env' := u123) rfl ?_
 refine B_loopE (fun (i : Nat) => rs.length - i) (fun (i : Nat) => [(9, iI (i : Nat))]) (fun (i : Nat) G => (i ≤ rs.length) ∧ G = H ++ [.dead, t6c]) 0 rfl ?_ ?_
 ·refine ⟨?_, rfl⟩
  exact Nat.zero_le _
 rintro i _ ⟨hi, rfl⟩
 refine B_env (env' := u123) rfl ?_
 refine B_seq (B_seq (B_region ?_))
 refine Lo u123 (v_move (.inl rfl) rfl) ?_
 refine Lo u123 (v_move (.inl rfl) rfl) ?_
 refine Lo u123 (rfl) ?_
 refine Lo u123 (rfl) ?_
 refine L_nil (K_seq ?_)
 refine B_cond _ rfl (fun hc1 => ?_) (fun hc1 => ?_)
 ·try simp only [qB, qN] at hc1
  refine B_skip (K_seq (B_seq (B_block (B_seq ?_))))
  obtain ⟨i9, hx1, hx2⟩ := ltB_at hlr (show i < rs.length by omega)
  refine B_draw [0, 1, 2, 3, 4, 5, 6, 7, 8, 9, 10, 11, 12, 13, 14] #[0, 0, 3, 7, 15, 31, 63, 63, 255, 511, 63, 1087, 3135, 8191, 16383] (by kernel_rfl) (by kernel_rfl) (by kernel_rfl) ?_
  refine Oo u123 .calm rfl (v_move (.inl rfl) rfl) ?_
  refine Oo u123 .calm rfl (v_move (.inl rfl) rfl) ?_
  refine Oo u123 .calm rfl (W18 rfl rfl rfl rfl rfl rfl rfl) ?_
  refine Oo u123 .look rfl (W1p rfl rfl rfl rfl) ?_
  refine Oo u123 .calm rfl (v_is false rfl (decide_eq_false (by omega))) ?_
  refine Oo u123 .calm rfl (v_move (.inl rfl) rfl) ?_
  refine Oo u123 .calm rfl (v_move (.inl rfl) rfl) ?_
  refine Oo u123 .calm rfl (v_move (.inl rfl) rfl) ?_
  refine Oo u123 .calm rfl (W18 rfl rfl rfl rfl rfl rfl rfl) ?_
  refine Oo u123 .look rfl (W1p rfl rfl rfl rfl) ?_
  refine Oo u123 .calm rfl (rfl) ?_
  refine Oo u123 .look rfl (W1p rfl rfl rfl rfl) ?_
  refine Oo u123 .look rfl (rfl) ?_
  refine Oo u123 .calm rfl (v_is false rfl (decide_eq_false (by omega))) ?_
  refine Oo u123 .calm rfl (v_pickF rfl rfl rfl) ?_
  refine O_nil [] (by kernel_rfl) (trivial) ?_
  refine K_seq ?_
  refine B_false rfl rfl ?_
  refine B_skip (K_blk (K_seq (B_region ?_)))
  refine Lo u123 (v_move (.inl rfl) rfl) ?_
  refine Lo u123 (W14 rfl rfl rfl) ?_
  refine Lo u123 (v_move (.inr rfl) rfl) ?_
  refine L_nil ?_
  refine K_loop (mk 123 10633823966279326983230456482242756017) (env' := u123) rfl ⟨i + 1, ?_, rfl, ?_⟩
  ·first | omega | (simp only []; omega)
  ·exact ⟨by omega, rfl⟩
 ·try simp only [qB, qN] at hc1
  refine B_exit (K_seqX (K_loopX (K_blkX (K_seq (B_seq (B_seq (B_region ?_)))))))
  refine Lo u123 (v_const (VVal.int .i64 0) (.inr rfl) rfl) ?_
  refine L_nil (K_seq (B_block ?_))
  refine B_clear (mk 123 10633823966279326983230456482242755505) (env' := u123) rfl ?_
  refine B_loopE (fun (j : Nat) => ss.length - j) (fun (j : Nat) => [(10, iI (j : Nat))]) (fun (j : Nat) G => (j ≤ ss.length) ∧ G = H ++ [.dead, t6c]) 0 rfl ?_ ?_
  ·refine ⟨?_, rfl⟩
   exact Nat.zero_le _
  rintro j _ ⟨hj, rfl⟩
  refine B_env (env' := u123) rfl ?_
  refine B_seq (B_seq (B_region ?_))
  refine Lo u123 (v_move (.inl rfl) rfl) ?_
  refine Lo u123 (v_move (.inl rfl) rfl) ?_
  refine Lo u123 (rfl) ?_
  refine Lo u123 (rfl) ?_
  refine L_nil (K_seq ?_)
  refine B_cond _ rfl (fun hc2 => ?_) (fun hc2 => ?_)
  ·try simp only [qB, qN] at hc2
   refine B_skip (K_seq (B_seq (B_block (B_seq ?_))))
   obtain ⟨i9, hx1, hx2⟩ := ltB_at hls (show j < ss.length by omega)
   refine B_draw [0, 1, 2, 3, 4, 5, 6, 7, 8, 9, 10, 11, 12, 13, 14] #[0, 0, 3, 7, 15, 31, 63, 63, 255, 511, 63, 1087, 3135, 8191, 16383] (by kernel_rfl) (by kernel_rfl) (by kernel_rfl) ?_
   refine Oo u123 .calm rfl (v_move (.inl rfl) rfl) ?_
   refine Oo u123 .calm rfl (v_move (.inl rfl) rfl) ?_
   refine Oo u123 .calm rfl (W18 rfl rfl rfl rfl rfl rfl rfl) ?_
   refine Oo u123 .look rfl (W1p rfl rfl rfl rfl) ?_
   refine Oo u123 .calm rfl (v_is false rfl (decide_eq_false (by omega))) ?_
   refine Oo u123 .calm rfl (v_move (.inl rfl) rfl) ?_
   refine Oo u123 .calm rfl (v_move (.inl rfl) rfl) ?_
   refine Oo u123 .calm rfl (v_move (.inl rfl) rfl) ?_
   refine Oo u123 .calm rfl (W18 rfl rfl rfl rfl rfl rfl rfl) ?_
   refine Oo u123 .look rfl (W1p rfl rfl rfl rfl) ?_
   refine Oo u123 .calm rfl (rfl) ?_
   refine Oo u123 .look rfl (W1p rfl rfl rfl rfl) ?_
   refine Oo u123 .look rfl (rfl) ?_
   refine Oo u123 .calm rfl (v_is false rfl (decide_eq_false (by omega))) ?_
   refine Oo u123 .calm rfl (v_pickF rfl rfl rfl) ?_
   refine O_nil [] (by kernel_rfl) (trivial) ?_
   refine K_seq ?_
   refine B_false rfl rfl ?_
   refine B_skip (K_blk (K_seq (B_region ?_)))
   refine Lo u123 (v_move (.inl rfl) rfl) ?_
   refine Lo u123 (W14 rfl rfl rfl) ?_
   refine Lo u123 (v_move (.inr rfl) rfl) ?_
   refine L_nil ?_
   refine K_loop (mk 123 10633823966279326983230456482242755505) (env' := u123) rfl ⟨j + 1, ?_, rfl, ?_⟩
   ·first | omega | (simp only []; omega)
   ·exact ⟨by omega, rfl⟩
  ·try simp only [qB, qN] at hc2
   refine B_exit (K_seqX (K_loopX (K_blkX (K_seq (B_seq (B_region ?_))))))
   refine Lo u123 (v_const (VVal.int .u64 0) (.inr rfl) rfl) ?_
   refine L_nil (K_seq (B_seq (B_seq (B_region ?_))))
   refine Lo u123 (v_const (VVal.int .i64 0) (.inr rfl) rfl) ?_
   refine L_nil (K_seq (B_block ?_))
   refine B_clear (mk 123 10633823966279326983230456482242750385) (env' := u123) rfl ?_
   refine B_loopE (fun (u : Nat) => p.users.toNat - u) (fun (u : Nat) => [(11, iW (allW ((u : Nat) : Int))), (12, iI (u : Nat))]) (fun (u : Nat) G => (u ≤ p.users.toNat) ∧ G = H ++ [.dead, t6c]) 0 rfl ?_ ?_
   ·refine ⟨?_, rfl⟩
    exact Nat.zero_le _
   rintro u _ ⟨hu9, rfl⟩
   refine B_env (env' := u123) rfl ?_
   refine B_seq (B_seq (B_region ?_))
   refine Lo u123 (v_move (.inl rfl) rfl) ?_
   refine Lo u123 (rfl) ?_
   refine Lo u123 (W1p rfl rfl rfl rfl) ?_
   refine Lo u123 (rfl) ?_
   refine L_nil (K_seq ?_)
   refine B_cond _ rfl (fun hc3 => ?_) (fun hc3 => ?_)
   ·try simp only [qB, qN] at hc3
    refine B_skip (K_seq (B_seq (B_block (B_region ?_))))
    refine Lo u123 (v_move (.inl rfl) rfl) ?_
    refine Lo u123 (v_move (.inl rfl) rfl) ?_
    refine Lo u123 (v_shl1 rfl rfl rfl (by first | assumption | omega | (simp [*]; done) | (simp at *; omega))) ?_
    refine Lo u123 (v_val (v_orW rfl rfl rfl) (congrArg iW (allW_snoc (by omega)))) ?_
    refine Lo u123 (v_move (.inr rfl) rfl) ?_
    refine L_nil (K_blk (K_seq (B_region ?_)))
    refine Lo u123 (v_move (.inl rfl) rfl) ?_
    refine Lo u123 (W14 rfl rfl rfl) ?_
    refine Lo u123 (v_move (.inr rfl) rfl) ?_
    refine L_nil ?_
    refine K_loop (mk 123 10633823966279326983230456482242750385) (env' := u123) rfl ⟨u + 1, ?_, rfl, ?_⟩
    ·first | omega | (simp only []; omega)
    ·exact ⟨by omega, rfl⟩
   ·try simp only [qB, qN] at hc3
    refine B_exit (K_seqX (K_loopX (K_blkX (K_seq (B_seq ?_)))))
    obtain rfl : u = p.users.toNat := by omega
    rw [Int.toNat_of_nonneg g.u0]
    refine B_region ?_
    refine Lo u123 (W1t rfl rfl rfl rfl rfl) ?_
    refine L_call rfl rfl rfl (by exact Twin_L _ p hp (by omega) hne (fun r hr => List.length_pos_iff.2 (rck_steps (g.ru r hr)).1)) ?_
    rintro _ _ ⟨Y, j, k, rfl, rfl, hY1, hY2, hjk⟩
    refine Le u123 ?_
    refine Lo u123 (v_alloc rfl rfl) ?_
    refine Lo u123 (W13 rfl rfl rfl rfl rfl rfl rfl) ?_
    refine L_nil (K_seq (B_seq (B_region ?_)))
    refine Lo u123 (rfl) ?_
    refine Lo u123 (v_storeC (VVal.slice none 0 0 true 0) rfl rfl rfl rfl rfl rfl rfl (by first | exact get_app rfl rfl | exact get_out (by assumption) | exact getE0 rfl rfl | exact get_out (get_app rfl rfl) | exact get_app rfl (by assumption) | assumption | (simp only [List.append_assoc, List.singleton_append, List.cons_append, List.nil_append]; refine getE (i := 0) rfl ?_ rfl; simp; done) | (simp only [List.append_assoc, List.singleton_append, List.cons_append, List.nil_append]; refine getE (i := 1) rfl ?_ rfl; simp; done) | (simp only [List.append_assoc, List.singleton_append, List.cons_append, List.nil_append]; refine getE (i := 2) rfl ?_ rfl; simp; done) | (simp only [List.append_assoc, List.singleton_append, List.cons_append, List.nil_append]; refine getE (i := 3) rfl ?_ rfl; simp; done) | (simp [*]; done)) (by first | exact Nat.le_of_ble_eq_true rfl | (simp only [List.length_map, List.length_cons, List.length_nil]; omega) | omega | (simp; done) | (simp; omega)) (by first | exact setE0 rfl rfl | (simp only [List.append_assoc, List.singleton_append, List.cons_append, List.nil_append]; refine setE (i := 0) rfl ?_; simp; done) | (simp only [List.append_assoc, List.singleton_append, List.cons_append, List.nil_append]; refine setE (i := 1) rfl ?_; simp; done) | (simp only [List.append_assoc, List.singleton_append, List.cons_append, List.nil_append]; refine setE (i := 2) rfl ?_; simp; done) | (simp only [List.append_assoc, List.singleton_append, List.cons_append, List.nil_append]; refine setE (i := 3) rfl ?_; simp; done) | (refine setB rfl ?_; simp; done) | exact set_app rfl | exact set_out (lt_of_get (by assumption)) | rfl)) ?_
    refine L_nil (K_seq (B_seq (B_seq (B_region ?_))))
    refine Lo u123 (v_const (VVal.int .i64 0) (.inr rfl) rfl) ?_
    refine L_nil (K_seq (B_block ?_))
    refine B_clear (mk 123 10633823966279326983230456482242729905) (env' := u123) rfl ?_
    refine B_loopE (fun (i : Nat) => p.rules.length - i) (fun (i : Nat) => [(14, iI (i : Nat))]) (fun (i : Nat) G => (i ≤ p.rules.length) ∧ ∃ lv X, G = ((H ++ [.dead, t6c]) ++ (Y ++ [.cells [iI p.users, .slice (some ((H ++ [.dead, t6c]).length + j, 0)) p.who.length p.who.length false 1, .slice (some ((H ++ [.dead, t6c]).length + k, 0)) p.fixed.length p.fixed.length false 1, lv] true])) ++ X ∧ LV (H.length + 2 + (Y.length + 1)) 3 X lv ((mpR p rs i).flatMap rlB) (mpR p rs i).length) 0 rfl ?_ ?_
    ·refine ⟨?_, ⟨_, [], by rw [List.append_nil]; rfl, LV.nil _ _ _⟩⟩
     exact Nat.zero_le _
    rintro i _ ⟨hi, ⟨lv, X, rfl, hl⟩⟩
    refine B_env (env' := u123) rfl ?_
    refine B_seq (B_seq (B_region ?_))
    refine Lo u123 (v_move (.inl rfl) rfl) ?_
    refine Lo u123 (rfl) ?_
    refine Lo u123 (W1p rfl rfl rfl rfl) ?_
    refine Lo u123 (rfl) ?_
    refine Lo u123 (rfl) ?_
    refine L_nil (K_seq ?_)
    refine B_cond _ rfl (fun hc4 => ?_) (fun hc4 => ?_)
    ·try simp only [qB, qN] at hc4
     refine B_skip (K_seq (B_seq (B_block (B_seq (B_region ?_)))))
     refine Lo u123 (v_move (.inl rfl) rfl) ?_
     refine Lo u123 (v_move (.inl rfl) rfl) ?_
     refine L_call rfl rfl rfl (by exact fin_spec _ rs i hrl) ?_
     rintro _ _ ⟨rfl, rfl⟩
     refine Le u123 ?_
     refine Lo u123 (rfl) ?_
     refine L_nil (K_seq ?_)
     refine B_cond _ rfl (fun hc5 => ?_) (fun hc5 => ?_)
     ·try simp only [qB, qN] at hc5
      refine B_seq (B_region ?_)
      refine Lo u123 (W1t rfl rfl rfl rfl rfl) ?_
      refine L_call rfl rfl rfl (by exact Twin_F _ p hp (by omega) hne (fun r hr => List.length_pos_iff.2 (rck_steps (g.ru r hr)).1)) ?_
      rintro _ _ ⟨rfl, rfl⟩
      refine Le u123 ?_
      refine Lo u123 (v_alloc rfl rfl) ?_
      refine Lo u123 (W13 rfl rfl rfl rfl rfl rfl rfl) ?_
      refine L_nil (K_seq ?_)
      refine B_draw [0, 1, 2, 3, 4, 5, 6, 7, 8, 9, 10] #[0, 1, 0, 4, 0, 28, 60, 124, 255, 511, 1023] (by kernel_rfl) (by kernel_rfl) (by kernel_rfl) ?_
      refine Oo u123 .calm rfl (rfl) ?_
      refine Oo u123 .look rfl (W6l rfl rfl rfl rfl) ?_
      refine Oo u123 .calm rfl (rfl) ?_
      refine Oo u123 .look rfl (W1p rfl rfl rfl rfl) ?_
      refine Oo u123 .calm rfl (v_move (.inl rfl) rfl) ?_
      refine Oo u123 .calm rfl (W18 rfl rfl rfl rfl rfl rfl rfl) ?_
      refine Oo u123 .look rfl (W1t rfl rfl rfl rfl rfl) ?_
      refine Oo u123 .grow rfl (v_buildSlice rfl rfl (by decide) rfl) ?_
      refine O_opX .turn rfl rfl rfl (v_appXh rfl rfl rfl rfl rfl rfl rfl (by simp; omega) (hl.app _) rfl rfl (by decide) (by have := @mpR_len p rs i; show (_ + 1) * 40 ≤ _ ∧ _ + 1 ≤ _; omega) (by decide)) rfl rfl ?_
      rintro _ _ ⟨Y1, rfl, rfl, hX1, hX2, hX3⟩
      refine O_env (env' := u123) rfl ?_
      refine Oo u123 .calm rfl (rfl) ?_
      refine Oo u123 .turn rfl (W5z rfl rfl rfl rfl rfl rfl rfl) ?_
      refine O_nil [] (by kernel_rfl) (trivial) ?_
      refine K_blk (K_seq (B_region ?_))
      refine Lo u123 (v_move (.inl rfl) rfl) ?_
      refine Lo u123 (W14 rfl rfl rfl) ?_
      refine Lo u123 (v_move (.inr rfl) rfl) ?_
      refine L_nil ?_
      refine K_loop (mk 123 10633823966279326983230456482242729905) (env' := u123) rfl ⟨i + 1, ?_, rfl, ?_⟩
      ·first | omega | (simp only []; omega)
      ·first | exact ⟨by omega, _, _, rfl, by rw [mpR_step, if_neg (by simp_all)]; exact LV.pushF hX3⟩ | exact ⟨by omega, _, _, rfl, by rw [mpR_step, if_pos (by simp_all), List.append_nil]; exact hl⟩
     ·try simp only [qB, qN] at hc5
      refine B_skip (K_blk (K_seq (B_region ?_)))
      refine Lo u123 (v_move (.inl rfl) rfl) ?_
      refine Lo u123 (W14 rfl rfl rfl) ?_
      refine Lo u123 (v_move (.inr rfl) rfl) ?_
      refine L_nil ?_
      refine K_loop (mk 123 10633823966279326983230456482242729905) (env' := u123) rfl ⟨i + 1, ?_, rfl, ?_⟩
      ·first | omega | (simp only []; omega)
      ·first | exact ⟨by omega, _, _, rfl, by rw [mpR_step, if_neg (by simp_all)]; exact LV.pushF hX3⟩ | exact ⟨by omega, _, _, rfl, by rw [mpR_step, if_pos (by simp_all), List.append_nil]; exact hl⟩
    ·try simp only [qB, qN] at hc4
     refine B_exit (K_seqX (K_loopX (K_blkX (K_seq (B_seq (B_seq ?_))))))
     obtain rfl : i = p.rules.length := by omega
     refine B_ghCell (H := (H ++ [.dead, t6c])) (L := Y ++ [.cells [iI p.users, .slice (some ((H ++ [.dead, t6c]).length + j, 0)) p.who.length p.who.length false 1, .slice (some ((H ++ [.dead, t6c]).length + k, 0)) p.fixed.length p.fixed.length false 1, lv] true]) Y.length 3 hl get_end rfl (by simp; omega) fun X5 _ _ => ?_
     rw [set_end]
     refine B_heap (List.append_assoc _ _ _) ?_
     refine B_region ?_
     refine Lo u123 (v_const (VVal.int .i64 0) (.inr rfl) rfl) ?_
     refine L_nil (K_seq (B_block ?_))
     refine B_clear (mk 123 10633823966279326983230456482242680755) (env' := u123) rfl ?_
     refine B_loopE (fun (s : Nat) => p.who.length - s) (fun (s : Nat) => [(16, iI (s : Nat))]) (fun (s : Nat) G => (s ≤ p.who.length) ∧ ∃ Z, G = (H ++ [.dead, t6c]) ++ ((Z ++ [.cells [iI p.users, .slice (some ((H ++ [.dead, t6c]).length + j, 0)) p.who.length p.who.length false 1, .slice (some ((H ++ [.dead, t6c]).length + k, 0)) p.fixed.length p.fixed.length false 1, fzR (mpR p rs p.rules.length)] true]) ++ X5) ∧ Z.length = Y.length ∧ Z[j]? = some (.cells ((mpW p (fun m => decide (m < s) && inB ss m)).map iW) true) ∧ Z[k]? = some (.cells ((mpF p (fun m => decide (m < s) && inB ss m)).map iI) true)) 0 rfl ?_ ?_
     ·refine ⟨?_, ⟨Y, rfl, rfl, by rw [beg_f, mpW_no]; exact hY1, by rw [beg_f, mpF_no g5]; exact hY2⟩⟩
      exact Nat.zero_le _
     rintro s _ ⟨hs9, ⟨Z, rfl, hZl, hZ1, hZ2⟩⟩
     refine B_env (env' := u123) rfl ?_
     refine B_seq (B_seq (B_region ?_))
     refine Lo u123 (v_move (.inl rfl) rfl) ?_
     refine Lo u123 (rfl) ?_
     refine Lo u123 (W1p rfl rfl rfl rfl) ?_
     refine Lo u123 (rfl) ?_
     refine Lo u123 (rfl) ?_
     refine L_nil (K_seq ?_)
     refine B_cond _ rfl (fun hc6 => ?_) (fun hc6 => ?_)
     ·try simp only [qB, qN] at hc6
      refine B_skip (K_seq (B_seq (B_block (B_seq (B_region ?_)))))
      refine Lo u123 (v_move (.inl rfl) rfl) ?_
      refine Lo u123 (v_move (.inl rfl) rfl) ?_
      refine L_call rfl rfl rfl (by exact fin_spec _ ss s hsl) ?_
      rintro _ _ ⟨rfl, rfl⟩
      refine Le u123 ?_
      refine L_nil (K_seq ?_)
      refine B_cond _ rfl (fun hc7 => ?_) (fun hc7 => ?_)
      ·try simp only [qB, qN] at hc7
       refine B_seq ?_
       have hin : inB ss s = true := by assumption
       refine B_region ?_
       refine Lo u123 (rfl) ?_
       refine Lo u123 (W6n rfl rfl rfl rfl) ?_
       refine Lo u123 (v_move (.inl rfl) rfl) ?_
       refine Lo u123 (v_move (.inl rfl) rfl) ?_
       refine Lo u123 (W18 rfl rfl rfl rfl rfl rfl rfl) ?_
       refine Lo u123 (W6o rfl rfl rfl rfl rfl rfl rfl) ?_
       refine L_nil (K_seq (B_region ?_))
       refine Lo u123 (rfl) ?_
       refine Lo u123 (W6p rfl rfl rfl rfl) ?_
       refine Lo u123 (v_move (.inl rfl) rfl) ?_
       refine Lo u123 (W18 rfl rfl rfl rfl rfl rfl rfl) ?_
       refine Lo u123 (v_storeC (VVal.int .i64 (-1)) rfl rfl rfl rfl rfl rfl rfl (by exact get_app rfl (get_append (get_append (by rw [List.getElem?_set_ne hjk]; exact hZ2)))) (by show 0 + ((s : Nat) : Int).toNat * 1 + 1 ≤ _; rw [List.length_map, mpF_len]; omega) (by exact (set_app rfl).trans (by rw [set_out (by simp; have := lt_of_get hZ2; omega), set_out (by rw [List.length_set]; exact lt_of_get hZ2)]))) ?_
       refine L_nil (K_blk (K_seq (B_region ?_)))
       refine Lo u123 (v_move (.inl rfl) rfl) ?_
       refine Lo u123 (W14 rfl rfl rfl) ?_
       refine Lo u123 (v_move (.inr rfl) rfl) ?_
       refine L_nil ?_
       refine K_loop (mk 123 10633823966279326983230456482242680755) (env' := u123) rfl ⟨s + 1, ?_, rfl, ?_⟩
       ·first | omega | (simp only []; omega)
       ·first | exact ⟨by omega, _, rfl, by rw [List.length_set, List.length_set]; exact hZl, by rw [List.getElem?_set_ne (Ne.symm hjk), List.getElem?_set_self (lt_of_get hZ1)]; exact congrArg (fun l => some (VBlk.cells l true)) (stepWr (by omega) hin), by rw [List.getElem?_set_self (by rw [List.length_set]; exact lt_of_get hZ2)]; exact congrArg (fun l => some (VBlk.cells l true)) (stepFr (by omega) hin)⟩ | exact ⟨by omega, _, rfl, hZl, by rw [← stp_no (by assumption)]; exact hZ1, by rw [← stp_no (by assumption)]; exact hZ2⟩
      ·try simp only [qB, qN] at hc7
       refine B_skip (K_blk (K_seq (B_region ?_)))
       refine Lo u123 (v_move (.inl rfl) rfl) ?_
       refine Lo u123 (W14 rfl rfl rfl) ?_
       refine Lo u123 (v_move (.inr rfl) rfl) ?_
       refine L_nil ?_
       refine K_loop (mk 123 10633823966279326983230456482242680755) (env' := u123) rfl ⟨s + 1, ?_, rfl, ?_⟩
       ·first | omega | (simp only []; omega)
       ·first | exact ⟨by omega, _, rfl, by rw [List.length_set, List.length_set]; exact hZl, by rw [List.getElem?_set_ne (Ne.symm hjk), List.getElem?_set_self (lt_of_get hZ1)]; exact congrArg (fun l => some (VBlk.cells l true)) (stepWr (by omega) hin), by rw [List.getElem?_set_self (by rw [List.length_set]; exact lt_of_get hZ2)]; exact congrArg (fun l => some (VBlk.cells l true)) (stepFr (by omega) hin)⟩ | exact ⟨by omega, _, rfl, hZl, by rw [← stp_no (by assumption)]; exact hZ1, by rw [← stp_no (by assumption)]; exact hZ2⟩
     ·try simp only [qB, qN] at hc6
      refine B_exit (K_seqX (K_loopX (K_blkX (K_seq (B_seq ?_)))))
      obtain rfl : s = p.who.length := by omega
      rw [endW] at hZ1
      rw [endF] at hZ2
      have hjl := lt_of_get hZ1; have hkl := lt_of_get hZ2
      refine B_gh (Gh.cellL (H := (H ++ [.dead, t6c])) (l := (mpW p (inB ss)).map iW) Y.length 1 j (get_append (get_endE hZl)) rfl (by omega) (get_append (get_append hZ1)) (cellsAt_all (by rw [List.length_map, mpW_len])) (Nat.le_refl _)) ?_
      refine B_gh (Gh.cellL (H := (H ++ [.dead, t6c])) (l := (mpF p (inB ss)).map iI) Y.length 2 k (List.getElem?_set_self (by simp; omega)) rfl (by omega) (by rw [List.getElem?_set_ne (by omega), List.getElem?_set_ne hjk]; exact get_append (get_append hZ2)) (cellsAt_all (by rw [List.length_map, mpF_len, g5])) (Nat.le_refl _)) ?_
      refine B_region ?_
      refine Lo u123 (W6q rfl rfl rfl rfl rfl) ?_
      refine Lo u123 (W64 rfl rfl rfl rfl rfl rfl rfl) ?_
      refine Lo u123 (v_const (VVal.int .i64 0) (.inr rfl) rfl) ?_
      refine L_nil (K_seq ?_)
      refine B_heap (List.append_assoc _ _ _) ?_
      refine B_ret ?_
      refine W65 (.inr rfl) (vres_cAt rfl rfl rfl rfl (by first | exact get_app rfl rfl | exact getB rfl rfl) (by first | rfl | assumption | exact fgetN (α := BitVec 64) 0 (by omega) | exact fgetN (α := Int) 0 (by omega) | exact rul_at (by omega)) rfl) ?_
      exact ⟨by rw [he, woP_ok he]; show _ = VVal.tuple [.agg [iI p.users, .fsl ((mpW p (inB ss)).map iW) (mpW p (inB ss)).length 1 false, .fsl ((mpF p (inB ss)).map iI) (mpF p (inB ss)).length 1 false, fzR (mpR p rs p.rules.length)], iI 0]; rw [mpW_len, mpF_len, g5]; rfl, rfl⟩
theorem fWithout_0 {x : SW} (H : VHeap) (p : Pb) (rs ss : List Int) (hp : PbL p) (hrl : rs.length ≤ 1000000) (hsl : ss.length ≤ 1000000) (he : woE p rs ss = 0) (h0 : p.who = []) : F (psys x) 33 [.agg (pbB p), fzI rs, fzI ss] H fun v G => v = .tuple [.agg (pbB (woP p rs ss)), iI (woE p rs ss)] ∧ G = H := by
 obtain ⟨g, hlr, hls⟩ := woE_ok.1 he
 obtain ⟨h1, h2⟩ := woP_0 g h0
 have h3 : ss = [] := ltB_0 (by rw [h0] at hls; exact hls)
 have h5 : rs = [] := ltB_0 (by rw [h2] at hlr; exact hlr)
 have h7 := g.u64; have h8 := g.u0
 refine F_body Tryd.func33 rfl u123 rfl ?_
 refine B_seq (B_region ?_)
 refine Lo u123 (v_boxT rfl rfl rfl) ?_
 refine Lo u123 (v_alloc rfl rfl) ?_
 refine Lo u123 (v_const (VVal.int .i64 0) (.inr rfl) rfl) ?_
 refine L_nil (K_seq (B_seq ?_))
 refine B_gh (Gh.freezePtrL (cs := pbB p) 3 0 rfl rfl rfl) ?_
 refine B_region ?_
 refine Lo u123 (W1t rfl rfl rfl rfl rfl) ?_
 refine L_call rfl rfl rfl (by exact fpCheck_spec _ p hp) ?_
 rintro _ _ ⟨rfl, rfl⟩
 refine Le u123 ?_
 refine Lo u123 (v_move (.inr rfl) rfl) ?_
 refine L_nil (K_seq (B_seq (B_seq (B_region ?_))))
 refine Lo u123 (v_move (.inl rfl) rfl) ?_
 refine Lo u123 (v_is false rfl (by rw [pck_good.2 g]; rfl)) ?_
 refine L_nil (K_seq ?_)
 refine B_false rfl rfl ?_
 refine B_skip (K_seq (B_seq (B_seq (B_region ?_))))
 refine Lo u123 (v_const (VVal.int .i64 0) (.inr rfl) rfl) ?_
 refine L_nil (K_seq (B_block ?_))
 refine B_clear (mk 123 10633823966279326983230456482242756017) (env' := u123) rfl ?_
 refine B_loopE (fun (i : Nat) => rs.length - i) (fun (i : Nat) => [(9, iI (i : Nat))]) (fun (i : Nat) G => (i ≤ rs.length) ∧ G = H ++ [.dead, t6c]) 0 rfl ?_ ?_
 ·refine ⟨?_, rfl⟩
  exact Nat.zero_le _
 rintro i _ ⟨hi, rfl⟩
 refine B_env (env' := u123) rfl ?_
 refine B_seq (B_seq (B_region ?_))
 refine Lo u123 (v_move (.inl rfl) rfl) ?_
 refine Lo u123 (v_move (.inl rfl) rfl) ?_
 refine Lo u123 (rfl) ?_
 refine Lo u123 (rfl) ?_
 refine L_nil (K_seq ?_)
 refine B_cond _ rfl (fun hc1 => ?_) (fun hc1 => ?_)
 ·try simp only [qB, qN] at hc1
  exfalso
  rw [h5] at hc1; simp at hc1; omega
 ·try simp only [qB, qN] at hc1
  refine B_exit (K_seqX (K_loopX (K_blkX (K_seq (B_seq (B_seq (B_region ?_)))))))
  refine Lo u123 (v_const (VVal.int .i64 0) (.inr rfl) rfl) ?_
  refine L_nil (K_seq (B_block ?_))
  refine B_clear (mk 123 10633823966279326983230456482242755505) (env' := u123) rfl ?_
  refine B_loopE (fun (j : Nat) => ss.length - j) (fun (j : Nat) => [(10, iI (j : Nat))]) (fun (j : Nat) G => (j ≤ ss.length) ∧ G = H ++ [.dead, t6c]) 0 rfl ?_ ?_
  ·refine ⟨?_, rfl⟩
   exact Nat.zero_le _
  rintro j _ ⟨hj, rfl⟩
  refine B_env (env' := u123) rfl ?_
  refine B_seq (B_seq (B_region ?_))
  refine Lo u123 (v_move (.inl rfl) rfl) ?_
  refine Lo u123 (v_move (.inl rfl) rfl) ?_
  refine Lo u123 (rfl) ?_
  refine Lo u123 (rfl) ?_
  refine L_nil (K_seq ?_)
  refine B_cond _ rfl (fun hc2 => ?_) (fun hc2 => ?_)
  ·try simp only [qB, qN] at hc2
   exfalso
   rw [h3] at hc2; simp at hc2; omega
  ·try simp only [qB, qN] at hc2
   refine B_exit (K_seqX (K_loopX (K_blkX (K_seq (B_seq (B_region ?_))))))
   refine Lo u123 (v_const (VVal.int .u64 0) (.inr rfl) rfl) ?_
   refine L_nil (K_seq (B_seq (B_seq (B_region ?_))))
   refine Lo u123 (v_const (VVal.int .i64 0) (.inr rfl) rfl) ?_
   refine L_nil (K_seq (B_block ?_))
   refine B_clear (mk 123 10633823966279326983230456482242750385) (env' := u123) rfl ?_
   refine B_loopE (fun (u : Nat) => p.users.toNat - u) (fun (u : Nat) => [(11, iW (allW ((u : Nat) : Int))), (12, iI (u : Nat))]) (fun (u : Nat) G => (u ≤ p.users.toNat) ∧ G = H ++ [.dead, t6c]) 0 rfl ?_ ?_
   ·refine ⟨?_, rfl⟩
    exact Nat.zero_le _
   rintro u _ ⟨hu9, rfl⟩
   refine B_env (env' := u123) rfl ?_
   refine B_seq (B_seq (B_region ?_))
   refine Lo u123 (v_move (.inl rfl) rfl) ?_
   refine Lo u123 (rfl) ?_
   refine Lo u123 (W1p rfl rfl rfl rfl) ?_
   refine Lo u123 (rfl) ?_
   refine L_nil (K_seq ?_)
   refine B_cond _ rfl (fun hc3 => ?_) (fun hc3 => ?_)
   ·try simp only [qB, qN] at hc3
    refine B_skip (K_seq (B_seq (B_block (B_region ?_))))
    refine Lo u123 (v_move (.inl rfl) rfl) ?_
    refine Lo u123 (v_move (.inl rfl) rfl) ?_
    refine Lo u123 (v_shl1 rfl rfl rfl (by first | assumption | omega | (simp [*]; done) | (simp at *; omega))) ?_
    refine Lo u123 (v_val (v_orW rfl rfl rfl) (congrArg iW (allW_snoc (by omega)))) ?_
    refine Lo u123 (v_move (.inr rfl) rfl) ?_
    refine L_nil (K_blk (K_seq (B_region ?_)))
    refine Lo u123 (v_move (.inl rfl) rfl) ?_
    refine Lo u123 (W14 rfl rfl rfl) ?_
    refine Lo u123 (v_move (.inr rfl) rfl) ?_
    refine L_nil ?_
    refine K_loop (mk 123 10633823966279326983230456482242750385) (env' := u123) rfl ⟨u + 1, ?_, rfl, ?_⟩
    ·first | omega | (simp only []; omega)
    ·exact ⟨by omega, rfl⟩
   ·try simp only [qB, qN] at hc3
    refine B_exit (K_seqX (K_loopX (K_blkX (K_seq (B_seq ?_)))))
    obtain rfl : u = p.users.toNat := by omega
    rw [Int.toNat_of_nonneg g.u0]
    refine B_region ?_
    refine Lo u123 (W1t rfl rfl rfl rfl rfl) ?_
    refine L_call rfl rfl rfl (by exact Twin_0 _ p h0 h1 h2) ?_
    rintro _ _ ⟨rfl, rfl⟩
    refine Le u123 ?_
    refine Lo u123 (v_alloc rfl rfl) ?_
    refine Lo u123 (W13 rfl rfl rfl rfl rfl rfl rfl) ?_
    refine L_nil (K_seq (B_seq (B_region ?_)))
    refine Lo u123 (rfl) ?_
    refine Lo u123 (v_storeC (VVal.slice none 0 0 true 0) rfl rfl rfl rfl rfl rfl rfl (by first | exact get_app rfl rfl | exact get_out (by assumption) | exact getE0 rfl rfl | exact get_out (get_app rfl rfl) | exact get_app rfl (by assumption) | assumption | (simp only [List.append_assoc, List.singleton_append, List.cons_append, List.nil_append]; refine getE (i := 0) rfl ?_ rfl; simp; done) | (simp only [List.append_assoc, List.singleton_append, List.cons_append, List.nil_append]; refine getE (i := 1) rfl ?_ rfl; simp; done) | (simp only [List.append_assoc, List.singleton_append, List.cons_append, List.nil_append]; refine getE (i := 2) rfl ?_ rfl; simp; done) | (simp only [List.append_assoc, List.singleton_append, List.cons_append, List.nil_append]; refine getE (i := 3) rfl ?_ rfl; simp; done) | (simp [*]; done)) (by first | exact Nat.le_of_ble_eq_true rfl | (simp only [List.length_map, List.length_cons, List.length_nil]; omega) | omega | (simp; done) | (simp; omega)) (by first | exact setE0 rfl rfl | (simp only [List.append_assoc, List.singleton_append, List.cons_append, List.nil_append]; refine setE (i := 0) rfl ?_; simp; done) | (simp only [List.append_assoc, List.singleton_append, List.cons_append, List.nil_append]; refine setE (i := 1) rfl ?_; simp; done) | (simp only [List.append_assoc, List.singleton_append, List.cons_append, List.nil_append]; refine setE (i := 2) rfl ?_; simp; done) | (simp only [List.append_assoc, List.singleton_append, List.cons_append, List.nil_append]; refine setE (i := 3) rfl ?_; simp; done) | (refine setB rfl ?_; simp; done) | exact set_app rfl | exact set_out (lt_of_get (by assumption)) | rfl)) ?_
    refine L_nil (K_seq (B_seq (B_seq ?_)))
    refine B_gh (Gh.cellNilL 2 3 (es' := 3) rfl rfl) ?_
    refine B_region ?_
    refine Lo u123 (v_const (VVal.int .i64 0) (.inr rfl) rfl) ?_
    refine L_nil (K_seq (B_block ?_))
    refine B_clear (mk 123 10633823966279326983230456482242729905) (env' := u123) rfl ?_
    refine B_loopE (fun (i : Nat) => p.rules.length - i) (fun (i : Nat) => [(14, iI (i : Nat))]) (fun (i : Nat) G => (i ≤ p.rules.length) ∧ G = H ++ [.dead, t6c, .cells [iI p.users, fzW p.who, fzI p.fixed, .fsl [] 0 3 false] true]) 0 rfl ?_ ?_
    ·refine ⟨?_, rfl⟩
     exact Nat.zero_le _
    rintro i _ ⟨hi, rfl⟩
    refine B_env (env' := u123) rfl ?_
    refine B_seq (B_seq (B_region ?_))
    refine Lo u123 (v_move (.inl rfl) rfl) ?_
    refine Lo u123 (rfl) ?_
    refine Lo u123 (W1p rfl rfl rfl rfl) ?_
    refine Lo u123 (rfl) ?_
    refine Lo u123 (rfl) ?_
    refine L_nil (K_seq ?_)
    refine B_cond _ rfl (fun hc4 => ?_) (fun hc4 => ?_)
    ·try simp only [qB, qN] at hc4
     exfalso
     rw [h2] at hc4; simp at hc4; omega
    ·try simp only [qB, qN] at hc4
     refine B_exit (K_seqX (K_loopX (K_blkX (K_seq (B_seq (B_seq (B_region ?_)))))))
     refine Lo u123 (v_const (VVal.int .i64 0) (.inr rfl) rfl) ?_
     refine L_nil (K_seq (B_block ?_))
     refine B_clear (mk 123 10633823966279326983230456482242680755) (env' := u123) rfl ?_
     refine B_loopE (fun (s : Nat) => p.who.length - s) (fun (s : Nat) => [(16, iI (s : Nat))]) (fun (s : Nat) G => (s ≤ p.who.length) ∧ G = H ++ [.dead, t6c, .cells [iI p.users, fzW p.who, fzI p.fixed, .fsl [] 0 3 false] true]) 0 rfl ?_ ?_
     ·refine ⟨?_, rfl⟩
      exact Nat.zero_le _
     rintro s _ ⟨hs9, rfl⟩
     refine B_env (env' := u123) rfl ?_
     refine B_seq (B_seq (B_region ?_))
     refine Lo u123 (v_move (.inl rfl) rfl) ?_
     refine Lo u123 (rfl) ?_
     refine Lo u123 (W1p rfl rfl rfl rfl) ?_
     refine Lo u123 (rfl) ?_
     refine Lo u123 (rfl) ?_
     refine L_nil (K_seq ?_)
     refine B_cond _ rfl (fun hc5 => ?_) (fun hc5 => ?_)
     ·try simp only [qB, qN] at hc5
      exfalso
      rw [h0] at hc5; simp at hc5; omega
     ·try simp only [qB, qN] at hc5
      refine B_exit (K_seqX (K_loopX (K_blkX (K_seq (B_seq (B_region ?_))))))
      refine Lo u123 (W1t rfl rfl rfl rfl rfl) ?_
      refine Lo u123 (W13 rfl rfl rfl rfl rfl rfl rfl) ?_
      refine Lo u123 (v_const (VVal.int .i64 0) (.inr rfl) rfl) ?_
      refine L_nil (K_seq (B_ret ?_))
      refine W66 (.inr rfl) (vres_cAt rfl rfl rfl rfl (by first | exact get_app rfl rfl | exact getB rfl rfl) (by first | rfl | assumption | exact fgetN (α := BitVec 64) 0 (by omega) | exact fgetN (α := Int) 0 (by omega) | exact rul_at (by omega)) rfl) ?_
      exact ⟨by rw [he, woP_ok he, woQ_0 g h0]; rfl, rfl⟩
theorem fWithout_spec {x : SW} (H : VHeap) (p : Pb) (rs ss : List Int) (hp : PbL p) (hrl : rs.length ≤ 1000000) (hsl : ss.length ≤ 1000000) : F (psys x) 33 [.agg (pbB p), fzI rs, fzI ss] H fun v G => v = .tuple [.agg (pbB (woP p rs ss)), iI (woE p rs ss)] ∧ G = H := by
  by_cases he : woE p rs ss = 0
  · by_cases h0 : p.who.length = 0
    · exact fWithout_0 H p rs ss hp hrl hsl he (List.eq_nil_of_length_eq_zero h0)
    · exact fWithout_F H p rs ss hp hrl hsl he (by omega)
  · exact fWithout_e H p rs ss hp hrl hsl he
end Go.Proofs.YtalmjnkcibgclaaDoor.VT

set_option autoImplicit false
set_option linter.unusedVariables false
set_option linter.unusedSimpArgs false
set_option maxHeartbeats 4000000
set_option maxRecDepth 100000
namespace Go.Proofs.YtalmjnkcibgclaaDoor.VT
open Go Go.V Go.RowKit
abbrev u49 {a0 a1 a2 a3 a4 a5 a6 a7 a8 a9 a10 a11 a12 a13 a14 a15 a16 a17 a18 a19 a20 a21 a22 a23 a24 a25 a26 a27 a28 a29 a30 a31 a32 a33 a34 a35 a36 a37 a38 a39 a40 a41 a42 a43 a44 a45 a46 a47 a48 : VVal} : VEnv := a0 :: a1 :: a2 :: a3 :: a4 :: a5 :: a6 :: a7 :: a8 :: a9 :: a10 :: a11 :: a12 :: a13 :: a14 :: a15 :: a16 :: a17 :: a18 :: a19 :: a20 :: a21 :: a22 :: a23 :: a24 :: a25 :: a26 :: a27 :: a28 :: a29 :: a30 :: a31 :: a32 :: a33 :: a34 :: a35 :: a36 :: a37 :: a38 :: a39 :: a40 :: a41 :: a42 :: a43 :: a44 :: a45 :: a46 :: a47 :: a48 :: []
theorem W6v {T : TypeId → Option VTy} {H : VHeap} {op : Op} {ρ : Operand → VVal} {t : TypeId} {a : Operand} {y : VTy} {p v : VVal} (ho : op = .load t a) (ha : ρ a = p) (hy : T t = some y) (hd : isAggDesc y.desc = false) (h : LdOk H p v := by first | exact .inl ⟨_, _, rfl, by first | rfl | assumption⟩ | exact .inr ⟨_, _, _, _, rfl, by exact get_append (wh_at (n := 3) rfl), by first | rfl | assumption⟩) : vop T ρ H op = some (v, H) := v_ld ho ha hy hd h
theorem W6w {T : TypeId → Option VTy} {H : VHeap} {op : Op} {ρ : Operand → VVal} {t : TypeId} {a : Operand} {y : VTy} {p v : VVal} (ho : op = .load t a) (ha : ρ a = p) (hy : T t = some y) (hd : isAggDesc y.desc = false) (h : LdOk H p v := by first | exact .inl ⟨_, _, rfl, by first | rfl | assumption⟩ | exact .inr ⟨_, _, _, _, rfl, by exact get_append (wh_at (n := 4) rfl), by first | rfl | assumption⟩) : vop T ρ H op = some (v, H) := v_ld ho ha hy hd h
theorem W6y {T : TypeId → Option VTy} {H : VHeap} {op : Op} {ρ : Operand → VVal} {t : TypeId} {a : Operand} {y : VTy} {p v : VVal} (ho : op = .load t a) (ha : ρ a = p) (hy : T t = some y) (hd : isAggDesc y.desc = false) (h : LdOk H p v := by first | exact .inl ⟨_, _, rfl, by first | rfl | assumption⟩ | exact .inr ⟨_, _, _, _, rfl, by exact get_append (wh_at (n := 2) rfl), by first | rfl | assumption⟩) : vop T ρ H op = some (v, H) := v_ld ho ha hy hd h
theorem W6z {S : V.Sys} {H : VHeap} {fn : Func} {ex : Exit} {env : VEnv} {B L : VHeap} {v : VVal} {R : VVal → VHeap → Prop} (hx : ex = .normal ∨ ex = .ret) (hv : vresults S.C.T env (B ++ L) fn.results = some v) (h : R v B) (hB : BaseOk H B := by exact wh_base) (hu : v.under H.length = true := by first | rfl | simp [VVal.under, VVal.underL, *]) : fnK S fn H R ex env (B ++ L) := E_app hx hv hB hu h
theorem W70 {T : TypeId → Option VTy} {H : VHeap} {op : Op} {ρ : Operand → VVal} {t : TypeId} {a : Operand} {y : VTy} {p v : VVal} (ho : op = .load t a) (ha : ρ a = p) (hy : T t = some y) (hd : isAggDesc y.desc = false) (h : LdOk H p v := by first | exact .inl ⟨_, _, rfl, by first | rfl | assumption⟩ | exact .inr ⟨_, _, _, _, rfl, by first | exact wh_at (n := 3) rfl | exact get_append (wh_at (n := 3) rfl), by first | rfl | assumption⟩) : vop T ρ H op = some (v, H) := v_ld ho ha hy hd h
theorem W71 {T : TypeId → Option VTy} {H : VHeap} {op : Op} {ρ : Operand → VVal} {t : TypeId} {a : Operand} {y : VTy} {p v : VVal} (ho : op = .load t a) (ha : ρ a = p) (hy : T t = some y) (hd : isAggDesc y.desc = false) (h : LdOk H p v := by first | exact .inl ⟨_, _, rfl, by first | rfl | assumption⟩ | exact .inr ⟨_, _, _, _, rfl, by exact wh_at (n := 3) rfl, by first | rfl | assumption⟩) : vop T ρ H op = some (v, H) := v_ld ho ha hy hd h
theorem W74 {T : TypeId → Option VTy} {H : VHeap} {op : Op} {ρ : Operand → VVal} {t : TypeId} {a : Operand} {y : VTy} {p v : VVal} (ho : op = .load t a) (ha : ρ a = p) (hy : T t = some y) (hd : isAggDesc y.desc = false) (h : LdOk H p v := by first | exact .inl ⟨_, _, rfl, by first | rfl | assumption⟩ | exact .inr ⟨_, _, _, _, rfl, by first | exact wh_at (n := 4) rfl | exact get_append (wh_at (n := 4) rfl), by first | rfl | assumption⟩) : vop T ρ H op = some (v, H) := v_ld ho ha hy hd h
theorem W75 {T : TypeId → Option VTy} {H : VHeap} {op : Op} {ρ : Operand → VVal} {t : TypeId} {a : Operand} {y : VTy} {p v : VVal} (ho : op = .load t a) (ha : ρ a = p) (hy : T t = some y) (hd : isAggDesc y.desc = false) (h : LdOk H p v := by first | exact .inl ⟨_, _, rfl, by first | rfl | assumption⟩ | exact .inr ⟨_, _, _, _, rfl, by exact wh_at (n := 4) rfl, by first | rfl | assumption⟩) : vop T ρ H op = some (v, H) := v_ld ho ha hy hd h
def stW (p : Pb) (a c : List Nat) : Bool := !(leA (woP p (zI a) (zI c))).isSome
def whA (p : Pb) : List Nat × List Nat := gr (fun l => stW p l []) p.rules.length
def whC (p : Pb) : List Nat × List Nat := gr (fun l => stW p (whA p).1 l) p.who.length
def whB (p : Pb) : Bool := decide (pck p = 0) && !(leA p).isSome
def whV (p : Pb) : VVal := if whB p = true then .tuple [fzN (whA p).2, fzN (whC p).2, .bool true] else .tuple [fzN [], fzN [], .bool false]
def whH (H : VHeap) (g : Gz) (a b c d : VVal) : VHeap := H ++ [.dead, gaB g, .cells [.ptr (some (H.length + 1, 0))] true, .cells [a, b] true, .cells [c, d] true]
abbrev stV (H : VHeap) (p : Pb) : VVal := .func 68 [] [.fptr (pbB p) 0, .ptr (some (H.length + 3, 0)), .ptr (some (H.length + 4, 0)), .ptr (some (H.length + 2, 0))]
section
variable {H X : VHeap} {g : Gz} {a b c d w : VVal}
theorem wh_len : (whH H g a b c d).length = H.length + 5 := by unfold whH; rw [List.length_append]; rfl
theorem wh_at {n : Nat} {k : VBlk} (hk : [VBlk.dead, gaB g, .cells [.ptr (some (H.length + 1, 0))] true, .cells [a, b] true, .cells [c, d] true][n]? = some k) : (whH H g a b c d ++ X)[H.length + n]? = some k := by
  unfold whH; rw [List.append_assoc]; exact get_app rfl (get_append hk)
theorem wh_setg {g' : Gz} : (whH H g a b c d ++ X).set (H.length + 1) (gaB g') = whH H g' a b c d ++ X := by
  unfold whH; rw [List.append_assoc, set_app rfl, List.append_assoc]; rfl
theorem wh_set0 : (whH H g a b c d ++ X).set (H.length + 3) (.cells (splice [a, b] (0 + 0) [w]) true) = whH H g w b c d ++ X := by
  unfold whH; rw [List.append_assoc, set_app rfl, List.append_assoc]; rfl
theorem wh_set1 : (whH H g a b c d ++ X).set (H.length + 3) (.cells (splice [a, b] (0 + 1) [w]) true) = whH H g a w c d ++ X := by
  unfold whH; rw [List.append_assoc, set_app rfl, List.append_assoc]; rfl
theorem wh_set2 : (whH H g a b c d ++ X).set (H.length + 4) (.cells (splice [c, d] (0 + 0) [w]) true) = whH H g a b w d ++ X := by
  unfold whH; rw [List.append_assoc, set_app rfl, List.append_assoc]; rfl
theorem wh_set3 : (whH H g a b c d ++ X).set (H.length + 4) (.cells (splice [c, d] (0 + 1) [w]) true) = whH H g a b c w ++ X := by
  unfold whH; rw [List.append_assoc, set_app rfl, List.append_assoc]; rfl
theorem wh_rd {l : List Nat} (r : RV (H.length + 5) X w (rcN l)) : RD (whH H g a b c d ++ X) w (zI l) := RD.of_rv (by rw [wh_len]; exact r)
end
theorem gr_yes {st : List Nat → Bool} {n : Nat} (h : st ((gr st n).1 ++ [n]) = true) : gr st (n + 1) = ((gr st n).1 ++ [n], (gr st n).2) := by rw [gr_succ, if_pos h]
theorem gr_no {st : List Nat → Bool} {n : Nat} (h : st ((gr st n).1 ++ [n]) = false) : gr st (n + 1) = ((gr st n).1, (gr st n).2 ++ [n]) := by rw [gr_succ, if_neg (by rw [h]; decide)]
theorem LV.pushN {h : Nat} {X : VHeap} {v : VVal} {l : List Nat} {n : Nat} (r : LV h 1 X v (rcN l ++ [iI (n : Nat)]) (l.length + 1)) : LV h 1 X v (rcN (l ++ [n])) (l ++ [n]).length := by
  rw [rcN_snoc, List.length_append]; exact r
theorem wh_base {H X : VHeap} {g g1 : Gz} {a b c d : VVal} : BaseOk (whH H g a b c d ++ X) (whH H g1 a b c d ++ X) := by
  have := BaseOk.set (BaseOk.refl (whH H g a b c d ++ X)) (H.length + 1) (k := gaB g1) rfl
  rw [wh_setg] at this; exact this
theorem fzI_N {l : List Nat} : fzN l = fzI (zI l) := fzN_is l
theorem Why1_spec {x : SW} (H X : VHeap) (g : Gz) (a b c d : VVal) (p : Pb) (hp : PbL p) (l m : List Nat) (hl : RD (whH H g a b c d ++ X) a (zI l)) (hm : RD (whH H g a b c d ++ X) c (zI m)) (h1 : l.length ≤ 1000) (h2 : m.length ≤ 1000) : F (psys x) 68 [.fptr (pbB p) 0, .ptr (some (H.length + 3, 0)), .ptr (some (H.length + 4, 0)), .ptr (some (H.length + 2, 0))] (whH H g a b c d ++ X) fun v G => v = .bool (stW p l m) ∧ ∃ g1, G = whH H g1 a b c d ++ X := by
 refine F_body Tryd.func68 rfl u20 rfl ?_
 refine B_seq (B_region ?_)
 refine Lo u20 (v_const (VVal.bool false) (.inr rfl) rfl) ?_
 refine L_nil (K_seq (B_seq (B_region ?_)))
 refine Lo u20 (W4u rfl rfl rfl rfl rfl) ?_
 refine Lo u20 (rfl) ?_
 refine Lo u20 (W6v rfl rfl rfl rfl) ?_
 refine Lo u20 (rfl) ?_
 refine Lo u20 (W6w rfl rfl rfl rfl) ?_
 refine L_call rfl rfl rfl (by exact Without_spec _ p a c (zI l) (zI m) hp (by first | exact hl | exact hl.app _) (by first | exact hm | exact hm.app _) (by rw [zI_len]; omega) (by rw [zI_len]; omega)) ?_
 rintro _ _ ⟨rfl, rfl⟩
 refine Le u20 ?_
 refine Lo u20 (v_move (.inl rfl) rfl) ?_
 refine Lo u20 (rfl) ?_
 refine Lo u20 (rfl) ?_
 refine Lo u20 (v_alloc rfl rfl) ?_
 refine Lo u20 (W13 rfl rfl rfl rfl rfl rfl rfl) ?_
 refine Lo u20 (v_move (.inr rfl) rfl) ?_
 refine L_nil (K_seq (B_seq (B_region ?_)))
 refine Lo u20 (W6y rfl rfl rfl rfl) ?_
 refine Lo u20 (W4u rfl rfl rfl rfl rfl) ?_
 refine L_call rfl rfl rfl (by exact Can_spec _ (H.length + 1) g (get_append (wh_at (n := 1) rfl)) (woP p (zI l) (zI m)) (woP_L hp)) ?_
 rintro _ _ ⟨rfl, rfl⟩; rw [set_out (by rw [List.length_append, wh_len]; omega), wh_setg]
 refine Le u20 ?_
 refine Lo u20 (rfl) ?_
 refine Lo u20 (v_move (.inr rfl) rfl) ?_
 refine L_nil (K_seq (B_ret ?_))
 refine W6z (.inr rfl) (vres_tmp rfl rfl) ?_
 exact ⟨rfl, _, rfl⟩
theorem tryR_spec {x : SW} (H : VHeap) (g : Gz) (p : Pb) (hp : PbL p) (X : VHeap) (n : Nat) (hn : n ≤ 900) (st : List Nat → Bool) (hst : st = fun l => stW p l []) : F (psys x) 69 [.ptr (some (H.length + 3, 0)), iI (n : Nat), stV H p] (whH H g niS niS niS niS ++ X) fun v G => ∃ X g1 rv lv, G = whH H g1 rv lv niS niS ++ X ∧ RV (H.length + 5) X rv (rcN (gr st n).1) ∧ LV (H.length + 5) 1 X lv (rcN (gr st n).2) (gr st n).2.length ∧ Dj lv rv := by
 refine F_body Tryd.func69 rfl u49 rfl ?_
 refine B_seq (B_region ?_)
 refine Lo u49 (v_move (.inl rfl) rfl) ?_
 refine Lo u49 (v_const (VVal.int .i64 0) (.inl rfl) rfl) ?_
 refine L_nil (K_seq (B_block ?_))
 refine B_clear (mk 49 562949953420922) (env' := u49) rfl ?_
 refine B_loopE (fun (i : Nat) => n - i) (fun (i : Nat) => [(8, iI (i : Nat))]) (fun (i : Nat) G => (i ≤ n) ∧ ∃ X g1 rv lv, G = whH H g1 rv lv niS niS ++ X ∧ RV (H.length + 5) X rv (rcN (gr st i).1) ∧ LV (H.length + 5) 1 X lv (rcN (gr st i).2) (gr st i).2.length ∧ Dj lv rv) 0 rfl ?_ ?_
 ·refine ⟨?_, ⟨X, g, niS, niS, List.append_nil _, RV.nil _ _, LV.nil _ _ _, fun n h => by cases h⟩⟩
  exact Nat.zero_le _
 rintro i _ ⟨hi, ⟨X, g, rv, lv, rfl, hR, hL, hD⟩⟩
 refine B_env (env' := u49) rfl ?_
 have hgl := @gr_len st i
 have hRl := hR.lt
 refine B_seq (B_region ?_)
 refine Lo u49 (rfl) ?_
 refine L_nil (K_seq (B_seq ?_))
 refine B_cond _ rfl (fun hc1 => ?_) (fun hc1 => ?_)
 ·try simp only [qB, qN] at hc1
  refine B_skip (K_seq (B_seq (B_block (B_seq (B_region ?_)))))
  refine Lo u49 (v_move (.inl rfl) rfl) ?_
  refine Lo u49 (v_move (.inr rfl) rfl) ?_
  refine L_nil (K_seq (B_seq (B_region ?_)))
  refine Lo u49 (v_move (.inl rfl) rfl) ?_
  refine Lo u49 (v_move (.inl rfl) rfl) ?_
  refine Lo u49 (rfl) ?_
  refine Lo u49 (rfl) ?_
  refine Lo u49 (W70 rfl rfl rfl rfl) ?_
  refine Lo u49 (v_move (.inl rfl) rfl) ?_
  refine Lo u49 (v_buildSlice rfl rfl (by decide) rfl) ?_
  refine L_opX rfl rfl (v_rvAppK rfl rfl rfl rfl rfl rfl rfl rfl (by rw [wh_len]; exact hR) rfl (by rw [List.length_map]; show ((gr st i).1.length + 1) * 8 ≤ _ ∧ _; omega)) ?_
  rintro v2 _ ⟨Y2, rfl, hR1, hF⟩; rw [wh_len] at hR1 hF; have hR2 : RV (H.length + 5) Y2 v2 (rcN ((gr st i).1 ++ [i])) := by rw [rcN_snoc]; exact hR1
  obtain ⟨hL2, hD2⟩ := hF.keep hL hD
  refine Le u49 ?_
  refine Lo u49 (rfl) ?_
  refine Lo u49 (rfl) ?_
  refine Lo u49 (v_storeT rfl rfl rfl rfl hR2.cells rfl (by simp [hR2.one]) (wh_at (n := 3) rfl) (Nat.le_of_ble_eq_true rfl) wh_set0) ?_
  refine L_nil (K_seq (B_seq (B_region ?_)))
  refine Lo u49 (v_move (.inl rfl) rfl) ?_
  refine L_call rfl rfl rfl (by exact Why1_spec H Y2 _ _ _ _ _ p hp ((gr st i).1 ++ [i]) [] (wh_rd hR2) (RD.nil _) (by first | (rw [List.length_append]; show _ + 1 ≤ _; omega) | omega | exact Nat.zero_le _) (by first | (rw [List.length_append]; show _ + 1 ≤ _; omega) | omega | exact Nat.zero_le _)) ?_
  rintro _ _ ⟨rfl, g2, rfl⟩
  refine Le u49 ?_
  refine Lo u49 (rfl) ?_
  refine L_nil (K_seq ?_)
  refine B_cond _ rfl (fun hc2 => ?_) (fun hc2 => ?_)
  ·try simp only [qB, qN] at hc2
   have hs1 : st ((gr st i).1 ++ [i]) = false := (congrFun hst _).trans (by simpa using hc2)
   refine B_seq ?_
   refine B_draw [0, 1, 2, 3, 4, 5, 6, 7, 8, 9, 10, 11, 12, 13, 14] #[0, 0, 2, 6, 14, 0, 32, 96, 224, 480, 992, 2046, 4095, 8191, 16383] (by kernel_rfl) (by kernel_rfl) (by kernel_rfl) ?_
   refine Oo u49 .calm rfl (v_move (.inl rfl) rfl) ?_
   refine Oo u49 .calm rfl (v_move (.inl rfl) rfl) ?_
   refine Oo u49 .calm rfl (rfl) ?_
   refine Oo u49 .calm rfl (rfl) ?_
   refine Oo u49 .look rfl (W71 rfl rfl rfl rfl) ?_
   refine Oo u49 .calm rfl (v_move (.inl rfl) rfl) ?_
   refine Oo u49 .calm rfl (rfl) ?_
   refine Oo u49 .calm rfl (rfl) ?_
   refine Oo u49 .look rfl (W71 rfl rfl rfl rfl) ?_
   refine Oo u49 .look rfl (v_lenN rfl rfl rfl rfl hR2) ?_
   refine Oo u49 .calm rfl (W3y rfl rfl rfl) ?_
   refine O_opX .calm rfl rfl rfl (v_rvCutK rfl rfl rfl rfl rfl rfl rfl (by simp) wh_len.symm hR2 _) rfl rfl ?_
   rintro v4 _ ⟨rfl, hR3, hi4⟩; have hD3 : Dj lv v4 := fun n h => by rw [hi4]; exact hD2 n h
   refine O_env (env' := u49) rfl ?_
   refine Oo u49 .calm rfl (rfl) ?_
   refine Oo u49 .calm rfl (rfl) ?_
   refine Oo u49 .turn rfl (v_storeT rfl rfl rfl rfl hR3.cells rfl (by simp [hR3.one]) (wh_at (n := 3) rfl) (Nat.le_of_ble_eq_true rfl) wh_set0) ?_
   refine O_nil [] (by kernel_rfl) (trivial) ?_
   refine K_seq (B_region ?_)
   refine Lo u49 (v_move (.inl rfl) rfl) ?_
   refine Lo u49 (v_move (.inl rfl) rfl) ?_
   refine Lo u49 (rfl) ?_
   refine Lo u49 (rfl) ?_
   refine Lo u49 (W71 rfl rfl rfl rfl) ?_
   refine Lo u49 (v_move (.inl rfl) rfl) ?_
   refine Lo u49 (v_buildSlice rfl rfl (by decide) rfl) ?_
   refine L_opX rfl rfl (v_appXh rfl rfl rfl rfl rfl rfl rfl wh_len hL2 rfl rfl (by decide) (by show ((gr st i).2.length + 1) * 8 ≤ _ ∧ _; omega) (by decide)) ?_
   rintro _ _ ⟨Y3, rfl, rfl, hY1, hY2, hL3⟩; have hR4 := hR3.keepL (Z := [.cells [iI (i : Nat)] true, .cells (rcN (gr st i).2 ++ [iI (i : Nat)]) true]) hL2 hD3 hY1 hY2; have hD4 := RV.far (m := Y2.length + 1) (n := (gr st i).2.length + 1) (c := (gr st i).2.length + 1) (e2 := 1) (o := 0) (ex := false) hR3 (Nat.le_succ _)
   refine Le u49 ?_
   refine Lo u49 (rfl) ?_
   refine Lo u49 (rfl) ?_
   refine Lo u49 (v_storeT rfl rfl rfl rfl hL3.cells rfl (by simp [hL3.one]) (wh_at (n := 3) rfl) (Nat.le_of_ble_eq_true rfl) wh_set1) ?_
   refine L_nil (K_blk (K_seq (B_region ?_)))
   refine Lo u49 (W14 rfl rfl rfl) ?_
   refine Lo u49 (v_move (.inl rfl) rfl) ?_
   refine L_nil ?_
   refine K_loop (mk 49 562949953420922) (env' := u49) rfl ⟨i + 1, ?_, rfl, ?_⟩
   ·first | omega | (simp only []; omega)
   ·first | exact ⟨by omega, _, _, _, _, rfl, by rw [gr_yes hs1]; exact hR2, by rw [gr_yes hs1]; exact hL2, hD2⟩ | exact ⟨by omega, _, _, _, _, rfl, by rw [gr_no hs1]; exact hR4, by rw [gr_no hs1]; exact LV.pushN hL3, hD4⟩
  ·try simp only [qB, qN] at hc2
   have hs1 : st ((gr st i).1 ++ [i]) = true := (congrFun hst _).trans (by simpa using hc2)
   refine B_skip (K_blk (K_seq (B_region ?_)))
   refine Lo u49 (W14 rfl rfl rfl) ?_
   refine Lo u49 (v_move (.inl rfl) rfl) ?_
   refine L_nil ?_
   refine K_loop (mk 49 562949953420922) (env' := u49) rfl ⟨i + 1, ?_, rfl, ?_⟩
   ·first | omega | (simp only []; omega)
   ·first | exact ⟨by omega, _, _, _, _, rfl, by rw [gr_yes hs1]; exact hR2, by rw [gr_yes hs1]; exact hL2, hD2⟩ | exact ⟨by omega, _, _, _, _, rfl, by rw [gr_no hs1]; exact hR4, by rw [gr_no hs1]; exact LV.pushN hL3, hD4⟩
 ·try simp only [qB, qN] at hc1
  refine B_exit (K_seqX (K_loopX (K_blkX ?_)))
  refine E_keep (.inl rfl) (vres_none rfl) ?_
  obtain rfl : i = n := by omega
  exact ⟨_, _, _, _, rfl, hR, hL, hD⟩
theorem tryT_spec {x : SW} (H : VHeap) (g : Gz) (p : Pb) (hp : PbL p) (a b : VVal) (l : List Nat) (ha : a = fzN l) (hl9 : l.length ≤ 900) (X : VHeap) (n : Nat) (hn : n ≤ 900) (st : List Nat → Bool) (hst : st = fun m => stW p l m) : F (psys x) 69 [.ptr (some (H.length + 4, 0)), iI (n : Nat), stV H p] (whH H g a b niS niS ++ X) fun v G => ∃ X g1 rv lv, G = whH H g1 a b rv lv ++ X ∧ RV (H.length + 5) X rv (rcN (gr st n).1) ∧ LV (H.length + 5) 1 X lv (rcN (gr st n).2) (gr st n).2.length ∧ Dj lv rv := by
 refine F_body Tryd.func69 rfl u49 rfl ?_
 refine B_seq (B_region ?_)
 refine Lo u49 (v_move (.inl rfl) rfl) ?_
 refine Lo u49 (v_const (VVal.int .i64 0) (.inl rfl) rfl) ?_
 refine L_nil (K_seq (B_block ?_))
 refine B_clear (mk 49 562949953420922) (env' := u49) rfl ?_
 refine B_loopE (fun (i : Nat) => n - i) (fun (i : Nat) => [(8, iI (i : Nat))]) (fun (i : Nat) G => (i ≤ n) ∧ ∃ X g1 rv lv, G = whH H g1 a b rv lv ++ X ∧ RV (H.length + 5) X rv (rcN (gr st i).1) ∧ LV (H.length + 5) 1 X lv (rcN (gr st i).2) (gr st i).2.length ∧ Dj lv rv) 0 rfl ?_ ?_
 ·refine ⟨?_, ⟨X, g, niS, niS, List.append_nil _, RV.nil _ _, LV.nil _ _ _, fun n h => by cases h⟩⟩
  exact Nat.zero_le _
 rintro i _ ⟨hi, ⟨X, g, rv, lv, rfl, hR, hL, hD⟩⟩
 refine B_env (env' := u49) rfl ?_
 have hgl := @gr_len st i
 have hRl := hR.lt
 refine B_seq (B_region ?_)
 refine Lo u49 (rfl) ?_
 refine L_nil (K_seq (B_seq ?_))
 refine B_cond _ rfl (fun hc1 => ?_) (fun hc1 => ?_)
 ·try simp only [qB, qN] at hc1
  refine B_skip (K_seq (B_seq (B_block (B_seq (B_region ?_)))))
  refine Lo u49 (v_move (.inl rfl) rfl) ?_
  refine Lo u49 (v_move (.inr rfl) rfl) ?_
  refine L_nil (K_seq (B_seq (B_region ?_)))
  refine Lo u49 (v_move (.inl rfl) rfl) ?_
  refine Lo u49 (v_move (.inl rfl) rfl) ?_
  refine Lo u49 (rfl) ?_
  refine Lo u49 (rfl) ?_
  refine Lo u49 (W74 rfl rfl rfl rfl) ?_
  refine Lo u49 (v_move (.inl rfl) rfl) ?_
  refine Lo u49 (v_buildSlice rfl rfl (by decide) rfl) ?_
  refine L_opX rfl rfl (v_rvAppK rfl rfl rfl rfl rfl rfl rfl rfl (by rw [wh_len]; exact hR) rfl (by rw [List.length_map]; show ((gr st i).1.length + 1) * 8 ≤ _ ∧ _; omega)) ?_
  rintro v2 _ ⟨Y2, rfl, hR1, hF⟩; rw [wh_len] at hR1 hF; have hR2 : RV (H.length + 5) Y2 v2 (rcN ((gr st i).1 ++ [i])) := by rw [rcN_snoc]; exact hR1
  obtain ⟨hL2, hD2⟩ := hF.keep hL hD
  refine Le u49 ?_
  refine Lo u49 (rfl) ?_
  refine Lo u49 (rfl) ?_
  refine Lo u49 (v_storeT rfl rfl rfl rfl hR2.cells rfl (by simp [hR2.one]) (wh_at (n := 4) rfl) (Nat.le_of_ble_eq_true rfl) wh_set2) ?_
  refine L_nil (K_seq (B_seq (B_region ?_)))
  refine Lo u49 (v_move (.inl rfl) rfl) ?_
  refine L_call rfl rfl rfl (by exact Why1_spec H Y2 _ _ _ _ _ p hp l ((gr st i).1 ++ [i]) (by rw [ha, fzI_N]; exact RD.fz _ _) (wh_rd hR2) (by first | (rw [List.length_append]; show _ + 1 ≤ _; omega) | omega | exact Nat.zero_le _) (by first | (rw [List.length_append]; show _ + 1 ≤ _; omega) | omega | exact Nat.zero_le _)) ?_
  rintro _ _ ⟨rfl, g2, rfl⟩
  refine Le u49 ?_
  refine Lo u49 (rfl) ?_
  refine L_nil (K_seq ?_)
  refine B_cond _ rfl (fun hc2 => ?_) (fun hc2 => ?_)
  ·try simp only [qB, qN] at hc2
   have hs1 : st ((gr st i).1 ++ [i]) = false := (congrFun hst _).trans (by simpa using hc2)
   refine B_seq ?_
   refine B_draw [0, 1, 2, 3, 4, 5, 6, 7, 8, 9, 10, 11, 12, 13, 14] #[0, 0, 2, 6, 14, 0, 32, 96, 224, 480, 992, 2046, 4095, 8191, 16383] (by kernel_rfl) (by kernel_rfl) (by kernel_rfl) ?_
   refine Oo u49 .calm rfl (v_move (.inl rfl) rfl) ?_
   refine Oo u49 .calm rfl (v_move (.inl rfl) rfl) ?_
   refine Oo u49 .calm rfl (rfl) ?_
   refine Oo u49 .calm rfl (rfl) ?_
   refine Oo u49 .look rfl (W75 rfl rfl rfl rfl) ?_
   refine Oo u49 .calm rfl (v_move (.inl rfl) rfl) ?_
   refine Oo u49 .calm rfl (rfl) ?_
   refine Oo u49 .calm rfl (rfl) ?_
   refine Oo u49 .look rfl (W75 rfl rfl rfl rfl) ?_
   refine Oo u49 .look rfl (v_lenN rfl rfl rfl rfl hR2) ?_
   refine Oo u49 .calm rfl (W3y rfl rfl rfl) ?_
   refine O_opX .calm rfl rfl rfl (v_rvCutK rfl rfl rfl rfl rfl rfl rfl (by simp) wh_len.symm hR2 _) rfl rfl ?_
   rintro v4 _ ⟨rfl, hR3, hi4⟩; have hD3 : Dj lv v4 := fun n h => by rw [hi4]; exact hD2 n h
   refine O_env (env' := u49) rfl ?_
   refine Oo u49 .calm rfl (rfl) ?_
   refine Oo u49 .calm rfl (rfl) ?_
   refine Oo u49 .turn rfl (v_storeT rfl rfl rfl rfl hR3.cells rfl (by simp [hR3.one]) (wh_at (n := 4) rfl) (Nat.le_of_ble_eq_true rfl) wh_set2) ?_
   refine O_nil [] (by kernel_rfl) (trivial) ?_
   refine K_seq (B_region ?_)
   refine Lo u49 (v_move (.inl rfl) rfl) ?_
   refine Lo u49 (v_move (.inl rfl) rfl) ?_
   refine Lo u49 (rfl) ?_
   refine Lo u49 (rfl) ?_
   refine Lo u49 (W75 rfl rfl rfl rfl) ?_
   refine Lo u49 (v_move (.inl rfl) rfl) ?_
   refine Lo u49 (v_buildSlice rfl rfl (by decide) rfl) ?_
   refine L_opX rfl rfl (v_appXh rfl rfl rfl rfl rfl rfl rfl wh_len hL2 rfl rfl (by decide) (by show ((gr st i).2.length + 1) * 8 ≤ _ ∧ _; omega) (by decide)) ?_
   rintro _ _ ⟨Y3, rfl, rfl, hY1, hY2, hL3⟩; have hR4 := hR3.keepL (Z := [.cells [iI (i : Nat)] true, .cells (rcN (gr st i).2 ++ [iI (i : Nat)]) true]) hL2 hD3 hY1 hY2; have hD4 := RV.far (m := Y2.length + 1) (n := (gr st i).2.length + 1) (c := (gr st i).2.length + 1) (e2 := 1) (o := 0) (ex := false) hR3 (Nat.le_succ _)
   refine Le u49 ?_
   refine Lo u49 (rfl) ?_
   refine Lo u49 (rfl) ?_
   refine Lo u49 (v_storeT rfl rfl rfl rfl hL3.cells rfl (by simp [hL3.one]) (wh_at (n := 4) rfl) (Nat.le_of_ble_eq_true rfl) wh_set3) ?_
   refine L_nil (K_blk (K_seq (B_region ?_)))
   refine Lo u49 (W14 rfl rfl rfl) ?_
   refine Lo u49 (v_move (.inl rfl) rfl) ?_
   refine L_nil ?_
   refine K_loop (mk 49 562949953420922) (env' := u49) rfl ⟨i + 1, ?_, rfl, ?_⟩
   ·first | omega | (simp only []; omega)
   ·first | exact ⟨by omega, _, _, _, _, rfl, by rw [gr_yes hs1]; exact hR2, by rw [gr_yes hs1]; exact hL2, hD2⟩ | exact ⟨by omega, _, _, _, _, rfl, by rw [gr_no hs1]; exact hR4, by rw [gr_no hs1]; exact LV.pushN hL3, hD4⟩
  ·try simp only [qB, qN] at hc2
   have hs1 : st ((gr st i).1 ++ [i]) = true := (congrFun hst _).trans (by simpa using hc2)
   refine B_skip (K_blk (K_seq (B_region ?_)))
   refine Lo u49 (W14 rfl rfl rfl) ?_
   refine Lo u49 (v_move (.inl rfl) rfl) ?_
   refine L_nil ?_
   refine K_loop (mk 49 562949953420922) (env' := u49) rfl ⟨i + 1, ?_, rfl, ?_⟩
   ·first | omega | (simp only []; omega)
   ·first | exact ⟨by omega, _, _, _, _, rfl, by rw [gr_yes hs1]; exact hR2, by rw [gr_yes hs1]; exact hL2, hD2⟩ | exact ⟨by omega, _, _, _, _, rfl, by rw [gr_no hs1]; exact hR4, by rw [gr_no hs1]; exact LV.pushN hL3, hD4⟩
 ·try simp only [qB, qN] at hc1
  refine B_exit (K_seqX (K_loopX (K_blkX ?_)))
  refine E_keep (.inl rfl) (vres_none rfl) ?_
  obtain rfl : i = n := by omega
  exact ⟨_, _, _, _, rfl, hR, hL, hD⟩
end Go.Proofs.YtalmjnkcibgclaaDoor.VT
