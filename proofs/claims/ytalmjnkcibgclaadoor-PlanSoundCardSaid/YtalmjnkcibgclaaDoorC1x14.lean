/- Proved: Rows.PlanSoundCardSaid, the statement PlanSound with its card, of the given program at the commit; no conditions beyond those in the statement. -/
import Derived.Test.YtalmjnkcibgclaaDoorC1x13
set_option autoImplicit false
set_option linter.unusedVariables false
set_option linter.unusedSimpArgs false
set_option maxHeartbeats 4000000
set_option maxRecDepth 100000
namespace Go.Proofs.YtalmjnkcibgclaaDoor.VT
open Go Go.V Go.RowKit
theorem brk_none {rs : List Rul} {l : List Int} : brk rs l = [] ↔ ∀ r, r ∈ rs → hld r l = true := by
  refine rev_ind (P := fun rs => brk rs l = [] ↔ ∀ r, r ∈ rs → hld r l = true) ⟨fun _ r h => (by cases h), fun _ => rfl⟩ (fun rs r ih => ?_) rs
  rw [brk_app, List.append_eq_nil_iff, ih]
  constructor
  · rintro ⟨h1, h2⟩ x hx
    rcases List.mem_append.1 hx with hx | hx
    · exact h1 x hx
    · rw [List.mem_singleton] at hx; subst hx
      by_cases e : hld x l = true
      · exact e
      · rw [if_neg e] at h2; cases h2
  · intro h
    exact ⟨fun x hx => h x (List.mem_append_left _ hx), by rw [if_pos (h r (by simp))]⟩
theorem flU_none {p : Pb} {l : List Int} : ∀ {n : Nat}, flU p l n = [] ↔ ∀ i, i < n → flk p.users (p.fixed.getD i 0) (p.who.getD i 0) (l.getD i 0) = 0
  | 0 => ⟨fun _ i h => absurd h (by omega), fun _ => rfl⟩
  | n + 1 => by
    rw [flU_succ, List.append_eq_nil_iff, flU_none]
    constructor
    · rintro ⟨h1, h2⟩ i hi
      by_cases e : i = n
      · subst e
        by_cases e2 : flk p.users (p.fixed.getD i 0) (p.who.getD i 0) (l.getD i 0) = 0
        · exact e2
        · rw [if_neg e2] at h2; cases h2
      · exact h1 i (by omega)
    · intro h; exact ⟨fun i hi => h i (by omega), by rw [if_pos (h n (by omega))]⟩
theorem hld_erl {r : Rul} {l : List Int} {n : Int} (h : (l.length : Int) = n) : hld r l = erl r n l := by
  subst h; unfold hld erl; rw [decide_eq_true (Int.le_refl _), Bool.true_and]
theorem hds_iff {p : Pb} {us : List Int} : hds p us = true ↔ Go.V.Good p ∧ us.length = p.who.length ∧ (∀ i, i < p.who.length → myB p i (us.getD i 0) = true) ∧ ∀ r, r ∈ p.rules → erl r p.who.length us = true := by
  unfold hds
  rw [Bool.and_eq_true, decide_eq_true_eq, decide_eq_true_eq, pck_good]
  constructor
  · rintro ⟨g, h⟩
    by_cases hl : us.length = p.who.length
    · rw [flw_in hl] at h
      have h1 := List.append_eq_nil_iff.1 h
      have h2 : brk p.rules us = [] := by
        have := h1.2; unfold flR at this; exact List.map_eq_nil_iff.1 this
      refine ⟨g, hl, fun i hi => ?_, fun r hr => by rw [← hld_erl (by rw [hl])]; exact brk_none.1 h2 r hr⟩
      have := flU_none.1 h1.1 i (by omega)
      show (decide _ && _) = true
      rw [has_flk g hi, decide_eq_true this]
    · rw [flw_len hl] at h; cases h
  · rintro ⟨g, hl, h1, h2⟩
    refine ⟨g, ?_⟩
    rw [flw_in hl, brk_none.2 fun r hr => by rw [hld_erl (n := p.who.length) (by rw [hl])]; exact h2 r hr]
    rw [show flR [] = [] from rfl, List.append_nil]
    refine flU_none.2 fun i hi => ?_
    have h3 : (decide _ && _) = true := h1 i (by omega)
    rw [has_flk g (by omega)] at h3
    exact of_decide_eq_true h3
theorem wsP_get {p : Pb} {i : Nat} (h : i < p.who.length) : (wsP p).getD i 0 = wrd p i := by
  unfold wsP; simp [List.getD_eq_getElem?_getD, h]
theorem zI_get {ns : List Nat} {i : Nat} (h : i < ns.length) : (zI ns).getD i 0 = (ns.getD i 0 : Nat) := by
  unfold zI; simp [List.getD_eq_getElem?_getD, h]
theorem myB_nat {p : Pb} {i n : Nat} : myB p i (n : Nat) = true ↔ (wrd p i).getLsbD n = true := by
  unfold myB
  rw [Bool.and_eq_true, decide_eq_true_eq, Int.toNat_natCast]
  exact ⟨fun h => h.2, fun h => ⟨by have := BitVec.lt_of_getLsbD h; omega, h⟩⟩
theorem hds_plan {p : Pb} {ns : List Nat} : hds p (zI ns) = true ↔ Go.V.Good p ∧ PlanN (wsP p) p.rules ns := by
  rw [hds_iff, zI_len]
  constructor
  · rintro ⟨g, hl, h1, h2⟩
    refine ⟨g, by rw [wsP_len]; exact hl, fun i hi => ?_, fun r hr => by rw [wsP_len]; exact h2 r hr⟩
    rw [wsP_len] at hi
    have := h1 i hi
    rw [zI_get (by omega), myB_nat] at this
    rw [wsP_get hi]; exact this
  · rintro ⟨g, h⟩
    have hl := h.len
    rw [wsP_len] at hl
    refine ⟨g, hl, fun i hi => ?_, fun r hr => by have := h.rul r hr; rw [wsP_len] at this; exact this⟩
    have := h.may i (by rw [wsP_len]; exact hi)
    rw [wsP_get hi] at this
    rw [zI_get (by omega), myB_nat]; exact this
theorem leA_some {p : Pb} {l : List Nat} (h : leA p = some l) : hds p (zI l) = true := by
  unfold leA at h
  split at h
  · rename_i hp
    have g := pck_good.1 hp
    refine hds_plan.2 ⟨g, ?_⟩
    unfold rssP at h
    rw [← wsP_len] at h
    exact fd_some (fun r hr => by rw [wsP_len]; exact g.ru r hr) h
  · cases h
theorem leT_eq (o : Option (List Nat)) : ∃ l ok, leT o = .tuple [fzN l, .bool ok] ∧ (ok = true → o = some l) ∧ (ok = false → l = [] ∧ o = none) := by
  cases o with
  | some l => exact ⟨l, true, rfl, fun _ => rfl, fun e => (by cases e)⟩
  | none => exact ⟨[], false, rfl, fun e => (by cases e), fun _ => ⟨rfl, rfl⟩⟩
end Go.Proofs.YtalmjnkcibgclaaDoor.VT

set_option autoImplicit false
set_option linter.unusedVariables false
set_option linter.unusedSimpArgs false
set_option maxHeartbeats 4000000
set_option maxRecDepth 100000
namespace Go.Proofs.YtalmjnkcibgclaaDoor.VT
open Go Go.V Go.RowKit
theorem W4z {T : TypeId → Option VTy} {H : VHeap} {op : Op} {ρ : VEnv} {H' : VHeap} {t : TypeId} {a : Operand} {i : Nat} {v : VVal} {y : VTy} {b off : Nat} {cs new : List VVal} (ho : op = .store t a (.tmp i)) (hv : ρ[i]? = some v) (ha : ρ.eval a = .ptr (some (b, off))) (hy : T t = some y) (hx : v.cells = some new) (hn : new.length = y.size) (h1 : new.all VVal.one = true) (hb : H[b]? = some (.cells cs true) := by exact get_app (List.length_set) rfl) (hl : off + new.length ≤ cs.length := by first | exact Nat.le_of_ble_eq_true rfl | (simp only [List.length_map, List.length_cons, List.length_nil]; omega) | omega | (simp; done) | (simp; omega)) (hH : H.set b (.cells (splice cs off new) true) = H' := by exact set_app (List.length_set)) : vop T ρ.eval H op = some (.skip, H') := v_storeT ho hv ha hy hx hn h1 hb hl hH
theorem W50 {S : V.Sys} {H : VHeap} {fn : Func} {ex : Exit} {env : VEnv} {B L : VHeap} {v : VVal} {R : VVal → VHeap → Prop} (hx : ex = .normal ∨ ex = .ret) (hv : vresults S.C.T env (B ++ L) fn.results = some v) (h : R v B) (hB : BaseOk H B := by exact BaseOk.set (BaseOk.refl _) _ rfl) (hu : v.under H.length = true := by show ((fzN _).under _ && (true && true)) = true; rw [show (fzN (plN a (lst (blkN (wsP p) a a.length) 0#64))).under _ = true from mapN_under _ _]; rfl) : fnK S fn H R ex env (B ++ L) := E_app hx hv hB hu h
theorem Least_some {x : SW} (H : VHeap) (y : Nat) (g : Gz) (hs : H[y]? = some (gaB g)) (p : Pb) (hp : PbL p) (hg0 : pck p = 0) (a : List Nat) (hf : (frm (kpB (wsP p) (rssP p)) (kpG p.users.toNat (wsP p) (rssP p)) (wsP p).length [] 0).2 = some a) (d9 : Gz) (z9 : List (Gz × List Nat)) (hq : (usT (blkN (wsP p) a a.length) [] 0#64).1 = (d9, (lst (blkN (wsP p) a a.length) 0#64)) :: z9) : F (psys x) 22 [.ptr (some (y, 0)), .agg (pbB p)] H fun v G => v = .tuple [fzN (plN a (lst (blkN (wsP p) a a.length) 0#64)), .bool true] ∧ G = H.set y (gaB (g + (frm (kpB (wsP p) (rssP p)) (kpG p.users.toNat (wsP p) (rssP p)) (wsP p).length [] 0).1 + d9)) := by
 have hg : Go.V.Good p := pck_good.1 hg0
 have hy := lt_of_get hs
 obtain ⟨_, hal, ha, _, _⟩ := fnd_ok hf
 have hw : a.length ≤ (wsP p).length := by omega
 have hn : (wsP p).length ≤ 1000000 := by rw [wsP_len]; exact hp.w
 obtain ⟨t9, hT9⟩ : ∃ t9, tv (plT a (usT (blkN (wsP p) a a.length) [] 0#64)) = (d9, fzN (plN a (lst (blkN (wsP p) a a.length) 0#64))) :: t9 := ⟨_, by unfold plT; rw [hq]; rfl⟩
 refine F_body Tryd.func22 rfl u35 rfl ?_
 refine B_seq (B_region ?_)
 refine Lo u35 (v_boxT rfl rfl rfl) ?_
 refine Lo u35 (v_alloc rfl rfl) ?_
 refine Lo u35 (v_alloc rfl rfl) ?_
 refine L_nil (K_seq (B_seq (B_seq ?_)))
 refine B_gh (Gh.freezePtrL (cs := pbB p) 3 0 rfl rfl rfl) ?_
 refine B_region ?_
 refine Lo u35 (W4s rfl rfl rfl rfl rfl) ?_
 refine L_call rfl rfl rfl (by exact sCheck_spec _ _ hp) ?_
 rintro _ _ ⟨rfl, rfl⟩
 refine Le u35 ?_
 refine Lo u35 (v_is false rfl (by rw [hg0]; rfl)) ?_
 refine L_nil (K_seq ?_)
 refine B_false rfl rfl ?_
 refine B_skip (K_seq (B_seq ?_))
 refine B_draw [0, 1, 2, 3, 4, 5] #[0, 0, 2, 6, 15, 31] (by kernel_rfl) (by kernel_rfl) (by kernel_rfl) ?_
 refine Oo u35 .look rfl (W4s rfl rfl rfl rfl rfl) ?_
 refine Oo u35 .calm rfl (v_move (.inl rfl) rfl) ?_
 refine Oo u35 .calm rfl (rfl) ?_
 refine Oo u35 .calm rfl (rfl) ?_
 refine O_call (env' := u35) rfl rfl rfl rfl rfl (by exact New_N _ p y (by simp; omega) hg) (by first | exact Nat.le_refl _ | simp) rfl rfl ?_
 refine Oo u35 .calm rfl (v_move (.inr rfl) rfl) ?_
 refine O_nil [] (by kernel_rfl) (trivial) ?_
 refine K_seq (B_seq (B_seq (B_region ?_)))
 refine Lo u35 (rfl) ?_
 refine Lo u35 (W4b rfl rfl rfl rfl) ?_
 refine Lo u35 (rfl) ?_
 refine Lo u35 (v_move (.inl rfl) rfl) ?_
 refine Lo u35 ((rfl : vop _ _ _ _ = some (kpV p.users.toNat (wsP p) (rssP p) y, _))) ?_
 refine L_call rfl rfl rfl (by exact Search_in H _ hs hg) ?_
 rintro _ _ ⟨rfl, rfl⟩; rw [hf]
 refine Le u35 ?_
 refine Lo u35 (rfl) ?_
 refine Lo u35 (v_const (VVal.int .i64 0) (.inl rfl) rfl) ?_
 refine L_nil (K_seq (B_block ?_))
 refine B_clear (mk 35 34301017999) (env' := u35) rfl ?_
 refine B_loopE (fun (k : Nat) => 0) (fun (k : Nat) => [(25, iI (k : Nat))]) (fun (k : Nat) G => (k = 0) ∧ G = H.set y (gaB (g + (frm (kpB (wsP p) (rssP p)) (kpG p.users.toNat (wsP p) (rssP p)) (wsP p).length [] 0).1)) ++ [.dead, .cells [niS] true, .cells [.bool false] true]) 0 rfl ?_ ?_
 ·refine ⟨?_, rfl⟩
  rfl
 rintro k _ ⟨rfl, rfl⟩
 refine B_env (env' := u35) rfl ?_
 refine B_seq (B_region ?_)
 refine Lo u35 (rfl) ?_
 refine L_nil (K_seq (B_seq ?_))
 refine B_cond _ rfl (fun hc1 => ?_) (fun hc1 => ?_)
 ·try simp only [qB, qN] at hc1
  refine B_skip (K_seq (B_seq (B_block (B_seq (B_region ?_)))))
  refine Lo u35 (W18 rfl rfl rfl rfl rfl rfl rfl) ?_
  refine Lo u35 (W4b rfl rfl rfl rfl) ?_
  refine Lo u35 (v_move (.inr rfl) rfl) ?_
  refine L_nil (K_seq (B_seq (B_region ?_)))
  refine Lo u35 (v_move (.inl rfl) rfl) ?_
  refine Lo u35 (v_move (.inl rfl) rfl) ?_
  refine L_call rfl rfl rfl (by exact Plans_spec _ y (by simp; omega) a) ?_
  rintro _ _ ⟨rfl, rfl⟩
  refine Le u35 ?_
  refine L_nil (K_seq (B_block ?_))
  refine B_clear (mk 35 32153534351) (env' := u35) rfl ?_
  refine B_rangePJ (y) (tv (plT a (usT (blkN (wsP p) a a.length) [] 0#64))) ((usT (blkN (wsP p) a a.length) [] 0#64).2) (fun l0 h => by cases h) rfl (fun l9 G9 K9 hg9 hI9 => Plans1_spec y l9 a ha hw hn G9 _ K9 hg9.choose_spec hI9) (σ := Gz × VVal × Bool) (fun k s => H.set y (gaB s.1) ++ [.dead, .cells [s.2.1] true, .cells [.bool s.2.2] true, k]) (g + (frm (kpB (wsP p) (rssP p)) (kpG p.users.toNat (wsP p) (rssP p)) (wsP p).length [] 0).1, niS, false) (fun k => by simp) (fun k s => by simp) (fun k s => by rw [show ((H.set y _) ++ _ : VHeap).length = H.length + 3 by simp]; exact get_app (List.length_set) rfl) (fun k k1 s => by rw [show ((H.set y _) ++ _ : VHeap).length = H.length + 3 by simp]; exact set_app (List.length_set)) (fun s => s.1) (fun d s => (s.1 + d, s.2)) (fun pre s => pre = [] ∧ s = (g + (frm (kpB (wsP p) (rssP p)) (kpG p.users.toNat (wsP p) (rssP p)) (wsP p).length [] 0).1, niS, false)) (fun k s pre hI => by exact get_append (List.getElem?_set_self hy)) (fun k s d pre hI => by rw [set_out (by rw [List.length_set]; exact hy), List.set_set]) ?_ (fun j pre c s => (j = Code.ret ∧ (s = (g + (frm (kpB (wsP p) (rssP p)) (kpG p.users.toNat (wsP p) (rssP p)) (wsP p).length [] 0).1 + d9, fzN (plN a (lst (blkN (wsP p) a a.length) 0#64)), true)))) rfl ?_ ?_ ?_
  ·exact ⟨rfl, rfl⟩
  ·intro pre d c post s hx hI Lp kr kb hkr hkb
   obtain ⟨g8, v8, b8⟩ := s
   try dsimp only at hI ⊢
   obtain ⟨rfl, hI⟩ := hI
   obtain ⟨rfl, rfl, rfl⟩ : g8 = _ ∧ v8 = _ ∧ b8 = _ := by simpa using hI
   obtain ⟨rfl, rfl⟩ : d = d9 ∧ c = fzN (plN a (lst (blkN (wsP p) a a.length) 0#64)) := by
    have h9 : (d9, fzN (plN a (lst (blkN (wsP p) a a.length) 0#64))) :: t9 = (d, c) :: post := (by rw [← hT9]; exact hx)
    injection h9 with h1 h2; injection h1 with h3 h4; exact ⟨h3.symm, h4.symm⟩
   refine B_env (env' := u35) rfl ?_
   refine B_region ?_
   refine Lo u35 (v_move (.inr rfl) rfl) ?_
   refine L_nil ?_
   refine ⟨rfl, (g + (frm (kpB (wsP p) (rssP p)) (kpG p.users.toNat (wsP p) (rssP p)) (wsP p).length [] 0).1 + d, niS, false), rfl, ?_⟩
   try dsimp only
   refine B_heap (H' := H.set y (gaB (g + (frm (kpB (wsP p) (rssP p)) (kpG p.users.toNat (wsP p) (rssP p)) (wsP p).length [] 0).1 + d)) ++ ([.dead, .cells [niS] true, .cells [.bool false] true, kb] ++ Lp)) (by simp) ?_
   refine B_block (B_seq (B_region ?_))
   refine Lo u35 (v_move (.inl rfl) rfl) ?_
   refine Lo u35 (W4z rfl rfl rfl rfl rfl rfl rfl) ?_
   refine Lo u35 (v_storeC (VVal.bool true) rfl rfl rfl rfl rfl rfl rfl (by exact get_app (List.length_set) rfl) (by first | exact Nat.le_of_ble_eq_true rfl | (simp only [List.length_map, List.length_cons, List.length_nil]; omega) | omega | (simp; done) | (simp; omega)) (by exact set_app (List.length_set))) ?_
   refine L_nil (K_seq (B_ret (K_blkR ?_)))
   refine ⟨(g + (frm (kpB (wsP p) (rssP p)) (kpG p.users.toNat (wsP p) (rssP p)) (wsP p).length [] 0).1 + d, fzN (plN a (lst (blkN (wsP p) a a.length) 0#64)), true), [], (by simp; exact ⟨rfl, rfl⟩), .inr ⟨Code.ret, rfl, ⟨rfl, ?_⟩⟩⟩
   rfl
  ·intro s k hk hI J9
   obtain ⟨g8, v8, b8⟩ := s
   try dsimp only at hI ⊢
   exfalso
   obtain ⟨h8, _⟩ := hI
   rw [hT9] at h8; cases h8
  ·rintro j pre c post s k hk hx (⟨rfl, hX⟩) J9
   obtain ⟨g8, v8, b8⟩ := s
   try dsimp only
   obtain ⟨rfl, rfl, rfl⟩ : g8 = _ ∧ v8 = _ ∧ b8 = _ := by simpa using hX
   rw [List.append_assoc (H.set _ _)]
   refine J_ret ?_
   refine K_blkR (K_blkR (K_seqR (K_loopR (K_blkR (K_seqR ?_)))))
   refine W50 (.inr rfl) (vres_cells2 rfl rfl rfl rfl rfl rfl rfl (by exact get_app (List.length_set) rfl) (by rfl) (by exact get_app (List.length_set) rfl) (by rfl)) ?_
   exact ⟨rfl, rfl⟩
 ·try simp only [qB, qN] at hc1
  exfalso; simp at hc1
end Go.Proofs.YtalmjnkcibgclaaDoor.VT

set_option autoImplicit false
set_option linter.unusedVariables false
set_option linter.unusedSimpArgs false
set_option maxHeartbeats 4000000
set_option maxRecDepth 100000
namespace Go.Proofs.YtalmjnkcibgclaaDoor.VT
open Go Go.V Go.RowKit
abbrev u3 {a0 a1 a2 : VVal} : VEnv := a0 :: a1 :: a2 :: []
theorem sLeast_spec {x : SW} (H : VHeap) (y : Nat) (g : Gz) (hs : H[y]? = some (gaB g)) (p : Pb) (hp : PbL p) : F (psys x) 22 [.ptr (some (y, 0)), .agg (pbB p)] H fun v G => v = leT (leA p) ∧ G = H.set y (gaB (g + leG p)) := by
  by_cases hg : pck p = 0
  · cases hf : (frm (kpB (wsP p) (rssP p)) (kpG p.users.toNat (wsP p) (rssP p)) (wsP p).length [] 0).2 with
    | none =>
      refine (Least_none H y g hs p hp hg hf).mono ?_
      rintro v G ⟨rfl, rfl⟩
      rw [show leA p = none by unfold leA fdA; rw [if_pos hg, hf]; rfl, show leG p = (frm (kpB (wsP p) (rssP p)) (kpG p.users.toNat (wsP p) (rssP p)) (wsP p).length [] 0).1 by unfold leG fdG; rw [if_pos hg, hf]; exact Gz.add_zero _]
      exact ⟨rfl, rfl⟩
    | some a =>
      obtain ⟨_, _, _, _, hm⟩ := fnd_ok hf
      obtain ⟨d9, z9, hq⟩ := usT_fst hm
      refine (Least_some H y g hs p hp hg a hf d9 z9 hq).mono ?_
      rintro v G ⟨rfl, rfl⟩
      rw [show leA p = some (plN a (lst (blkN (wsP p) a a.length) 0#64)) by unfold leA fdA; rw [if_pos hg, hf]; rfl, show leG p = (frm (kpB (wsP p) (rssP p)) (kpG p.users.toNat (wsP p) (rssP p)) (wsP p).length [] 0).1 + d9 by unfold leG fdG; rw [if_pos hg, hf]; simp only [hq]; rfl]
      exact ⟨rfl, by rw [Gz.assoc]⟩
  · refine (Least_bad H y g hs p hp hg).mono ?_
    rintro v G ⟨rfl, rfl⟩
    rw [show leA p = none from if_neg hg, show leG p = 0 from if_neg hg, Gz.add_zero, ← set_keep hs]
    exact ⟨rfl, rfl⟩
theorem sNew_spec {x : SW} (H : VHeap) : F (psys x) 16 [] H fun v G => v = .ptr (some (H.length, 0)) ∧ G = H ++ [gaB 0] := by
 refine F_body Tryd.func16 rfl u3 rfl ?_
 refine B_seq (B_region ?_)
 refine Lo u3 (v_const (VVal.ptr none) (.inr rfl) rfl) ?_
 refine L_nil (K_seq (B_seq (B_region ?_)))
 refine Lo u3 (rfl) ?_
 refine Lo u3 (v_boxT rfl rfl rfl) ?_
 refine Lo u3 (v_move (.inr rfl) rfl) ?_
 refine L_nil (K_seq (B_ret ?_))
 refine E_keep (.inr rfl) (vres_tmp rfl rfl) ?_
 exact ⟨rfl, rfl⟩
end Go.Proofs.YtalmjnkcibgclaaDoor.VT

set_option autoImplicit false
set_option linter.unusedVariables false
set_option linter.unusedSimpArgs false
set_option maxHeartbeats 4000000
set_option maxRecDepth 100000
namespace Go.Proofs.YtalmjnkcibgclaaDoor.VT
open Go Go.V Go.RowKit
theorem Cut_few {x : SW} (H : VHeap) (p : Pb) (m : Nat) : F (psys x) 19 [.agg (pbB (fewP p m))] H fun v G => v = .agg (pbB (fewP p m)) ∧ G = H := by
  have := Cut_spec (x := x) H (fewP p m)
  rw [fewP_cut] at this; exact this
theorem row_N {x : SW} (H : VHeap) (l : List Nat) (h : l.length ≤ 30) : F (psys x) 20 [fzN l] H fun v G => v = fzN l ∧ G = H := by
  have := row_spec (x := x) H (zI l)
  rw [List.take_of_length_le (by rw [zI_len]; exact h), ← fzN_is] at this; exact this
theorem hds_len' {p : Pb} {l : List Nat} (h : hds p (zI l) = true) : l.length = p.who.length ∧ l.length ≤ 12 := by
  obtain ⟨g, h1, _⟩ := hds_iff.1 h
  rw [zI_len] at h1
  exact ⟨h1, by rw [h1]; exact g.n12⟩
theorem at_get {H L : VHeap} {k : VBlk} : (H ++ k :: L)[H.length]? = some k := by rw [List.getElem?_append_right (Nat.le_refl _), Nat.sub_self]; rfl
theorem at_set {H L : VHeap} {k k' : VBlk} : (H ++ k :: L).set H.length k' = H ++ k' :: L := by rw [List.set_append_right _ _ (Nat.le_refl _), Nat.sub_self]; rfl
theorem sLeast_at {x : SW} (H L : VHeap) (g : Gz) (p : Pb) (hp : PbL p) : F (psys x) 22 [.ptr (some (H.length, 0)), .agg (pbB p)] (H ++ gaB g :: L) fun v G => v = leT (leA p) ∧ G = H ++ gaB (g + leG p) :: L := by
  have := sLeast_spec (x := x) (H ++ gaB g :: L) H.length g at_get p hp
  rw [at_set] at this; exact this
end Go.Proofs.YtalmjnkcibgclaaDoor.VT

set_option autoImplicit false
set_option linter.unusedVariables false
set_option linter.unusedSimpArgs false
set_option maxHeartbeats 4000000
set_option maxRecDepth 100000
namespace Go.Proofs.YtalmjnkcibgclaaDoor.VT
open Go Go.V Go.RowKit
theorem W52 {T : TypeId → Option VTy} {H : VHeap} {op : Op} {ρ : Operand → VVal} {t : TypeId} {a : Operand} {y : VTy} {p v : VVal} (ho : op = .load t a) (ha : ρ a = p) (hy : T t = some y) (hd : isAggDesc y.desc = false) (h : LdOk H p v := by first | exact .inl ⟨_, _, rfl, by first | rfl | assumption | exact fget (α := BitVec 64) 0 (by omega) | exact fget (α := Int) 0 (by omega) | exact fget0 (α := BitVec 64) 0 (by omega) | exact fget0 (α := Int) 0 (by omega) | exact fget (α := Bool) false (by omega) | exact fget0 (α := Bool) false (by omega) | (simp [*]; done)⟩ | exact .inr ⟨_, _, _, _, rfl, by exact get_app hB r1.c, by first | rfl | assumption | exact fget (α := BitVec 64) 0 (by omega) | exact fget (α := Int) 0 (by omega) | exact fget0 (α := BitVec 64) 0 (by omega) | exact fget0 (α := Int) 0 (by omega) | exact fget (α := Bool) false (by omega) | exact fget0 (α := Bool) false (by omega) | (simp [*]; done)⟩) : vop T ρ H op = some (v, H) := v_ld ho ha hy hd h
theorem W53 {T : TypeId → Option VTy} {H : VHeap} {op : Op} {ρ : VEnv} {H' : VHeap} {t : TypeId} {a : Operand} {i : Nat} {v : VVal} {y : VTy} {b off : Nat} {cs new : List VVal} (ho : op = .store t a (.tmp i)) (hv : ρ[i]? = some v) (ha : ρ.eval a = .ptr (some (b, off))) (hy : T t = some y) (hx : v.cells = some new) (hn : new.length = y.size) (h1 : new.all VVal.one = true) (hb : H[b]? = some (.cells cs true) := by exact get_app hB (get_append ((hY2 j r1.n).trans r1.c))) (hl : off + new.length ≤ cs.length := by first | exact Nat.le_of_ble_eq_true rfl | (simp only [List.length_map, List.length_cons, List.length_nil]; omega) | omega | (simp; done) | (simp; omega)) (hH : H.set b (.cells (splice cs off new) true) = H' := by exact set_app hB) : vop T ρ.eval H op = some (.skip, H') := v_storeT ho hv ha hy hx hn h1 hb hl hH
theorem W55 {S : V.Sys} {H : VHeap} {fn : Func} {ex : Exit} {env : VEnv} {B L : VHeap} {v : VVal} {R : VVal → VHeap → Prop} (hx : ex = .normal ∨ ex = .ret) (hv : vresults S.C.T env (B ++ L) fn.results = some v) (h : R v B) (hB : BaseOk H B := by first | exact BaseOk.refl _ | exact BaseOk.set (BaseOk.refl _) _ rfl) (hu : v.under H.length = true := by first | rfl | (simp only [VVal.under, VVal.underL, Bool.and_true]; exact mapB_under _ _)) : fnK S fn H R ex env (B ++ L) := E_app hx hv hB hu h
theorem W56 {P : Prop} (h : P := by first | exact ⟨by unfold cW; rw [eW_1 (by assumption), if_neg (by assumption)]; rfl, rfl⟩ | exact ⟨by unfold cW; rw [eW_2 hpk hne, if_neg (by decide)]; rfl, rfl⟩ | exact ⟨by unfold cW; rw [eW_0 hpk hfl, if_pos rfl, cB, List.take_of_length_le (by omega)]; rfl, rfl⟩) : P := h
theorem W5a {T : TypeId → Option VTy} {H : VHeap} {op : Op} {ρ : Operand → VVal} {t ty : TypeId} {x y : Operand} {n m : Int} (ho : op = .binOp .add t x y ty) (hx : ρ x = .int .i64 n) (hy : ρ y = .int .i64 m) (h : -9223372036854775808 ≤ n + m ∧ n + m < 9223372036854775808 := by have h9 := g.ok k (by omega); unfold okW at h9; rw [Bool.and_eq_true, decide_eq_true_eq] at h9; omega) : vop T ρ H op = some (.int .i64 (n + m), H) := v_addI ho hx hy h
theorem W5c {T : TypeId → Option VTy} {H : VHeap} {op : Op} {ρ : Operand → VVal} {t : TypeId} {a : Operand} {y : VTy} {p v : VVal} (ho : op = .load t a) (ha : ρ a = p) (hy : T t = some y) (hd : isAggDesc y.desc = false) (h : LdOk H p v := by first | exact .inl ⟨_, _, rfl, by first | rfl | assumption | exact fgetN (α := BitVec 64) 0 (by omega) | exact fgetN (α := Int) 0 (by omega) | exact rul_at (by omega)⟩ | exact .inr ⟨_, _, _, _, rfl, by exact get_app (n := H.length + 1) (j := 1) (by simp) r.c, by first | rfl | assumption | exact fgetN (α := BitVec 64) 0 (by omega) | exact fgetN (α := Int) 0 (by omega) | exact rul_at (by omega)⟩) : vop T ρ H op = some (v, H) := v_ld ho ha hy hd h
theorem flA_len0 {p : Pb} {us : List Int} (h : pck p = 0) (h2 : ¬ 0 < ((flA p us).length : Int)) : flw p us = [] := List.eq_nil_of_length_eq_zero (by rw [flA_0 h] at h2; omega)
theorem flA_pos {p : Pb} {us : List Int} (h : pck p = 0) (h2 : 0 < ((flA p us).length : Int)) : ¬ flw p us = [] := fun e => by rw [flA_0 h, e] at h2; simp at h2
theorem put_spec {x : SW} (B X : VHeap) (h j : Nat) (v : VVal) (L : List UInt8) (w : BitVec 64) (wide : Nat) (hB : B.length = h) (r : RB h X j v L) (hL : L.length ≤ 1000000) (hw : wide ≤ 8) : F (psys x) 65 [.ptr (some (h + j, 0)), iW w, iI (wide : Nat)] (B ++ X) fun u G => u = .tuple [] ∧ ∃ X1 v1, G = B ++ X1 ∧ RB h X1 j v1 (L ++ be w wide) := by
 refine F_body Tryd.func65 rfl u25 rfl ?_
 refine B_seq (B_region ?_)
 refine Lo u25 (v_move (.inl rfl) rfl) ?_
 refine Lo u25 (W2w rfl rfl rfl) ?_
 refine Lo u25 (v_move (.inr rfl) rfl) ?_
 refine L_nil (K_seq (B_block ?_))
 refine B_clear (mk 25 33554364) (env' := u25) rfl ?_
 refine B_loopE (fun (m : Nat) => m) (fun (m : Nat) => [(6, iI ((m : Int) - 1))]) (fun (m : Nat) G => (m ≤ wide) ∧ ∃ X1 v1, G = B ++ X1 ∧ RB h X1 j v1 (L ++ ((be w wide).take (wide - m)))) wide rfl ?_ ?_
 ·refine ⟨?_, ⟨X, v, List.append_nil _, r.cast (by rw [Nat.sub_self, List.take_zero, List.append_nil])⟩⟩
  exact Nat.le_refl _
 rintro m _ ⟨hm, ⟨X1, v1, rfl, r1⟩⟩
 refine B_env (env' := u25) rfl ?_
 refine B_seq (B_seq (B_region ?_))
 refine Lo u25 (v_move (.inl rfl) rfl) ?_
 refine Lo u25 (rfl) ?_
 refine L_nil (K_seq ?_)
 refine B_cond _ rfl (fun hc1 => ?_) (fun hc1 => ?_)
 ·try simp only [qB, qN] at hc1
  refine B_skip (K_seq (B_seq (B_block ?_)))
  refine B_draw [0, 1, 2, 3, 4, 5, 6, 7, 8, 9, 10, 11, 12] #[0, 0, 2, 6, 0, 0, 32, 112, 240, 496, 1022, 2047, 4095] (by kernel_rfl) (by kernel_rfl) (by kernel_rfl) ?_
  refine Oo u25 .calm rfl (v_move (.inl rfl) rfl) ?_
  refine Oo u25 .calm rfl (v_move (.inl rfl) rfl) ?_
  refine Oo u25 .calm rfl (rfl) ?_
  refine Oo u25 .look rfl (W52 rfl rfl rfl rfl) ?_
  refine Oo u25 .calm rfl (v_move (.inl rfl) rfl) ?_
  refine Oo u25 .calm rfl (v_move (.inl rfl) rfl) ?_
  refine Oo u25 .calm rfl (v_mulI rfl rfl rfl (by omega)) ?_
  refine Oo u25 .calm rfl (v_val (u := iW (w >>> (8 * (m - 1)))) (v_shrW rfl rfl rfl (by omega)) (by rw [show (8 * ((m : Int) - 1)).toNat = 8 * (m - 1) by omega])) ?_
  refine Oo u25 .calm rfl (v_cvWB rfl rfl rfl rfl rfl) ?_
  refine Oo u25 .grow rfl (v_buildSlice rfl rfl (by decide) rfl) ?_
  refine O_opX .turn rfl rfl rfl (v_appXh rfl rfl rfl rfl rfl rfl rfl hB r1.l rfl rfl (by decide) (by have h9 := List.length_take_le (wide - m) (be w wide); rw [List.length_append]; show (_ + 1) * 1 ≤ _ ∧ _ + 1 ≤ _; omega) (by decide)) rfl rfl ?_
  rintro _ _ ⟨Y1, rfl, rfl, hY1, hY2, hY3⟩
  refine O_env (env' := u25) rfl ?_
  refine Oo u25 .calm rfl (rfl) ?_
  refine Oo u25 .turn rfl (W53 rfl rfl rfl rfl rfl rfl rfl) ?_
  refine O_nil [] (by kernel_rfl) (trivial) ?_
  refine K_blk (K_seq (B_region ?_))
  refine Lo u25 (v_move (.inl rfl) rfl) ?_
  refine Lo u25 (W2w rfl rfl rfl) ?_
  refine Lo u25 (v_move (.inr rfl) rfl) ?_
  refine L_nil ?_
  refine K_loop (mk 25 33554364) (env' := u25) rfl ⟨m - 1, ?_, (by rw [show (((m - 1 : Nat) : Int)) = (m : Int) - 1 by omega]; rfl), ?_⟩
  ·first | omega | (simp only []; omega)
  ·exact ⟨by omega, _, _, rfl, RB.cast (RB.push (RG.push r1 hY1 hY2 hY3).1) (by rw [be_step (by omega) (by omega), List.append_assoc])⟩
 ·try simp only [qB, qN] at hc1
  refine B_exit (K_seqX (K_loopX (K_blkX ?_)))
  refine E_keep (.inl rfl) (vres_none rfl) ?_
  obtain rfl : m = 0 := by omega
  exact ⟨rfl, _, _, rfl, r1.cast (by rw [Nat.sub_zero, List.take_of_length_le (by rw [be_len]; exact Nat.le_refl _)])⟩
theorem put1_spec {x : SW} (B X : VHeap) (h j : Nat) (v : VVal) (L : List UInt8) (n : Int) (hB : B.length = h) (r : RB h X j v L) (hL : L.length ≤ 1000000) : F (psys x) 65 [.ptr (some (h + j, 0)), iW (BitVec.ofInt 64 n), iI 1] (B ++ X) fun u G => u = .tuple [] ∧ ∃ X1 v1, G = B ++ X1 ∧ RB h X1 j v1 (L ++ [bI n]) := by
  have := put_spec (x := x) B X h j v L (BitVec.ofInt 64 n) 1 hB r hL (by decide)
  rw [be_1] at this; exact this
theorem Write_spec {x : SW} (H : VHeap) (p : Pb) (us : List Int) (hp : PbL p) (hu : us.length ≤ 1000000) : F (psys x) 23 [.agg (pbB p), fzI us] H fun v G => v = .tuple [fzB (cW p us), iI (eW p us)] ∧ G = H := by
 refine F_body Tryd.func23 rfl u102 rfl ?_
 refine B_seq (B_region ?_)
 refine Lo u102 (v_boxT rfl rfl rfl) ?_
 refine Lo u102 (v_const (VVal.slice none 0 0 true 0) (.inr rfl) rfl) ?_
 refine Lo u102 (v_const (VVal.int .i64 0) (.inr rfl) rfl) ?_
 refine L_nil (K_seq (B_seq (B_region ?_)))
 refine Lo u102 (W1x rfl rfl rfl rfl rfl) ?_
 refine Lo u102 (v_move (.inl rfl) rfl) ?_
 refine L_call rfl rfl rfl (by exact Flaws_spec _ _ _ hp hu) ?_
 rintro _ _ ⟨rfl, rfl⟩
 refine Le u102 ?_
 refine Lo u102 (v_move (.inl rfl) rfl) ?_
 refine Lo u102 (rfl) ?_
 refine Lo u102 (rfl) ?_
 refine Lo u102 (v_move (.inr rfl) rfl) ?_
 refine Lo u102 (v_move (.inr rfl) rfl) ?_
 refine L_nil (K_seq (B_seq (B_block (B_seq (B_region ?_)))))
 refine Lo u102 (v_move (.inl rfl) rfl) ?_
 refine Lo u102 (rfl) ?_
 refine Lo u102 (v_move (.inr rfl) rfl) ?_
 refine L_nil (K_seq ?_)
 refine B_cond _ rfl (fun hc1 => ?_) (fun hc1 => ?_)
 ·try simp only [qB, qN] at hc1
  refine B_seq (B_region ?_)
  refine Lo u102 (v_move (.inl rfl) rfl) ?_
  refine Lo u102 (v_const (VVal.slice none 0 0 true 0) (.inr rfl) rfl) ?_
  refine Lo u102 (v_move (.inr rfl) rfl) ?_
  refine L_nil (K_seq ?_)
  refine B_gh (Gh.freezeNil 4 (es' := 1) rfl rfl) ?_
  refine B_ret (K_blkR (K_seqR ?_))
  refine W55 (.inr rfl) (vres_tmp2 rfl rfl rfl) ?_
  exact W56
 ·try simp only [qB, qN] at hc1
  refine B_seq (B_region ?_)
  refine Lo u102 (v_move (.inl rfl) rfl) ?_
  refine Lo u102 (rfl) ?_
  refine Lo u102 (rfl) ?_
  refine Lo u102 (v_move (.inr rfl) rfl) ?_
  refine L_nil (K_seq ?_)
  refine B_cond _ rfl (fun hc2 => ?_) (fun hc2 => ?_)
  ·try simp only [qB, qN] at hc2
   refine B_seq (B_region ?_)
   refine Lo u102 (v_const (VVal.slice none 0 0 true 0) (.inr rfl) rfl) ?_
   refine Lo u102 (v_const (VVal.int .i64 1) (.inr rfl) rfl) ?_
   refine L_nil (K_seq ?_)
   refine B_gh (Gh.freezeNil 4 (es' := 1) rfl rfl) ?_
   have hpk : pck p = 0 := by assumption
   have hne := flA_pos hpk (by assumption)
   refine B_ret (K_blkR (K_seqR ?_))
   refine W55 (.inr rfl) (vres_tmp2 rfl rfl rfl) ?_
   exact W56
  ·try simp only [qB, qN] at hc2
   refine B_skip (K_blk (K_seq (B_seq ?_)))
   have hpk : pck p = 0 := by assumption
   have g : Go.V.Good p := pck_good.1 hpk
   have g1 := g.n12; have g2 := g.u64; have g3 := g.r32; have g4 := g.u0; have g5 := g.fx
   have hfl : flw p us = [] := flA_len0 hpk (by omega)
   have hus := flw_0len hfl
   have hT : ∀ m, ∀ r, r ∈ p.rules.take m → r.steps.length ≤ 12 := fun m r hr => rck_len (g.ru r (List.mem_of_mem_take hr))
   refine B_region ?_
   refine Lo u102 (v_buildSlice rfl rfl (by decide) rfl) ?_
   refine L_gh (Gh.loosen 29 rfl rfl) ?_
   refine Lo u102 (v_cvSl rfl rfl rfl rfl rfl rfl (get_app rfl rfl)) ?_
   refine Lo u102 (v_alloc rfl rfl) ?_
   refine Lo u102 (W13 rfl rfl rfl rfl rfl rfl rfl) ?_
   refine L_nil (K_seq (B_seq ?_))
   refine B_heap (H' := (H ++ [VBlk.cells (pbB p) true]) ++ [VBlk.cells ([80, 67].map iB) true, VBlk.cells [VVal.slice (some (H.length + 1, 0)) 2 2 false 1] true]) (List.append_assoc H [_] [_, _]).symm ?_
   have r : RB (H.length + 1) [VBlk.cells ([80, 67].map iB) true, VBlk.cells [VVal.slice (some (H.length + 1, 0)) 2 2 false 1] true] 1 (VVal.slice (some (H.length + 1, 0)) 2 2 false 1) [80, 67] := ⟨rfl, ⟨rfl, .inr ⟨by decide, 0, rfl, rfl⟩⟩, by simp [vidx]⟩
   refine B_region ?_
   refine Lo u102 (rfl) ?_
   refine Lo u102 (W1t rfl rfl rfl rfl) ?_
   refine Lo u102 (v_cvW rfl rfl rfl rfl rfl) ?_
   refine L_call rfl rfl rfl (by exact put1_spec _ _ (H.length + 1) 1 _ _ _ (by simp) r (by simp only [List.length_append, List.length_cons, List.length_nil, be_len, stsB_len, hdB] <;> omega)) ?_
   rintro _ _ ⟨rfl, X, v, rfl, r⟩
   refine Le u102 ?_
   refine L_nil (K_seq (B_seq (B_region ?_)))
   refine Lo u102 (v_move (.inl rfl) rfl) ?_
   refine Lo u102 (rfl) ?_
   refine Lo u102 (v_cvW rfl rfl rfl rfl rfl) ?_
   refine L_call rfl rfl rfl (by exact put1_spec _ _ (H.length + 1) 1 _ _ _ (by simp) r (by simp only [List.length_append, List.length_cons, List.length_nil, be_len, stsB_len, hdB] <;> omega)) ?_
   rintro _ _ ⟨rfl, X, v, rfl, r⟩
   refine Le u102 ?_
   refine L_nil (K_seq (B_seq (B_seq (B_region ?_))))
   refine Lo u102 (v_move (.inl rfl) rfl) ?_
   refine Lo u102 (rfl) ?_
   refine Lo u102 (v_const (VVal.int .i64 0) (.inl rfl) rfl) ?_
   refine L_nil (K_seq (B_block ?_))
   refine B_clear (mk 102 5070602400912917602138522124027) (env' := u102) rfl ?_
   refine B_loopE (fun (k : Nat) => us.length - k) (fun (k : Nat) => [(41, iI (k : Nat))]) (fun (k : Nat) G => (k ≤ us.length) ∧ ∃ X v, G = (H ++ [VBlk.cells (pbB p) true]) ++ X ∧ RB (H.length + 1) X 1 v (hdB p ++ stsB p us k)) 0 rfl ?_ ?_
   ·refine ⟨?_, ⟨_, _, rfl, r.cast (by rw [hus]; rfl)⟩⟩
    exact Nat.zero_le _
   rintro k _ ⟨hk, ⟨X, v, rfl, r⟩⟩
   refine B_env (env' := u102) rfl ?_
   refine B_seq (B_region ?_)
   refine Lo u102 (rfl) ?_
   refine L_nil (K_seq (B_seq ?_))
   refine B_cond _ rfl (fun hc3 => ?_) (fun hc3 => ?_)
   ·try simp only [qB, qN] at hc3
    refine B_skip (K_seq (B_seq (B_block (B_seq (B_region ?_)))))
    refine Lo u102 (v_move (.inl rfl) rfl) ?_
    refine Lo u102 (W18 rfl rfl rfl rfl rfl rfl rfl) ?_
    refine Lo u102 (W1t rfl rfl rfl rfl) ?_
    refine Lo u102 (v_move (.inr rfl) rfl) ?_
    refine Lo u102 (v_move (.inr rfl) rfl) ?_
    refine L_nil (K_seq (B_seq (B_region ?_)))
    refine Lo u102 (rfl) ?_
    refine Lo u102 (W1t rfl rfl rfl rfl) ?_
    refine Lo u102 (v_move (.inl rfl) rfl) ?_
    refine Lo u102 (W18 rfl rfl rfl rfl rfl rfl rfl) ?_
    refine Lo u102 (W1t rfl rfl rfl rfl) ?_
    refine L_call rfl rfl rfl (by exact put_spec _ _ (H.length + 1) 1 _ _ _ _ (by simp) r (by simp only [List.length_append, List.length_cons, List.length_nil, be_len, stsB_len, hdB] <;> omega) (by decide)) ?_
    rintro _ _ ⟨rfl, X, v, rfl, r⟩
    refine Le u102 ?_
    refine L_nil (K_seq (B_seq (B_region ?_)))
    refine Lo u102 (rfl) ?_
    refine Lo u102 (W1t rfl rfl rfl rfl) ?_
    refine Lo u102 (v_move (.inl rfl) rfl) ?_
    refine Lo u102 (W18 rfl rfl rfl rfl rfl rfl rfl) ?_
    refine Lo u102 (W1t rfl rfl rfl rfl) ?_
    refine Lo u102 (W5a rfl rfl rfl) ?_
    refine Lo u102 (v_cvW rfl rfl rfl rfl rfl) ?_
    refine L_call rfl rfl rfl (by exact put1_spec _ _ (H.length + 1) 1 _ _ _ (by simp) r (by simp only [List.length_append, List.length_cons, List.length_nil, be_len, stsB_len, hdB] <;> omega)) ?_
    rintro _ _ ⟨rfl, X, v, rfl, r⟩
    refine Le u102 ?_
    refine L_nil (K_seq (B_region ?_))
    refine Lo u102 (v_move (.inl rfl) rfl) ?_
    refine Lo u102 (v_cvW rfl rfl rfl rfl rfl) ?_
    refine L_call rfl rfl rfl (by exact put1_spec _ _ (H.length + 1) 1 _ _ _ (by simp) r (by simp only [List.length_append, List.length_cons, List.length_nil, be_len, stsB_len, hdB] <;> omega)) ?_
    rintro _ _ ⟨rfl, X, v, rfl, r⟩
    refine Le u102 ?_
    refine L_nil (K_blk (K_seq (B_region ?_)))
    refine Lo u102 (W14 rfl rfl rfl) ?_
    refine Lo u102 (v_move (.inl rfl) rfl) ?_
    refine L_nil ?_
    refine K_loop (mk 102 5070602400912917602138522124027) (env' := u102) rfl ⟨k + 1, ?_, rfl, ?_⟩
    ·first | omega | (simp only []; omega)
    ·exact ⟨by omega, _, _, rfl, r.cast (by rw [stsB_succ, stB]; simp only [List.append_assoc, List.cons_append, List.nil_append])⟩
   ·try simp only [qB, qN] at hc3
    refine B_exit (K_seqX (K_loopX (K_blkX (K_seq (B_seq ?_)))))
    obtain rfl : k = us.length := by omega
    rw [hus] at r
    refine B_region ?_
    refine Lo u102 (rfl) ?_
    refine Lo u102 (W1t rfl rfl rfl rfl) ?_
    refine Lo u102 (rfl) ?_
    refine Lo u102 (v_cvW rfl rfl rfl rfl rfl) ?_
    refine L_call rfl rfl rfl (by exact put1_spec _ _ (H.length + 1) 1 _ _ _ (by simp) r (by simp only [List.length_append, List.length_cons, List.length_nil, be_len, stsB_len, hdB] <;> omega)) ?_
    rintro _ _ ⟨rfl, X, v, rfl, r⟩
    refine Le u102 ?_
    refine L_nil (K_seq (B_seq (B_seq (B_region ?_))))
    refine Lo u102 (rfl) ?_
    refine Lo u102 (W1t rfl rfl rfl rfl) ?_
    refine Lo u102 (rfl) ?_
    refine Lo u102 (v_const (VVal.int .i64 0) (.inl rfl) rfl) ?_
    refine L_nil (K_seq (B_block ?_))
    refine B_clear (mk 102 5070602392648776260964933697279) (env' := u102) rfl ?_
    refine B_loopE (fun (q : Nat) => p.rules.length - q) (fun (q : Nat) => [(72, iI (q : Nat))]) (fun (q : Nat) G => (q ≤ p.rules.length) ∧ ∃ X v, G = (H ++ [VBlk.cells (pbB p) true]) ++ X ∧ RB (H.length + 1) X 1 v (hdB p ++ stsB p us p.who.length ++ [bI p.rules.length] ++ (p.rules.take q).flatMap ruB)) 0 rfl ?_ ?_
    ·refine ⟨?_, ⟨_, _, rfl, r.cast (by simp)⟩⟩
     exact Nat.zero_le _
    rintro q _ ⟨hq, ⟨X, v, rfl, r⟩⟩
    refine B_env (env' := u102) rfl ?_
    refine B_seq (B_region ?_)
    refine Lo u102 (rfl) ?_
    refine L_nil (K_seq (B_seq ?_))
    refine B_cond _ rfl (fun hc4 => ?_) (fun hc4 => ?_)
    ·try simp only [qB, qN] at hc4
     refine B_skip (K_seq (B_seq (B_block (B_seq (B_region ?_)))))
     refine Lo u102 (W18 rfl rfl rfl rfl rfl rfl rfl) ?_
     refine Lo u102 (W1x rfl rfl rfl rfl rfl) ?_
     refine Lo u102 (v_alloc rfl rfl) ?_
     refine Lo u102 (W13 rfl rfl rfl rfl rfl rfl rfl) ?_
     refine L_nil (K_seq (B_seq ?_))
     refine B_gh (Gh.freezeEnd (cs := rlB (p.rules.getD q r0)) 12 rfl rfl) ?_
     have r := RG.app r [VBlk.dead]
     have hT := hT q
     have hs12 := rck_len (g.ru _ (rul_mem (l := p.rules) (k := q) (by omega)))
     refine B_region ?_
     refine Lo u102 (rfl) ?_
     refine Lo u102 (W1t rfl rfl rfl rfl) ?_
     refine Lo u102 (v_cvW rfl rfl rfl rfl rfl) ?_
     refine L_call rfl rfl rfl (by exact put1_spec _ _ (H.length + 1) 1 _ _ _ (by simp) r (by have h9 := rusB_len (n := 0) (p.rules.take q) hT; rw [List.length_take] at h9; simp only [List.length_append, List.length_cons, List.length_nil, be_len, stsB_len, hdB, List.length_map, List.length_take]; omega)) ?_
     rintro _ _ ⟨rfl, X, v, rfl, r⟩
     refine Le u102 ?_
     refine L_nil (K_seq (B_seq (B_region ?_)))
     refine Lo u102 (rfl) ?_
     refine Lo u102 (W1t rfl rfl rfl rfl) ?_
     refine Lo u102 (v_cvW rfl rfl rfl rfl rfl) ?_
     refine L_call rfl rfl rfl (by exact put_spec _ _ (H.length + 1) 1 _ _ _ _ (by simp) r (by have h9 := rusB_len (n := 0) (p.rules.take q) hT; rw [List.length_take] at h9; simp only [List.length_append, List.length_cons, List.length_nil, be_len, stsB_len, hdB, List.length_map, List.length_take]; omega) (by decide)) ?_
     rintro _ _ ⟨rfl, X, v, rfl, r⟩
     refine Le u102 ?_
     refine L_nil (K_seq (B_seq (B_region ?_)))
     refine Lo u102 (rfl) ?_
     refine Lo u102 (W1t rfl rfl rfl rfl) ?_
     refine Lo u102 (rfl) ?_
     refine Lo u102 (v_cvW rfl rfl rfl rfl rfl) ?_
     refine L_call rfl rfl rfl (by exact put1_spec _ _ (H.length + 1) 1 _ _ _ (by simp) r (by have h9 := rusB_len (n := 0) (p.rules.take q) hT; rw [List.length_take] at h9; simp only [List.length_append, List.length_cons, List.length_nil, be_len, stsB_len, hdB, List.length_map, List.length_take]; omega)) ?_
     rintro _ _ ⟨rfl, X, v, rfl, r⟩
     refine Le u102 ?_
     refine L_nil (K_seq (B_seq (B_region ?_)))
     refine Lo u102 (rfl) ?_
     refine Lo u102 (W1t rfl rfl rfl rfl) ?_
     refine Lo u102 (rfl) ?_
     refine Lo u102 (v_const (VVal.int .i64 0) (.inl rfl) rfl) ?_
     refine L_nil (K_seq (B_block ?_))
     refine B_clear (mk 102 5061936812373778599040639827711) (env' := u102) rfl ?_
     refine B_loopE (fun (s : Nat) => (p.rules.getD q r0).steps.length - s) (fun (s : Nat) => [(92, iI (s : Nat))]) (fun (s : Nat) G => (s ≤ (p.rules.getD q r0).steps.length) ∧ ∃ X v, G = (H ++ [VBlk.cells (pbB p) true]) ++ X ∧ RB (H.length + 1) X 1 v (hdB p ++ stsB p us p.who.length ++ [bI p.rules.length] ++ (p.rules.take q).flatMap ruB ++ ([bI (p.rules.getD q r0).kind] ++ be (BitVec.ofInt 64 (p.rules.getD q r0).k) 4 ++ [bI (p.rules.getD q r0).steps.length] ++ ((p.rules.getD q r0).steps.take s).map bI))) 0 rfl ?_ ?_
     ·refine ⟨?_, ⟨_, _, rfl, r.cast (by simp)⟩⟩
      exact Nat.zero_le _
     rintro s _ ⟨hs, ⟨X, v, rfl, r⟩⟩
     refine B_env (env' := u102) rfl ?_
     refine B_seq (B_region ?_)
     refine Lo u102 (rfl) ?_
     refine L_nil (K_seq (B_seq ?_))
     refine B_cond _ rfl (fun hc5 => ?_) (fun hc5 => ?_)
     ·try simp only [qB, qN] at hc5
      refine B_skip (K_seq (B_seq (B_block (B_seq (B_region ?_)))))
      refine Lo u102 (W18 rfl rfl rfl rfl rfl rfl rfl) ?_
      refine Lo u102 (W1t rfl rfl rfl rfl) ?_
      refine Lo u102 (v_move (.inr rfl) rfl) ?_
      refine L_nil (K_seq (B_region ?_))
      refine Lo u102 (v_move (.inl rfl) rfl) ?_
      refine Lo u102 (v_cvW rfl rfl rfl rfl rfl) ?_
      refine L_call rfl rfl rfl (by exact put1_spec _ _ (H.length + 1) 1 _ _ _ (by simp) r (by have h9 := rusB_len (n := 0) (p.rules.take q) hT; rw [List.length_take] at h9; simp only [List.length_append, List.length_cons, List.length_nil, be_len, stsB_len, hdB, List.length_map, List.length_take]; omega)) ?_
      rintro _ _ ⟨rfl, X, v, rfl, r⟩
      refine Le u102 ?_
      refine L_nil (K_blk (K_seq (B_region ?_)))
      refine Lo u102 (W14 rfl rfl rfl) ?_
      refine Lo u102 (v_move (.inl rfl) rfl) ?_
      refine L_nil ?_
      refine K_loop (mk 102 5061936812373778599040639827711) (env' := u102) rfl ⟨s + 1, ?_, rfl, ?_⟩
      ·first | omega | (simp only []; omega)
      ·exact ⟨by omega, _, _, rfl, r.cast (by rw [take_at (d := 0) (l := (p.rules.getD q r0).steps) (by omega), List.map_append]; simp)⟩
     ·try simp only [qB, qN] at hc5
      refine B_exit (K_seqX (K_loopX (K_blkX (K_blk (K_seq (B_region ?_))))))
      refine Lo u102 (W14 rfl rfl rfl) ?_
      refine Lo u102 (v_move (.inl rfl) rfl) ?_
      refine L_nil ?_
      obtain rfl : s = (p.rules.getD q r0).steps.length := by omega
      refine K_loop (mk 102 5070602392648776260964933697279) (env' := u102) rfl ⟨q + 1, ?_, rfl, ?_⟩
      ·first | omega | (simp only []; omega)
      ·exact ⟨by omega, _, _, rfl, r.cast (by rw [rusB_succ (d := r0) (by omega), ruB, List.take_of_length_le (Nat.le_refl _)]; simp only [List.append_assoc, List.cons_append, List.nil_append])⟩
    ·try simp only [qB, qN] at hc4
     refine B_exit (K_seqX (K_loopX (K_blkX (K_seq (B_seq (B_region ?_))))))
     refine Lo u102 (W5c rfl rfl rfl rfl) ?_
     refine Lo u102 (v_move (.inr rfl) rfl) ?_
     refine Lo u102 (v_const (VVal.int .i64 0) (.inr rfl) rfl) ?_
     refine L_nil (K_seq ?_)
     refine B_ghLVh (env' := u102) 4 r.l (by simp) rfl rfl fun X9 _ _ => ?_
     refine B_heap (List.append_assoc _ _ _) ?_
     refine B_ret ?_
     refine W55 (.inr rfl) (vres_tmp2 rfl rfl rfl) ?_
     exact W56
end Go.Proofs.YtalmjnkcibgclaaDoor.VT

set_option autoImplicit false
set_option linter.unusedVariables false
set_option linter.unusedSimpArgs false
set_option maxHeartbeats 4000000
set_option maxRecDepth 100000
namespace Go.Proofs.YtalmjnkcibgclaaDoor.VT
open Go Go.V Go.RowKit
section
variable {T : TypeId → Option VTy} {ρ : Operand → VVal} {H : VHeap} {op : Op}
theorem v_eqS {t ty : TypeId} {x y : Operand} {a : ByteArray} (ho : op = .binOp .eql t x y ty) (hx : ρ x = .str a) (hy : ρ y = .str a) : vop T ρ H op = some (.bool true, H) := by
  rw [ho]; simp [vop, vbin, hx, hy, vstr]
end
def p0 : Pb := (1, [1#64], [-1], [], ())
theorem p0_L : PbL p0 := ⟨by decide, by decide, by decide, by decide, fun r hr => by cases hr⟩
theorem wk_w : VVal.tuple [fzB (cW p0 [0]), iI (eW p0 [0])] = .tuple [fzB [80, 67, 1, 1, 0, 0, 0, 0, 0, 0, 0, 1, 0, 0, 0], iI 0] := by kernel_rfl
theorem wk_f : VVal.tuple [fzF (flA p0 [1]), iI (pck p0)] = .tuple [fzF [(2, 0, 0)], iI 0] := by kernel_rfl
theorem pwakes_spec {x : SW} (H : VHeap) : F (psys x) 17 [] H fun v G => v = .bool true ∧ G = H := by
 refine F_body Tryd.func17 rfl u44 rfl ?_
 refine B_seq (B_region ?_)
 refine Lo u44 (v_const (VVal.bool false) (.inr rfl) rfl) ?_
 refine L_nil (K_seq (B_seq (B_region ?_)))
 refine Lo u44 (v_buildSlice rfl rfl (by decide) rfl) ?_
 refine Lo u44 (v_buildSlice rfl rfl (by decide) rfl) ?_
 refine Lo u44 (rfl) ?_
 refine Lo u44 (v_alloc rfl rfl) ?_
 refine Lo u44 (W13 rfl rfl rfl rfl rfl rfl rfl) ?_
 refine L_nil (K_seq (B_seq (B_region ?_)))
 refine L_gh (Gh.cellL (l := [iW 1#64]) 2 1 0 rfl rfl (by decide) rfl rfl (Nat.le_refl _)) ?_
 refine L_gh (Gh.cellL (l := [iI (-1)]) 2 2 1 rfl rfl (by decide) rfl rfl (Nat.le_refl _)) ?_
 refine L_gh (Gh.cellNilL 2 3 (es' := 3) rfl rfl) ?_
 refine Lo u44 (W11 rfl rfl rfl rfl rfl) ?_
 refine Lo u44 (v_buildSlice rfl rfl (by decide) rfl) ?_
 refine L_gh (Gh.freezeL (l := [iI 0]) 11 3 rfl rfl rfl (Nat.le_refl _) rfl) ?_
 refine L_call rfl rfl rfl (by exact Write_spec _ p0 [0] p0_L (by decide)) ?_
 rintro v _ ⟨hv, rfl⟩; rw [wk_w] at hv; subst hv
 refine Le u44 ?_
 refine Lo u44 (v_move (.inl rfl) rfl) ?_
 refine Lo u44 (rfl) ?_
 refine Lo u44 (rfl) ?_
 refine Lo u44 (v_move (.inr rfl) rfl) ?_
 refine Lo u44 (v_move (.inr rfl) rfl) ?_
 refine L_nil (K_seq (B_seq (B_region ?_)))
 refine Lo u44 (W11 rfl rfl rfl rfl rfl) ?_
 refine Lo u44 (v_buildSlice rfl rfl (by decide) rfl) ?_
 refine L_gh (Gh.freezeL (l := [iI 1]) 17 4 rfl rfl rfl (Nat.le_refl _) rfl) ?_
 refine L_call rfl rfl rfl (by exact Flaws_spec _ p0 [1] p0_L (by decide)) ?_
 rintro v _ ⟨hv, rfl⟩; rw [wk_f] at hv; subst hv
 refine Le u44 ?_
 refine Lo u44 (v_move (.inl rfl) rfl) ?_
 refine Lo u44 (rfl) ?_
 refine Lo u44 (rfl) ?_
 refine Lo u44 (v_move (.inr rfl) rfl) ?_
 refine Lo u44 (v_move (.inr rfl) rfl) ?_
 refine L_nil (K_seq (B_seq (B_region ?_)))
 refine Lo u44 (v_move (.inl rfl) rfl) ?_
 refine Lo u44 (v_is true rfl rfl) ?_
 refine Lo u44 (v_move (.inl rfl) rfl) ?_
 refine Lo u44 (v_move (.inl rfl) rfl) ?_
 refine Lo u44 (v_is true rfl rfl) ?_
 refine Lo u44 (v_pickT rfl rfl rfl) ?_
 refine Lo u44 (v_move (.inl rfl) rfl) ?_
 refine Lo u44 (v_move (.inl rfl) rfl) ?_
 refine Lo u44 (v_cvS rfl rfl rfl rfl rfl rfl rfl rfl) ?_
 refine Lo u44 (v_eqS rfl rfl rfl) ?_
 refine Lo u44 (v_pickT rfl rfl rfl) ?_
 refine Lo u44 (v_move (.inl rfl) rfl) ?_
 refine Lo u44 (v_move (.inl rfl) rfl) ?_
 refine Lo u44 (rfl) ?_
 refine Lo u44 (v_is true rfl rfl) ?_
 refine Lo u44 (v_pickT rfl rfl rfl) ?_
 refine Lo u44 (v_move (.inl rfl) rfl) ?_
 refine Lo u44 (v_move (.inl rfl) rfl) ?_
 refine Lo u44 (W18 rfl rfl rfl rfl rfl rfl rfl) ?_
 refine Lo u44 (rfl) ?_
 refine Lo u44 (W12 rfl rfl rfl rfl) ?_
 refine Lo u44 (v_is true rfl rfl) ?_
 refine Lo u44 (v_pickT rfl rfl rfl) ?_
 refine Lo u44 (v_move (.inr rfl) rfl) ?_
 refine L_nil (K_seq (B_ret ?_))
 refine W10 (.inr rfl) (vres_tmp rfl rfl) ?_
 exact ⟨rfl, rfl⟩
end Go.Proofs.YtalmjnkcibgclaaDoor.VT
