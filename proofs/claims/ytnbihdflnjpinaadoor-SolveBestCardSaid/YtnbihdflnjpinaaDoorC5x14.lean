/- Proved: Rows.SolveBestCardSaid, the statement SolveBest with its card, of the given program at the commit; no conditions beyond those in the statement. -/
import Derived.Test.YtnbihdflnjpinaaDoorC5x13
set_option autoImplicit false
set_option linter.unusedVariables false
set_option linter.unusedSimpArgs false
set_option maxHeartbeats 4000000
set_option maxRecDepth 100000
namespace Go.Proofs.YtnbihdflnjpinaaDoor.VT
open Go Go.V Go.RowKit
theorem Cut_few {x : SW} (H : VHeap) (p : Pb) (m : Nat) : F (psys x) 13 [.agg (pbB (fewP p m))] H fun v G => v = .agg (pbB (fewP p m)) ∧ G = H := by
  have := Cut_spec (x := x) H (fewP p m)
  rw [fewP_cut] at this; exact this
theorem row_N {x : SW} (H : VHeap) (l : List Nat) (h : l.length ≤ 30) : F (psys x) 17 [fzN l] H fun v G => v = fzN l ∧ G = H := by
  have := row_spec (x := x) H (zI l)
  rw [List.take_of_length_le (by rw [zI_len]; exact h), ← fzN_is] at this; exact this
theorem Holds_N {x : SW} (H : VHeap) (p : Pb) (l : List Nat) (hp : PbL p) (hl : l.length ≤ 1000000) (h : hds p (zI l) = true) : F (psys x) 16 [.agg (pbB p), fzN l] H fun v G => v = .bool true ∧ G = H := by
  have := Holds_spec (x := x) H p (zI l) hp (by rw [zI_len]; exact hl)
  rw [h, ← fzN_is] at this; exact this
theorem hds_len' {p : Pb} {l : List Nat} (h : hds p (zI l) = true) : l.length = p.who.length ∧ l.length ≤ 12 := by
  obtain ⟨g, h1, _⟩ := hds_iff.1 h
  rw [zI_len] at h1
  exact ⟨h1, by rw [h1]; exact g.n12⟩
end Go.Proofs.YtnbihdflnjpinaaDoor.VT

set_option autoImplicit false
set_option linter.unusedVariables false
set_option linter.unusedSimpArgs false
set_option maxHeartbeats 4000000
set_option maxRecDepth 100000
namespace Go.Proofs.YtnbihdflnjpinaaDoor.VT
open Go Go.V Go.RowKit
abbrev u43 {a0 a1 a2 a3 a4 a5 a6 a7 a8 a9 a10 a11 a12 a13 a14 a15 a16 a17 a18 a19 a20 a21 a22 a23 a24 a25 a26 a27 a28 a29 a30 a31 a32 a33 a34 a35 a36 a37 a38 a39 a40 a41 a42 : VVal} : VEnv := a0 :: a1 :: a2 :: a3 :: a4 :: a5 :: a6 :: a7 :: a8 :: a9 :: a10 :: a11 :: a12 :: a13 :: a14 :: a15 :: a16 :: a17 :: a18 :: a19 :: a20 :: a21 :: a22 :: a23 :: a24 :: a25 :: a26 :: a27 :: a28 :: a29 :: a30 :: a31 :: a32 :: a33 :: a34 :: a35 :: a36 :: a37 :: a38 :: a39 :: a40 :: a41 :: a42 :: []
theorem W56 {T : TypeId → Option VTy} {H : VHeap} {op : Op} {ρ : Operand → VVal} {t : TypeId} {a : Operand} {y : VTy} {p v : VVal} (ho : op = .load t a) (ha : ρ a = p) (hy : T t = some y) (hd : isAggDesc y.desc = false) (h : LdOk H p v := by first | exact .inl ⟨_, _, rfl, by first | rfl | assumption | exact fgetN (α := Int) 0 (by omega) | exact fgetN (α := Nat) 0 (by omega)⟩ | exact .inr ⟨_, _, _, _, rfl, by first | exact get_app rfl rfl | exact get_out (by assumption) | exact getE0 rfl rfl | exact get_out (get_app rfl rfl) | exact get_app rfl (by assumption) | assumption | (simp only [List.append_assoc, List.singleton_append, List.cons_append, List.nil_append]; refine getE (i := 0) rfl ?_ rfl; simp; done) | (simp only [List.append_assoc, List.singleton_append, List.cons_append, List.nil_append]; refine getE (i := 1) rfl ?_ rfl; simp; done) | (simp only [List.append_assoc, List.singleton_append, List.cons_append, List.nil_append]; refine getE (i := 2) rfl ?_ rfl; simp; done) | (simp only [List.append_assoc, List.singleton_append, List.cons_append, List.nil_append]; refine getE (i := 3) rfl ?_ rfl; simp; done) | (simp [*]; done), by first | rfl | assumption | exact fgetN (α := Int) 0 (by omega) | exact fgetN (α := Nat) 0 (by omega)⟩) : vop T ρ H op = some (v, H) := v_ld ho ha hy hd h
theorem W57 {T : TypeId → Option VTy} {H : VHeap} {op : Op} {ρ : VEnv} {H' : VHeap} {t : TypeId} {a : Operand} {i : Nat} {v : VVal} {y : VTy} {b off : Nat} {cs new : List VVal} (ho : op = .store t a (.tmp i)) (hv : ρ[i]? = some v) (ha : ρ.eval a = .ptr (some (b, off))) (hy : T t = some y) (hx : v.cells = some new) (hn : new.length = y.size) (h1 : new.all VVal.one = true) (hb : H[b]? = some (.cells cs true) := by first | exact get_app rfl rfl | exact get_out (by assumption) | exact getE0 rfl rfl | exact get_out (get_app rfl rfl) | exact get_app rfl (by assumption) | assumption | (simp only [List.append_assoc, List.singleton_append, List.cons_append, List.nil_append]; refine getE (i := 0) rfl ?_ rfl; simp; done) | (simp only [List.append_assoc, List.singleton_append, List.cons_append, List.nil_append]; refine getE (i := 1) rfl ?_ rfl; simp; done) | (simp only [List.append_assoc, List.singleton_append, List.cons_append, List.nil_append]; refine getE (i := 2) rfl ?_ rfl; simp; done) | (simp only [List.append_assoc, List.singleton_append, List.cons_append, List.nil_append]; refine getE (i := 3) rfl ?_ rfl; simp; done) | (simp [*]; done)) (hl : off + new.length ≤ cs.length := by show 0 + k * 1 + 1 ≤ _; rw [List.length_map, ofZ_len (by omega)]; omega) (hH : H.set b (.cells (splice cs off new) true) = H' := by exact (set_app rfl).trans (by first | (show H ++ [VBlk.cells (splice (rcN (ofZ l k)) (0 + k * 1) [iI (((ofK l k).2.length : Nat) : Int)]) true, VBlk.map (ofM ((ofK l k).2 ++ [l.getD k 0]))] = _; rw [spl_N (by rw [ofZ_len (by omega)]; omega)]) | (show H ++ [VBlk.cells (splice (rcN (ofZ l k)) (0 + k * 1) [iI (((ofK l k).2.idxOf (l.getD k 0) : Nat) : Int)]) true, VBlk.map (ofM (ofK l k).2)] = _; rw [spl_N (by rw [ofZ_len (by omega)]; omega)]))) : vop T ρ.eval H op = some (.skip, H') := v_storeT ho hv ha hy hx hn h1 hb hl hH
theorem W59 {S : V.Sys} {H : VHeap} {fn : Func} {ex : Exit} {env : VEnv} {B L : VHeap} {v : VVal} {R : VVal → VHeap → Prop} (hx : ex = .normal ∨ ex = .ret) (hv : vresults S.C.T env (B ++ L) fn.results = some v) (h : R v B) (hB : BaseOk H B := by first | exact BaseOk.refl _ | exact BaseOk.set (BaseOk.refl _) _ rfl) (hu : v.under H.length = true := by first | rfl | exact (show ((fzN (ofP l)).under H.length && (true && true)) = true by rw [ofP_under]; rfl)) : fnK S fn H R ex env (B ++ L) := E_app hx hv hB hu h
def ofM (vs : List Int) : List (VVal × VVal) := vs.map fun y => (iI y, iI (vs.idxOf y : Nat))
theorem ofM_len {vs : List Int} : (ofM vs).length = vs.length := by unfold ofM; rw [List.length_map]
theorem of_get {vs : List Int} {x : Int} : mget (iI x) (ofM vs) = some (if x ∈ vs then some (iI (vs.idxOf x : Nat)) else none) := by unfold ofM; rw [mget_map]
theorem of_put {vs : List Int} {x : Int} (hn : vs.Nodup) (h : x ∉ vs) : mput (iI x) (iI (vs.length : Nat)) (ofM vs) = ofM (vs ++ [x]) := by
  unfold ofM
  rw [mput_map _ hn, if_neg h]
  apply List.map_congr_left
  intro y hy
  by_cases e : y = x
  · subst e; rw [if_pos rfl, List.idxOf_append, if_neg h]; simp
  · rw [if_neg e]
    have hm : y ∈ vs := by
      rcases List.mem_append.1 hy with h1 | h1
      · exact h1
      · simp at h1; exact absurd h1 e
    rw [List.idxOf_append, if_pos hm]
theorem ofK_nd {l : List Int} : ∀ {k : Nat}, (ofK l k).2.Nodup
  | 0 => List.nodup_nil
  | k + 1 => by
    rw [ofK]
    split
    · exact ofK_nd
    · rename_i h
      exact List.nodup_append.2 ⟨ofK_nd, by simp, fun a ha b hb => by rw [List.mem_singleton] at hb; subst hb; exact fun e => h (e ▸ ha)⟩
theorem ofK_le {l : List Int} : ∀ {k : Nat}, (ofK l k).2.length ≤ k
  | 0 => Nat.le_refl _
  | k + 1 => by
    have := @ofK_le l k
    rw [ofK]; split
    · show (ofK l k).2.length ≤ k + 1; omega
    · show (_ ++ [_]).length ≤ _; rw [List.length_append]; show _ + 1 ≤ _; omega
def ofZ (l : List Int) (k : Nat) : List Nat := (ofK l k).1 ++ List.replicate (l.length - k) 0
theorem ofZ_len {l : List Int} {k : Nat} (h : k ≤ l.length) : (ofZ l k).length = l.length := by unfold ofZ; rw [List.length_append, ofK_len, List.length_replicate]; omega
theorem ofZ_all {l : List Int} : ofZ l l.length = ofP l := by unfold ofZ ofP; simp
theorem ofZ_set {l : List Int} {k v : Nat} (h : k < l.length) (hv : (ofK l (k + 1)).1 = (ofK l k).1 ++ [v]) : (ofZ l k).set k v = ofZ l (k + 1) := by
  unfold ofZ
  rw [hv, List.set_append_right _ _ (by rw [ofK_len]; exact Nat.le_refl _), ofK_len, Nat.sub_self, show l.length - k = (l.length - (k + 1)) + 1 by omega, List.replicate_succ, List.set_cons_zero, List.append_assoc]; rfl
theorem ofK_yes {l : List Int} {k : Nat} (h : l.getD k 0 ∈ (ofK l k).2) : ofK l (k + 1) = ((ofK l k).1 ++ [(ofK l k).2.idxOf (l.getD k 0)], (ofK l k).2) := by rw [ofK, if_pos h]
theorem ofK_no {l : List Int} {k : Nat} (h : l.getD k 0 ∉ (ofK l k).2) : ofK l (k + 1) = ((ofK l k).1 ++ [(ofK l k).2.length], (ofK l k).2 ++ [l.getD k 0]) := by rw [ofK, if_neg h]
theorem ofP_len' {l : List Int} : (ofP l).length = l.length := ofK_len
theorem v_lookT {T : TypeId → Option VTy} {ρ : Operand → VVal} {H : VHeap} {op : Op} {t kt et : TypeId} {x k : Operand} {y z kz : VTy} {b : Nat} {n : Int} {es : List (VVal × VVal)} {o : Option VVal} (ho : op = .lookup t x k true) (hx : ρ x = .map (some b)) (hk : ρ k = iI n) (hy : T t = some y) (hd : y.desc = .map kt et) (hz : T et = some z) (hk1 : T kt = some kz) (hk2 : kz.desc = .int .i64) (ha : isAggDesc z.desc = false) (hz0 : z.zero = [iI 0])
    (hb : H[b]? = some (.map es)) (hg : mget (iI n) es = some o) : vop T ρ H op = some (.tuple [o.getD (iI 0), .bool o.isSome], H) := by
  rw [ho]
  simp only [vop, vlookup, hx, hk, hy, hd, hz, hb, keyOk, hk1, hk2, hz0, ha]
  rw [if_pos ⟨by rfl, .inr rfl⟩]
  rw [hg]
  cases o <;> rfl
theorem of_look {vs : List Int} {x : Int} : (if x ∈ vs then some (iI (vs.idxOf x : Nat)) else none).getD (iI 0) = iI ((if x ∈ vs then vs.idxOf x else 0 : Nat) : Int) ∧ (if x ∈ vs then some (iI (vs.idxOf x : Nat)) else none).isSome = decide (x ∈ vs) := by
  by_cases h : x ∈ vs
  · simp [h]
  · simp [h]
theorem ofP_under (n : Nat) (a : List Nat) : (fzN a).under n = true := mapN_under n a
theorem pOf_spec {x : SW} (H : VHeap) (l : List Int) (hl : l.length ≤ 25) : F (psys x) 60 [fzI l] H fun v G => v = .tuple [fzN (ofP l), iI 0] ∧ G = H := by
 refine F_body Tryd.func60 rfl u43 rfl ?_
 refine B_seq (B_region ?_)
 refine Lo u43 (v_const (VVal.slice none 0 0 true 0) (.inr rfl) rfl) ?_
 refine Lo u43 (v_const (VVal.int .i64 0) (.inr rfl) rfl) ?_
 refine L_nil (K_seq (B_seq (B_seq (B_region ?_))))
 refine Lo u43 (v_move (.inl rfl) rfl) ?_
 refine Lo u43 (rfl) ?_
 refine Lo u43 (v_is false rfl (by simp; omega)) ?_
 refine L_nil (K_seq ?_)
 refine B_false rfl rfl ?_
 refine B_skip (K_seq (B_seq (B_region ?_)))
 refine Lo u43 (v_move (.inl rfl) rfl) ?_
 refine Lo u43 (rfl) ?_
 refine Lo u43 (v_makeSlice rfl rfl rfl rfl rfl (by decide) ⟨by omega, Int.le_refl _, by show (l.length : Int) * (8 : Nat) ≤ _; omega, by omega⟩) ?_
 refine Lo u43 (v_map rfl) ?_
 refine Lo u43 (v_move (.inr rfl) rfl) ?_
 refine Lo u43 (v_move (.inr rfl) rfl) ?_
 refine L_nil (K_seq (B_seq (B_seq (B_region ?_))))
 refine Lo u43 (v_move (.inl rfl) rfl) ?_
 refine Lo u43 (rfl) ?_
 refine Lo u43 (v_const (VVal.int .i64 0) (.inl rfl) rfl) ?_
 refine L_nil (K_seq (B_block ?_))
 refine B_clear (mk 43 8796092104655) (env' := u43) rfl ?_
 refine B_loopE (fun (k : Nat) => l.length - k) (fun (k : Nat) => [(19, iI (k : Nat))]) (fun (k : Nat) G => (k ≤ l.length) ∧ G = H ++ [.cells (rcN (ofZ l k)) true, .map (ofM (ofK l k).2)]) 0 rfl ?_ ?_
 ·refine ⟨?_, (by rw [show ofZ l 0 = List.replicate l.length 0 from rfl, ← rep_rc]; rfl)⟩
  exact Nat.zero_le _
 rintro k _ ⟨hk, rfl⟩
 refine B_env (env' := u43) rfl ?_
 refine B_seq (B_region ?_)
 refine Lo u43 (rfl) ?_
 refine L_nil (K_seq (B_seq ?_))
 refine B_cond _ rfl (fun hc1 => ?_) (fun hc1 => ?_)
 ·try simp only [qB, qN] at hc1
  refine B_skip (K_seq (B_seq (B_block (B_seq (B_region ?_)))))
  refine Lo u43 (v_move (.inl rfl) rfl) ?_
  refine Lo u43 (W18 rfl rfl rfl rfl rfl rfl rfl) ?_
  refine Lo u43 (W56 rfl rfl rfl rfl) ?_
  refine Lo u43 (v_move (.inr rfl) rfl) ?_
  refine Lo u43 (v_move (.inr rfl) rfl) ?_
  refine L_nil (K_seq (B_seq ?_))
  have hle := @ofK_le l k
  have hnd := @ofK_nd l k
  refine B_region ?_
  refine Lo u43 (v_move (.inl rfl) rfl) ?_
  refine Lo u43 (v_move (.inl rfl) rfl) ?_
  refine Lo u43 (v_val (v_lookT rfl rfl rfl rfl rfl rfl rfl rfl rfl rfl (get_app rfl rfl) of_get) (show _ = VVal.tuple [iI ((if l.getD k 0 ∈ (ofK l k).2 then (ofK l k).2.idxOf (l.getD k 0) else 0 : Nat) : Int), .bool (decide (l.getD k 0 ∈ (ofK l k).2))] by rw [of_look.1, of_look.2])) ?_
  refine Lo u43 (v_move (.inl rfl) rfl) ?_
  refine Lo u43 (rfl) ?_
  refine Lo u43 (rfl) ?_
  refine Lo u43 (v_move (.inr rfl) rfl) ?_
  refine Lo u43 (v_move (.inr rfl) rfl) ?_
  refine L_nil (K_seq (B_seq (B_seq (B_region ?_))))
  refine Lo u43 (v_move (.inl rfl) rfl) ?_
  refine Lo u43 (rfl) ?_
  refine L_nil (K_seq ?_)
  refine B_cond _ rfl (fun hc2 => ?_) (fun hc2 => ?_)
  ·try simp only [qB, qN] at hc2
   have hm : l.getD k 0 ∉ (ofK l k).2 := by assumption
   have hK := ofK_no hm
   refine B_seq (B_region ?_)
   refine Lo u43 (v_move (.inl rfl) rfl) ?_
   refine Lo u43 (v_val (v_lenM rfl rfl rfl rfl (get_app rfl rfl)) (by rw [ofM_len])) ?_
   refine Lo u43 (v_move (.inr rfl) rfl) ?_
   refine L_nil (K_seq (B_region ?_))
   refine Lo u43 (v_move (.inl rfl) rfl) ?_
   refine Lo u43 (v_move (.inl rfl) rfl) ?_
   refine Lo u43 (v_move (.inl rfl) rfl) ?_
   refine Lo u43 (v_mupdI rfl rfl rfl rfl rfl rfl rfl rfl (get_app rfl rfl) of_get ((congrArg (fun m => List.set _ _ (VBlk.map m)) (of_put hnd hm)).trans (set_app rfl))) ?_
   refine L_nil (K_seq (B_region ?_))
   refine Lo u43 (v_move (.inl rfl) rfl) ?_
   refine Lo u43 (v_move (.inl rfl) rfl) ?_
   refine Lo u43 (v_move (.inl rfl) rfl) ?_
   refine Lo u43 (W18 rfl rfl rfl rfl rfl rfl rfl) ?_
   refine Lo u43 (W57 rfl rfl rfl rfl rfl rfl rfl) ?_
   refine L_nil (K_blk (K_seq (B_region ?_)))
   refine Lo u43 (W14 rfl rfl rfl) ?_
   refine Lo u43 (v_move (.inl rfl) rfl) ?_
   refine L_nil ?_
   refine K_loop (mk 43 8796092104655) (env' := u43) rfl ⟨k + 1, ?_, rfl, ?_⟩
   ·first | omega | (simp only []; omega)
   ·exact ⟨by omega, by rw [ofZ_set (by omega) (congrArg Prod.fst hK), hK]⟩
  ·try simp only [qB, qN] at hc2
   have hm : l.getD k 0 ∈ (ofK l k).2 := by assumption
   have hK := ofK_yes hm
   rw [if_pos hm]
   refine B_skip (K_seq (B_region ?_))
   refine Lo u43 (v_move (.inl rfl) rfl) ?_
   refine Lo u43 (v_move (.inl rfl) rfl) ?_
   refine Lo u43 (v_move (.inl rfl) rfl) ?_
   refine Lo u43 (W18 rfl rfl rfl rfl rfl rfl rfl) ?_
   refine Lo u43 (W57 rfl rfl rfl rfl rfl rfl rfl) ?_
   refine L_nil (K_blk (K_seq (B_region ?_)))
   refine Lo u43 (W14 rfl rfl rfl) ?_
   refine Lo u43 (v_move (.inl rfl) rfl) ?_
   refine L_nil ?_
   refine K_loop (mk 43 8796092104655) (env' := u43) rfl ⟨k + 1, ?_, rfl, ?_⟩
   ·first | omega | (simp only []; omega)
   ·exact ⟨by omega, by rw [ofZ_set (by omega) (congrArg Prod.fst hK), hK]⟩
 ·try simp only [qB, qN] at hc1
  refine B_exit (K_seqX (K_loopX (K_blkX (K_seq (B_seq ?_)))))
  obtain rfl : k = l.length := by omega
  rw [ofZ_all]
  refine B_gh (Gh.freezeL (l := rcN (ofP l)) 4 0 rfl rfl (cellsAt_all (by rw [List.length_map, ofP_len']; rfl)) (Nat.le_refl _) rfl) ?_
  refine B_region ?_
  refine Lo u43 (v_move (.inl rfl) rfl) ?_
  refine Lo u43 (v_move (.inr rfl) rfl) ?_
  refine Lo u43 (v_const (VVal.int .i64 0) (.inr rfl) rfl) ?_
  refine L_nil (K_seq (B_ret ?_))
  refine W59 (.inr rfl) (vres_tmp2 rfl rfl rfl) ?_
  exact ⟨by show _ = VVal.tuple [.fsl (rcN (ofP l)) (ofP l).length 1 false, iI 0]; rw [ofP_len']; rfl, rfl⟩
theorem Of_big {x : SW} (H : VHeap) (l : List Int) (hl : 25 < l.length) : F (psys x) 60 [fzI l] H fun v G => v = .tuple [fzN [], iI 2] ∧ G = H := by
 refine F_body Tryd.func60 rfl u43 rfl ?_
 refine B_seq (B_region ?_)
 refine Lo u43 (v_const (VVal.slice none 0 0 true 0) (.inr rfl) rfl) ?_
 refine Lo u43 (v_const (VVal.int .i64 0) (.inr rfl) rfl) ?_
 refine L_nil (K_seq (B_seq (B_seq (B_region ?_))))
 refine Lo u43 (v_move (.inl rfl) rfl) ?_
 refine Lo u43 (rfl) ?_
 refine Lo u43 (v_is true rfl (by simp; omega)) ?_
 refine L_nil (K_seq ?_)
 refine B_true rfl rfl ?_
 refine B_seq (B_region ?_)
 refine Lo u43 (v_const (VVal.slice none 0 0 true 0) (.inr rfl) rfl) ?_
 refine Lo u43 (v_const (VVal.int .i64 2) (.inr rfl) rfl) ?_
 refine L_nil (K_seq ?_)
 refine B_gh (Gh.freezeNil 2 (es' := 1) rfl rfl) ?_
 refine B_ret (K_seqR ?_)
 refine W10 (.inr rfl) (vres_tmp2 rfl rfl rfl) ?_
 exact ⟨rfl, rfl⟩
end Go.Proofs.YtnbihdflnjpinaaDoor.VT

set_option autoImplicit false
set_option linter.unusedVariables false
set_option linter.unusedSimpArgs false
set_option maxHeartbeats 4000000
set_option maxRecDepth 100000
namespace Go.Proofs.YtnbihdflnjpinaaDoor.VT
open Go Go.V Go.RowKit
theorem W5c {P : Prop} (h : P := by first | exact ⟨by rw [show cmpI [x1] [y1] = -1 by simp [cmpI]; omega], rfl⟩ | exact ⟨by rw [show cmpI [x1] [y1] = 1 by simp [cmpI]; omega], rfl⟩ | exact ⟨by rw [show cmpI [x1] [y1] = 0 by simp [cmpI]; omega], rfl⟩ | (exfalso; simp at *; done)) : P := h
theorem W5f {P : Prop} (h : P := by first | (exfalso; omega) | exact ⟨by rw [cmpI_same hl (fun i hi => hall i (by omega))], rfl⟩ | exact ⟨by rw [cmpI_at (k := k) (by omega) (by omega) hall (by assumption)], rfl⟩ | (exfalso; omega)) : P := h
theorem W5h {P : Prop} (h : P := by first | exact ⟨by rw [hE, if_neg (by assumption)], rfl⟩ | exact ⟨by rw [hE, if_pos (by assumption)], rfl⟩ | exact ⟨by rw [bef_len (by omega)], rfl⟩) : P := h
theorem isNaN_spec {x : SW} (H : VHeap) (x1 : Int) : F (psys x) 106 [iI x1] H fun v G => v = .bool false ∧ G = H := by
 refine F_body Tryd.func106 rfl u6 rfl ?_
 refine B_seq (B_region ?_)
 refine Lo u6 (v_const (VVal.bool false) (.inr rfl) rfl) ?_
 refine L_nil (K_seq (B_seq (B_region ?_)))
 refine Lo u6 (v_move (.inl rfl) rfl) ?_
 refine Lo u6 (v_move (.inl rfl) rfl) ?_
 refine Lo u6 (v_is false rfl (by simp)) ?_
 refine Lo u6 (v_move (.inr rfl) rfl) ?_
 refine L_nil (K_seq (B_ret ?_))
 refine W10 (.inr rfl) (vres_tmp rfl rfl) ?_
 exact ⟨rfl, rfl⟩
theorem cmpC_spec {x : SW} (H : VHeap) (x1 y1 : Int) : F (psys x) 89 [iI x1, iI y1] H fun v G => v = iI (cmpI [x1] [y1]) ∧ G = H := by
 refine F_body Tryd.func89 rfl u20 rfl ?_
 refine B_seq (B_region ?_)
 refine Lo u20 (v_const (VVal.int .i64 0) (.inr rfl) rfl) ?_
 refine L_nil (K_seq (B_seq (B_region ?_)))
 refine Lo u20 (v_move (.inl rfl) rfl) ?_
 refine L_call rfl rfl rfl (by exact isNaN_spec _ _) ?_
 rintro _ _ ⟨rfl, rfl⟩
 refine Le u20 ?_
 refine Lo u20 (v_move (.inr rfl) rfl) ?_
 refine L_nil (K_seq (B_seq (B_region ?_)))
 refine Lo u20 (v_move (.inl rfl) rfl) ?_
 refine L_call rfl rfl rfl (by exact isNaN_spec _ _) ?_
 rintro _ _ ⟨rfl, rfl⟩
 refine Le u20 ?_
 refine Lo u20 (v_move (.inr rfl) rfl) ?_
 refine L_nil (K_seq (B_seq (B_seq (B_region ?_))))
 refine Lo u20 (v_move (.inl rfl) rfl) ?_
 refine L_nil (K_seq ?_)
 refine B_cond _ rfl (fun hc1 => ?_) (fun hc1 => ?_)
 ·try simp only [qB] at hc1
  refine B_seq (B_seq (B_region ?_))
  refine Lo u20 (v_move (.inl rfl) rfl) ?_
  refine L_nil (K_seq ?_)
  refine B_cond _ rfl (fun hc2 => ?_) (fun hc2 => ?_)
  ·try simp only [qB] at hc2
   refine B_seq (B_region ?_)
   refine Lo u20 (v_const (VVal.int .i64 0) (.inr rfl) rfl) ?_
   refine L_nil (K_seq (B_ret (K_seqR (K_seqR ?_))))
   refine W10 (.inr rfl) (vres_tmp rfl rfl) ?_
   exact W5c
  ·try simp only [qB] at hc2
   refine B_skip (K_seq (B_seq (B_region ?_)))
   refine Lo u20 (v_const (VVal.int .i64 (-1)) (.inr rfl) rfl) ?_
   refine L_nil (K_seq (B_ret (K_seqR ?_)))
   refine W10 (.inr rfl) (vres_tmp rfl rfl) ?_
   exact W5c
 ·try simp only [qB] at hc1
  refine B_skip (K_seq (B_seq (B_seq (B_region ?_))))
  refine Lo u20 (v_move (.inl rfl) rfl) ?_
  refine L_nil (K_seq ?_)
  refine B_cond _ rfl (fun hc3 => ?_) (fun hc3 => ?_)
  ·try simp only [qB] at hc3
   refine B_seq (B_region ?_)
   refine Lo u20 (v_const (VVal.int .i64 1) (.inr rfl) rfl) ?_
   refine L_nil (K_seq (B_ret (K_seqR ?_)))
   refine W10 (.inr rfl) (vres_tmp rfl rfl) ?_
   exact W5c
  ·try simp only [qB] at hc3
   refine B_skip (K_seq (B_seq (B_seq (B_region ?_))))
   refine Lo u20 (v_move (.inl rfl) rfl) ?_
   refine Lo u20 (v_move (.inl rfl) rfl) ?_
   refine Lo u20 (rfl) ?_
   refine L_nil (K_seq ?_)
   refine B_cond _ rfl (fun hc4 => ?_) (fun hc4 => ?_)
   ·try simp only [qB] at hc4
    refine B_seq (B_region ?_)
    refine Lo u20 (v_const (VVal.int .i64 (-1)) (.inr rfl) rfl) ?_
    refine L_nil (K_seq (B_ret (K_seqR ?_)))
    refine W10 (.inr rfl) (vres_tmp rfl rfl) ?_
    exact W5c
   ·try simp only [qB] at hc4
    refine B_skip (K_seq (B_seq (B_seq (B_region ?_))))
    refine Lo u20 (v_move (.inl rfl) rfl) ?_
    refine Lo u20 (v_move (.inl rfl) rfl) ?_
    refine Lo u20 (rfl) ?_
    refine L_nil (K_seq ?_)
    refine B_cond _ rfl (fun hc5 => ?_) (fun hc5 => ?_)
    ·try simp only [qB] at hc5
     refine B_seq (B_region ?_)
     refine Lo u20 (v_const (VVal.int .i64 1) (.inr rfl) rfl) ?_
     refine L_nil (K_seq (B_ret (K_seqR ?_)))
     refine W10 (.inr rfl) (vres_tmp rfl rfl) ?_
     exact W5c
    ·try simp only [qB] at hc5
     refine B_skip (K_seq (B_seq (B_region ?_)))
     refine Lo u20 (v_const (VVal.int .i64 0) (.inr rfl) rfl) ?_
     refine L_nil (K_seq (B_ret ?_))
     refine W10 (.inr rfl) (vres_tmp rfl rfl) ?_
     exact W5c
theorem cmpI_drop {a b : List Int} : ∀ {k : Nat}, k ≤ a.length → k ≤ b.length → (∀ i, i < k → a.getD i 0 = b.getD i 0) → cmpI a b = cmpI (a.drop k) (b.drop k)
  | 0, _, _, _ => rfl
  | k + 1, h1, h2, h3 => by
    rw [cmpI_drop (k := k) (by omega) (by omega) (fun i hi => h3 i (by omega))]
    have e := h3 k (by omega)
    rw [List.getD_eq_getElem?_getD, List.getElem?_eq_getElem (by omega), List.getD_eq_getElem?_getD, List.getElem?_eq_getElem (by omega)] at e
    have e : a[k] = b[k] := e
    rw [List.drop_eq_getElem_cons (l := a) (by omega), List.drop_eq_getElem_cons (l := b) (by omega), cmpI, if_pos e]
theorem cmpI_at {a b : List Int} {k : Nat} (h1 : k < a.length) (h2 : k < b.length) (h3 : ∀ i, i < k → a.getD i 0 = b.getD i 0) (h4 : cmpI [a.getD k 0] [b.getD k 0] ≠ 0) : cmpI a b = cmpI [a.getD k 0] [b.getD k 0] := by
  rw [cmpI_drop (by omega) (by omega) h3, List.drop_eq_getElem_cons (l := a) h1, List.drop_eq_getElem_cons (l := b) h2]
  rw [List.getD_eq_getElem?_getD, List.getElem?_eq_getElem h1, List.getD_eq_getElem?_getD, List.getElem?_eq_getElem h2] at h4 ⊢
  simp only [Option.getD_some] at h4 ⊢
  have hne : ¬ a[k] = b[k] := fun e => h4 (by rw [e, cmpI_self])
  rw [cmpI, cmpI, if_neg hne, if_neg hne]
theorem cmpI_same {a b : List Int} (hl : a.length = b.length) (h : ∀ i, i < a.length → a.getD i 0 = b.getD i 0) : cmpI a b = 0 := by
  rw [cmpI_drop (k := a.length) (Nat.le_refl _) (by omega) h, List.drop_length, hl, List.drop_length]; rfl
theorem cmp1_0 {x y : Int} (h : cmpI [x] [y] = 0) : x = y := by have := cmpI_eq h; simpa using this
theorem Cmp_spec {x : SW} (H : VHeap) (a b : List Int) (hl : a.length = b.length) (h25 : a.length ≤ 1000000) : F (psys x) 61 [fzI a, fzI b] H fun v G => v = iI (cmpI a b) ∧ G = H := by
 refine F_body Tryd.func61 rfl u36 rfl ?_
 refine B_seq (B_region ?_)
 refine Lo u36 (v_const (VVal.int .i64 0) (.inr rfl) rfl) ?_
 refine L_nil (K_seq (B_seq (B_seq (B_region ?_))))
 refine Lo u36 (v_move (.inl rfl) rfl) ?_
 refine Lo u36 (rfl) ?_
 refine Lo u36 (v_const (VVal.int .i64 0) (.inl rfl) rfl) ?_
 refine L_nil (K_seq (B_block ?_))
 refine B_clear (mk 36 68719473148) (env' := u36) rfl ?_
 refine B_loopE (fun (k : Nat) => a.length - k) (fun (k : Nat) => [(11, iI (k : Nat))]) (fun (k : Nat) G => (k ≤ a.length ∧ ∀ i, i < k → a.getD i 0 = b.getD i 0) ∧ G = H ++ []) 0 rfl ?_ ?_
 ·refine ⟨?_, rfl⟩
  exact ⟨Nat.zero_le _, fun i h => by omega⟩
 rintro k _ ⟨⟨hk, hall⟩, rfl⟩
 refine B_env (env' := u36) rfl ?_
 refine B_seq (B_region ?_)
 refine Lo u36 (rfl) ?_
 refine L_nil (K_seq (B_seq ?_))
 refine B_cond _ rfl (fun hc1 => ?_) (fun hc1 => ?_)
 ·try simp only [qB, qN] at hc1
  refine B_skip (K_seq (B_seq (B_block (B_seq (B_region ?_)))))
  refine Lo u36 (v_move (.inl rfl) rfl) ?_
  refine Lo u36 (W18 rfl rfl rfl rfl rfl rfl rfl) ?_
  refine Lo u36 (W56 rfl rfl rfl rfl) ?_
  refine Lo u36 (v_move (.inr rfl) rfl) ?_
  refine Lo u36 (v_move (.inr rfl) rfl) ?_
  refine L_nil (K_seq (B_seq (B_seq (B_region ?_))))
  refine Lo u36 (v_move (.inl rfl) rfl) ?_
  refine Lo u36 (v_move (.inl rfl) rfl) ?_
  refine Lo u36 (rfl) ?_
  refine Lo u36 (rfl) ?_
  refine L_nil (K_seq ?_)
  refine B_cond _ rfl (fun hc2 => ?_) (fun hc2 => ?_)
  ·try simp only [qB, qN] at hc2
   refine B_seq (B_region ?_)
   refine Lo u36 (v_const (VVal.int .i64 1) (.inr rfl) rfl) ?_
   refine L_nil (K_seq (B_ret (K_seqR (K_blkR (K_seqR (K_loopR (K_blkR (K_seqR ?_))))))))
   refine W10 (.inr rfl) (vres_tmp rfl rfl) ?_
   exact W5f
  ·try simp only [qB, qN] at hc2
   refine B_skip (K_seq (B_seq (B_region ?_)))
   refine Lo u36 (v_move (.inl rfl) rfl) ?_
   refine Lo u36 (v_move (.inl rfl) rfl) ?_
   refine Lo u36 (W18 rfl rfl rfl rfl rfl rfl rfl) ?_
   refine Lo u36 (W56 rfl rfl rfl rfl) ?_
   refine Lo u36 (v_move (.inr rfl) rfl) ?_
   refine L_nil (K_seq (B_seq (B_region ?_)))
   refine Lo u36 (v_move (.inl rfl) rfl) ?_
   refine Lo u36 (v_move (.inl rfl) rfl) ?_
   refine L_call rfl rfl rfl (by exact cmpC_spec _ _ _) ?_
   rintro _ _ ⟨rfl, rfl⟩
   refine Le u36 ?_
   refine Lo u36 (v_move (.inr rfl) rfl) ?_
   refine L_nil (K_seq (B_seq (B_region ?_)))
   refine Lo u36 (v_move (.inl rfl) rfl) ?_
   refine Lo u36 (rfl) ?_
   refine L_nil (K_seq ?_)
   refine B_cond _ rfl (fun hc3 => ?_) (fun hc3 => ?_)
   ·try simp only [qB, qN] at hc3
    refine B_seq (B_region ?_)
    refine Lo u36 (v_move (.inl rfl) rfl) ?_
    refine Lo u36 (v_move (.inr rfl) rfl) ?_
    refine L_nil (K_seq (B_ret (K_blkR (K_seqR (K_loopR (K_blkR (K_seqR ?_)))))))
    refine W10 (.inr rfl) (vres_tmp rfl rfl) ?_
    exact W5f
   ·try simp only [qB, qN] at hc3
    refine B_skip (K_blk (K_seq (B_region ?_)))
    refine Lo u36 (W14 rfl rfl rfl) ?_
    refine Lo u36 (v_move (.inl rfl) rfl) ?_
    refine L_nil ?_
    refine K_loop (mk 36 68719473148) (env' := u36) rfl ⟨k + 1, ?_, rfl, ?_⟩
    ·first | omega | (simp only []; omega)
    ·exact ⟨⟨by omega, fun j hj => by by_cases e : j = k; (subst e; exact cmp1_0 (by assumption)); exact hall j (by omega)⟩, rfl⟩
 ·try simp only [qB, qN] at hc1
  refine B_exit (K_seqX (K_loopX (K_blkX (K_seq (B_seq (B_seq (B_region ?_)))))))
  refine Lo u36 (v_move (.inl rfl) rfl) ?_
  refine Lo u36 (rfl) ?_
  refine Lo u36 (v_move (.inl rfl) rfl) ?_
  refine Lo u36 (rfl) ?_
  refine Lo u36 (rfl) ?_
  refine L_nil (K_seq ?_)
  refine B_cond _ rfl (fun hc4 => ?_) (fun hc4 => ?_)
  ·try simp only [qB, qN] at hc4
   refine B_seq (B_region ?_)
   refine Lo u36 (v_const (VVal.int .i64 (-1)) (.inr rfl) rfl) ?_
   refine L_nil (K_seq (B_ret (K_seqR ?_)))
   refine W10 (.inr rfl) (vres_tmp rfl rfl) ?_
   exact W5f
  ·try simp only [qB, qN] at hc4
   refine B_skip (K_seq (B_seq (B_region ?_)))
   refine Lo u36 (v_const (VVal.int .i64 0) (.inr rfl) rfl) ?_
   refine L_nil (K_seq (B_ret ?_))
   refine W10 (.inr rfl) (vres_tmp rfl rfl) ?_
   exact W5f
theorem Cmp_N {x : SW} (H : VHeap) (a b : List Nat) (hl : a.length = b.length) (h25 : a.length ≤ 1000000) : F (psys x) 61 [fzN a, fzN b] H fun v G => v = iI (cmpI (zI a) (zI b)) ∧ G = H := by
  rw [fzN_is, fzN_is]; exact Cmp_spec H (zI a) (zI b) (by rw [zI_len, zI_len, hl]) (by rw [zI_len]; exact h25)
theorem bef_len {a b : List Int} (h : ¬ (a.length = b.length ∧ a.length ≤ 25)) : bef a b = false := by unfold bef; rw [decide_eq_false h, Bool.false_and]
theorem Before_y {x : SW} (H : VHeap) (a b : List Int) (ha : a.length ≤ 25) (hb : b.length ≤ 25) : F (psys x) 35 [fzI a, fzI b] H fun v G => v = .bool (bef a b) ∧ G = H := by
 refine F_body Tryd.func35 rfl u44 rfl ?_
 refine B_seq (B_region ?_)
 refine Lo u44 (v_const (VVal.bool false) (.inr rfl) rfl) ?_
 refine L_nil (K_seq (B_seq (B_region ?_)))
 refine Lo u44 (v_move (.inl rfl) rfl) ?_
 refine L_call rfl rfl rfl (by exact pOf_spec _ a ha) ?_
 rintro _ _ ⟨rfl, rfl⟩
 refine Le u44 ?_
 refine Lo u44 (v_move (.inl rfl) rfl) ?_
 refine Lo u44 (rfl) ?_
 refine Lo u44 (rfl) ?_
 refine Lo u44 (v_move (.inr rfl) rfl) ?_
 refine Lo u44 (v_move (.inr rfl) rfl) ?_
 refine L_nil (K_seq (B_seq (B_region ?_)))
 refine Lo u44 (v_move (.inl rfl) rfl) ?_
 refine L_call rfl rfl rfl (by exact pOf_spec _ b hb) ?_
 rintro _ _ ⟨rfl, rfl⟩
 refine Le u44 ?_
 refine Lo u44 (v_move (.inl rfl) rfl) ?_
 refine Lo u44 (rfl) ?_
 refine Lo u44 (rfl) ?_
 refine Lo u44 (v_move (.inr rfl) rfl) ?_
 refine Lo u44 (v_move (.inr rfl) rfl) ?_
 refine L_nil (K_seq (B_seq (B_seq (B_region ?_))))
 refine Lo u44 (v_move (.inl rfl) rfl) ?_
 refine Lo u44 (rfl) ?_
 refine Lo u44 (v_move (.inl rfl) rfl) ?_
 refine Lo u44 (v_move (.inl rfl) rfl) ?_
 refine Lo u44 (rfl) ?_
 refine Lo u44 (v_pickF rfl rfl rfl) ?_
 refine Lo u44 (v_move (.inl rfl) rfl) ?_
 refine Lo u44 (v_move (.inl rfl) rfl) ?_
 refine Lo u44 (rfl) ?_
 refine Lo u44 (v_move (.inl rfl) rfl) ?_
 refine Lo u44 (rfl) ?_
 refine Lo u44 (rfl) ?_
 refine Lo u44 (v_pickF rfl rfl rfl) ?_
 refine L_nil (K_seq ?_)
 refine B_cond _ rfl (fun hc1 => ?_) (fun hc1 => ?_)
 ·try simp only [qB, qN] at hc1
  refine B_seq (B_region ?_)
  refine Lo u44 (v_const (VVal.bool false) (.inr rfl) rfl) ?_
  refine L_nil (K_seq (B_ret (K_seqR ?_)))
  refine W10 (.inr rfl) (vres_tmp rfl rfl) ?_
  exact W5h
 ·try simp only [qB, qN] at hc1
  refine B_skip (K_seq (B_seq (B_seq ?_)))
  have hl : a.length = b.length := by omega
  have hE := bef_is hl ha
  refine B_region ?_
  refine Lo u44 (v_move (.inl rfl) rfl) ?_
  refine Lo u44 (v_move (.inl rfl) rfl) ?_
  refine L_call rfl rfl rfl (by exact Cmp_N _ _ _ (by rw [ofP_len', ofP_len', hl]) (by rw [ofP_len']; omega)) ?_
  rintro _ _ ⟨rfl, rfl⟩
  refine Le u44 ?_
  refine Lo u44 (v_move (.inr rfl) rfl) ?_
  refine L_nil (K_seq (B_seq (B_region ?_)))
  refine Lo u44 (v_move (.inl rfl) rfl) ?_
  refine Lo u44 (rfl) ?_
  refine L_nil (K_seq ?_)
  refine B_cond _ rfl (fun hc2 => ?_) (fun hc2 => ?_)
  ·try simp only [qB, qN] at hc2
   refine B_seq (B_region ?_)
   refine Lo u44 (v_move (.inl rfl) rfl) ?_
   refine Lo u44 (rfl) ?_
   refine Lo u44 (v_move (.inr rfl) rfl) ?_
   refine L_nil (K_seq (B_ret (K_seqR ?_)))
   refine W10 (.inr rfl) (vres_tmp rfl rfl) ?_
   exact W5h
  ·try simp only [qB, qN] at hc2
   refine B_skip (K_seq (B_seq (B_region ?_)))
   refine Lo u44 (v_move (.inl rfl) rfl) ?_
   refine Lo u44 (v_move (.inl rfl) rfl) ?_
   refine L_call rfl rfl rfl (by exact Cmp_spec _ a b hl (by omega)) ?_
   rintro _ _ ⟨rfl, rfl⟩
   refine Le u44 ?_
   refine Lo u44 (rfl) ?_
   refine Lo u44 (v_move (.inr rfl) rfl) ?_
   refine L_nil (K_seq (B_ret ?_))
   refine W10 (.inr rfl) (vres_tmp rfl rfl) ?_
   exact W5h
theorem Before_a {x : SW} (H : VHeap) (a b : List Int) (ha : a.length ≤ 25) (hb : 25 < b.length) : F (psys x) 35 [fzI a, fzI b] H fun v G => v = .bool (bef a b) ∧ G = H := by
 refine F_body Tryd.func35 rfl u44 rfl ?_
 refine B_seq (B_region ?_)
 refine Lo u44 (v_const (VVal.bool false) (.inr rfl) rfl) ?_
 refine L_nil (K_seq (B_seq (B_region ?_)))
 refine Lo u44 (v_move (.inl rfl) rfl) ?_
 refine L_call rfl rfl rfl (by exact pOf_spec _ a ha) ?_
 rintro _ _ ⟨rfl, rfl⟩
 refine Le u44 ?_
 refine Lo u44 (v_move (.inl rfl) rfl) ?_
 refine Lo u44 (rfl) ?_
 refine Lo u44 (rfl) ?_
 refine Lo u44 (v_move (.inr rfl) rfl) ?_
 refine Lo u44 (v_move (.inr rfl) rfl) ?_
 refine L_nil (K_seq (B_seq (B_region ?_)))
 refine Lo u44 (v_move (.inl rfl) rfl) ?_
 refine L_call rfl rfl rfl (by exact Of_big _ b hb) ?_
 rintro _ _ ⟨rfl, rfl⟩
 refine Le u44 ?_
 refine Lo u44 (v_move (.inl rfl) rfl) ?_
 refine Lo u44 (rfl) ?_
 refine Lo u44 (rfl) ?_
 refine Lo u44 (v_move (.inr rfl) rfl) ?_
 refine Lo u44 (v_move (.inr rfl) rfl) ?_
 refine L_nil (K_seq (B_seq (B_seq (B_region ?_))))
 refine Lo u44 (v_move (.inl rfl) rfl) ?_
 refine Lo u44 (rfl) ?_
 refine Lo u44 (v_move (.inl rfl) rfl) ?_
 refine Lo u44 (v_move (.inl rfl) rfl) ?_
 refine Lo u44 (rfl) ?_
 refine Lo u44 (v_pickF rfl rfl rfl) ?_
 refine Lo u44 (v_move (.inl rfl) rfl) ?_
 refine Lf u44 ?_
 refine Lf u44 ?_
 refine Lf u44 ?_
 refine Lf u44 ?_
 refine Lf u44 ?_
 refine Lo u44 (v_pickTC (VVal.bool true) rfl rfl rfl) ?_
 refine L_nil (K_seq ?_)
 refine B_true rfl rfl ?_
 refine B_seq (B_region ?_)
 refine Lo u44 (v_const (VVal.bool false) (.inr rfl) rfl) ?_
 refine L_nil (K_seq (B_ret (K_seqR ?_)))
 refine W10 (.inr rfl) (vres_tmp rfl rfl) ?_
 exact ⟨by rw [bef_len (by omega)], rfl⟩
theorem Before_b {x : SW} (H : VHeap) (a b : List Int) (ha : 25 < a.length) (hb : b.length ≤ 25) : F (psys x) 35 [fzI a, fzI b] H fun v G => v = .bool (bef a b) ∧ G = H := by
 refine F_body Tryd.func35 rfl u44 rfl ?_
 refine B_seq (B_region ?_)
 refine Lo u44 (v_const (VVal.bool false) (.inr rfl) rfl) ?_
 refine L_nil (K_seq (B_seq (B_region ?_)))
 refine Lo u44 (v_move (.inl rfl) rfl) ?_
 refine L_call rfl rfl rfl (by exact Of_big _ a ha) ?_
 rintro _ _ ⟨rfl, rfl⟩
 refine Le u44 ?_
 refine Lo u44 (v_move (.inl rfl) rfl) ?_
 refine Lo u44 (rfl) ?_
 refine Lo u44 (rfl) ?_
 refine Lo u44 (v_move (.inr rfl) rfl) ?_
 refine Lo u44 (v_move (.inr rfl) rfl) ?_
 refine L_nil (K_seq (B_seq (B_region ?_)))
 refine Lo u44 (v_move (.inl rfl) rfl) ?_
 refine L_call rfl rfl rfl (by exact pOf_spec _ b hb) ?_
 rintro _ _ ⟨rfl, rfl⟩
 refine Le u44 ?_
 refine Lo u44 (v_move (.inl rfl) rfl) ?_
 refine Lo u44 (rfl) ?_
 refine Lo u44 (rfl) ?_
 refine Lo u44 (v_move (.inr rfl) rfl) ?_
 refine Lo u44 (v_move (.inr rfl) rfl) ?_
 refine L_nil (K_seq (B_seq (B_seq (B_region ?_))))
 refine Lo u44 (v_move (.inl rfl) rfl) ?_
 refine Lo u44 (rfl) ?_
 refine Lo u44 (v_move (.inl rfl) rfl) ?_
 refine Lf u44 ?_
 refine Lf u44 ?_
 refine Lo u44 (v_pickTC (VVal.bool true) rfl rfl rfl) ?_
 refine Lo u44 (v_move (.inl rfl) rfl) ?_
 refine Lf u44 ?_
 refine Lf u44 ?_
 refine Lf u44 ?_
 refine Lf u44 ?_
 refine Lf u44 ?_
 refine Lo u44 (v_pickTC (VVal.bool true) rfl rfl rfl) ?_
 refine L_nil (K_seq ?_)
 refine B_true rfl rfl ?_
 refine B_seq (B_region ?_)
 refine Lo u44 (v_const (VVal.bool false) (.inr rfl) rfl) ?_
 refine L_nil (K_seq (B_ret (K_seqR ?_)))
 refine W10 (.inr rfl) (vres_tmp rfl rfl) ?_
 exact ⟨by rw [bef_len (by omega)], rfl⟩
theorem Before_n {x : SW} (H : VHeap) (a b : List Int) (ha : 25 < a.length) (hb : 25 < b.length) : F (psys x) 35 [fzI a, fzI b] H fun v G => v = .bool (bef a b) ∧ G = H := by
 refine F_body Tryd.func35 rfl u44 rfl ?_
 refine B_seq (B_region ?_)
 refine Lo u44 (v_const (VVal.bool false) (.inr rfl) rfl) ?_
 refine L_nil (K_seq (B_seq (B_region ?_)))
 refine Lo u44 (v_move (.inl rfl) rfl) ?_
 refine L_call rfl rfl rfl (by exact Of_big _ a ha) ?_
 rintro _ _ ⟨rfl, rfl⟩
 refine Le u44 ?_
 refine Lo u44 (v_move (.inl rfl) rfl) ?_
 refine Lo u44 (rfl) ?_
 refine Lo u44 (rfl) ?_
 refine Lo u44 (v_move (.inr rfl) rfl) ?_
 refine Lo u44 (v_move (.inr rfl) rfl) ?_
 refine L_nil (K_seq (B_seq (B_region ?_)))
 refine Lo u44 (v_move (.inl rfl) rfl) ?_
 refine L_call rfl rfl rfl (by exact Of_big _ b hb) ?_
 rintro _ _ ⟨rfl, rfl⟩
 refine Le u44 ?_
 refine Lo u44 (v_move (.inl rfl) rfl) ?_
 refine Lo u44 (rfl) ?_
 refine Lo u44 (rfl) ?_
 refine Lo u44 (v_move (.inr rfl) rfl) ?_
 refine Lo u44 (v_move (.inr rfl) rfl) ?_
 refine L_nil (K_seq (B_seq (B_seq (B_region ?_))))
 refine Lo u44 (v_move (.inl rfl) rfl) ?_
 refine Lo u44 (rfl) ?_
 refine Lo u44 (v_move (.inl rfl) rfl) ?_
 refine Lf u44 ?_
 refine Lf u44 ?_
 refine Lo u44 (v_pickTC (VVal.bool true) rfl rfl rfl) ?_
 refine Lo u44 (v_move (.inl rfl) rfl) ?_
 refine Lf u44 ?_
 refine Lf u44 ?_
 refine Lf u44 ?_
 refine Lf u44 ?_
 refine Lf u44 ?_
 refine Lo u44 (v_pickTC (VVal.bool true) rfl rfl rfl) ?_
 refine L_nil (K_seq ?_)
 refine B_true rfl rfl ?_
 refine B_seq (B_region ?_)
 refine Lo u44 (v_const (VVal.bool false) (.inr rfl) rfl) ?_
 refine L_nil (K_seq (B_ret (K_seqR ?_)))
 refine W10 (.inr rfl) (vres_tmp rfl rfl) ?_
 exact ⟨by rw [bef_len (by omega)], rfl⟩
theorem Before_spec {x : SW} (H : VHeap) (a b : List Int) : F (psys x) 35 [fzI a, fzI b] H fun v G => v = .bool (bef a b) ∧ G = H := by
  by_cases ha : a.length ≤ 25
  · by_cases hb : b.length ≤ 25
    · exact Before_y H a b ha hb
    · exact Before_a H a b ha (by omega)
  · by_cases hb : b.length ≤ 25
    · exact Before_b H a b (by omega) hb
    · exact Before_n H a b (by omega) (by omega)
end Go.Proofs.YtnbihdflnjpinaaDoor.VT

set_option autoImplicit false
set_option linter.unusedVariables false
set_option linter.unusedSimpArgs false
set_option maxHeartbeats 4000000
set_option maxRecDepth 100000
namespace Go.Proofs.YtnbihdflnjpinaaDoor.VT
open Go Go.V Go.RowKit
end Go.Proofs.YtnbihdflnjpinaaDoor.VT
