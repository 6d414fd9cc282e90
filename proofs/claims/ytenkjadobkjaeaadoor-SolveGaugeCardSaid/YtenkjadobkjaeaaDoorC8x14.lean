/- Proved: Rows.SolveGaugeCardSaid, the statement SolveGauge with its card, of the given program at the commit; no conditions beyond those in the statement. -/
import Derived.Test.YtenkjadobkjaeaaDoorC8x13
set_option autoImplicit false
set_option linter.unusedVariables false
set_option linter.unusedSimpArgs false
set_option maxHeartbeats 4000000
set_option maxRecDepth 100000
namespace Go.Proofs.YtenkjadobkjaeaaDoor.VT
open Go Go.V Go.RowKit
abbrev u36 {a0 a1 a2 a3 a4 a5 a6 a7 a8 a9 a10 a11 a12 a13 a14 a15 a16 a17 a18 a19 a20 a21 a22 a23 a24 a25 a26 a27 a28 a29 a30 a31 a32 a33 a34 a35 : VVal} : VEnv := a0 :: a1 :: a2 :: a3 :: a4 :: a5 :: a6 :: a7 :: a8 :: a9 :: a10 :: a11 :: a12 :: a13 :: a14 :: a15 :: a16 :: a17 :: a18 :: a19 :: a20 :: a21 :: a22 :: a23 :: a24 :: a25 :: a26 :: a27 :: a28 :: a29 :: a30 :: a31 :: a32 :: a33 :: a34 :: a35 :: []
theorem W4t {S : V.Sys} {H : Zd} {fn : Func} {ex : Exit} {env : VEnv} {B L : Zd} {v : VVal} {R : VVal → Zd → Prop} (hx : ex = .normal ∨ ex = .ret) (hv : Z0 S.C.T env (B ++ L) fn.results = some v) (h : R v B) (hB : BaseOk H B := by exact XH32) (hu : v.under H.length = true := by show (true && (((huP u (fzW ws) (fzRR rss) y).under _ && true) && ((fzW rows).under _ && true && true))) = true; rw [huUnder hy, show (fzW rows).under _ = true from fzW_under _ _]; rfl) : fnK S fn H R ex env (B ++ L) := E_app hx hv hB hu h
theorem W4u {S : V.Sys} {H : Zd} {fn : Func} {ex : Exit} {env : VEnv} {B L : Zd} {v : VVal} {R : VVal → Zd → Prop} (hx : ex = .normal ∨ ex = .ret) (hv : Z0 S.C.T env (B ++ L) fn.results = some v) (h : R v B) (hB : BaseOk H B := by exact XH32) (hu : v.under H.length = true := by show (true && (((huP u (fzW ws) (fzRR rss) y).under _ && true) && ((fzN a).under _ && true && true))) = true; rw [huUnder hy, show (fzN a).under _ = true from mapN_under _ _]; rfl) : fnK S fn H R ex env (B ++ L) := E_app hx hv hB hu h
theorem W4w {T : TypeId → Option VTy} {H : Zd} {op : Op} {ρ : Operand → VVal} {t : TypeId} {a : Operand} {y : VTy} {p v : VVal} (ho : op = .load t a) (ha : ρ a = p) (hy : T t = some y) (hd : Zk y.desc = false) (h : LdOk H p v := by first | exact .inl ⟨_, _, rfl, by first | rfl | assumption | exact Yw (α := Nat) 0 (by omega)⟩ | exact .inr ⟨_, _, _, _, rfl, XH23, by first | rfl | assumption | exact Yw (α := Nat) 0 (by omega)⟩) : vop T ρ H op = some (v, H) := v_ld ho ha hy hd h
theorem W4y {T : TypeId → Option VTy} {H : Zd} {op : Op} {ρ : VEnv} {H' : Zd} {t : TypeId} {a : Operand} {i : Nat} {v : VVal} {y : VTy} {b off : Nat} {cs new : List VVal} (ho : op = .store t a (.tmp i)) (hv : ρ[i]? = some v) (ha : ρ.eval a = .ptr (some (b, off))) (hy : T t = some y) (hx : v.cells = some new) (hn : new.length = y.size) (h1 : new.all VVal.one = true) (hb : H[b]? = some (.cells cs true) := by exact XH23) (hl : off + new.length ≤ cs.length := by show 0 + k * 1 + 1 ≤ _; rw [List.length_map, plK_len (by omega)]; omega) (hH : H.set b (.cells (Zv cs off new) true) = H' := by exact (setE0 rfl rfl).trans (by show _ ++ (_ ++ [VBlk.cells (Zv (rcN (plK a us k)) (0 + k * 1) [iI ((us.getD (a.getD k 0) 0 : Nat) : Int)]) true]) = _; rw [spl_N (by rw [plK_len (by omega)]; omega)])) : vop T ρ.eval H op = some (.skip, H') := Z6 ho hv ha hy hx hn h1 hb hl hH
theorem W50 {P : Prop} (h : P := by first | exact ⟨true, _, [.dead, k] ++ J9, by rw [List.append_assoc], hI g0 hg0⟩ | exact ⟨false, _, [.dead, k] ++ J9, by rw [List.append_assoc], hX⟩) : P := h
theorem Users_spec {x : SW} (H : Zd) {u : Int} {ws : List (BitVec 64)} {rss : List (List Rul)} (y : Nat) (hy : y < H.length) (rows : List (BitVec 64)) : F (psys x) 89 [huP u (fzW ws) (fzRR rss) y, fzW rows] H fun v G => v = .func 120 [] [.fptr [huP u (fzW ws) (fzRR rss) y] 0, .fptr [fzW rows] 0] ∧ G = H := by
 refine Zs Tryd.func89 rfl u6 rfl ?_
 refine Ze (Za ?_)
 refine Lo u6 (Zw rfl rfl rfl) ?_
 refine Lo u6 (Zw rfl rfl rfl) ?_
 refine Lo u6 (Zh (VVal.nilFunc) (.inr rfl) rfl) ?_
 refine Zf (Zc (Ze (Za ?_)))
 refine L_gh (Gh.freezePtrL (cs := [huP u (fzW ws) (fzRR rss) y]) 2 0 rfl rfl rfl) ?_
 refine L_gh (Gh.freezePtrL (cs := [fzW rows]) 3 1 rfl rfl rfl) ?_
 refine Lo u6 (v_func [_, _] rfl rfl) ?_
 refine Lo u6 (Zb (.inr rfl) rfl) ?_
 refine Zf (Zc (Zj ?_))
 refine W4t (.inr rfl) (Zg rfl rfl) ?_
 exact ⟨rfl, rfl⟩
theorem Plans_spec {x : SW} (H : Zd) {u : Int} {ws : List (BitVec 64)} {rss : List (List Rul)} (y : Nat) (hy : y < H.length) (a : List Nat) : F (psys x) 54 [huP u (fzW ws) (fzRR rss) y, fzN a] H fun v G => v = .func 88 [] [.fptr [huP u (fzW ws) (fzRR rss) y] 0, .fptr [fzN a] 0] ∧ G = H := by
 refine Zs Tryd.func54 rfl u6 rfl ?_
 refine Ze (Za ?_)
 refine Lo u6 (Zw rfl rfl rfl) ?_
 refine Lo u6 (Zw rfl rfl rfl) ?_
 refine Lo u6 (Zh (VVal.nilFunc) (.inr rfl) rfl) ?_
 refine Zf (Zc (Ze (Za ?_)))
 refine L_gh (Gh.freezePtrL (cs := [huP u (fzW ws) (fzRR rss) y]) 2 0 rfl rfl rfl) ?_
 refine L_gh (Gh.freezePtrL (cs := [fzN a]) 3 1 rfl rfl rfl) ?_
 refine Lo u6 (v_func [_, _] rfl rfl) ?_
 refine Lo u6 (Zb (.inr rfl) rfl) ?_
 refine Zf (Zc (Zj ?_))
 refine W4u (.inr rfl) (Zg rfl rfl) ?_
 exact ⟨rfl, rfl⟩
theorem tv_cons {z : List (Gz × List Nat)} {e d : Gz} {c : VVal} {post : List (Gz × VVal)} (h : tv (z, e) = (d, c) :: post) : ∃ us z1, z = (d, us) :: z1 ∧ c = fzN us := by
  cases z with
  | nil => cases h
  | cons q z =>
    obtain ⟨d1, us⟩ := q
    have h : (d1, fzN us) :: tv (z, e) = (d, c) :: post := h
    injection h with h1 h2
    injection h1 with h3 h4
    exact ⟨us, z, by rw [h3], h4.symm⟩
theorem tv_nil {xs : List (Gz × VVal)} {z : List (Gz × List Nat)} {e : Gz} (h : xs = xs ++ tv (z, e)) : z = [] := by
  have : tv (z, e) = [] := by simpa using h
  cases z with
  | nil => rfl
  | cons q z => cases this
theorem fzN_pl {a us : List Nat} : fzN (plN a us) = .fsl (rcN (plN a us)) a.length 1 false := by
  show VVal.fsl _ (plN a us).length 1 false = _
  rw [plN_len]
theorem each_top {x : SW} {u : Int} {ws rs : VVal} (y l : Nat) (rows : List (BitVec 64)) (hr : rows.length ≤ 1000000) (A : Zd) (g : Gz) (K : Bool → Zd → Prop) (hs : A[y]? = some (gaB g)) (hI : IterP (psys x) l y (tv (usT rows [] 0#64)) (usT rows [] 0#64).2 A K) :
    F (psys x) 121 [huP u ws rs y, fzW rows, niS, iW 0#64, .yield l] A fun v G => ∃ b A1 J, v = .bool b ∧ G = A1 ++ J ∧ K b A1 := by
  refine F.pre (Gh.freezeNil (vs' := [huP u ws rs y, fzW rows, fzN [], iW 0#64, .yield l]) 2 rfl rfl) ?_
  have := each_spec (x := x) (u := u) (ws := ws) (rs := rs) y l rows hr rows.length A [] [] 0#64 g K hs hI (Nat.zero_add _)
  rw [List.append_nil] at this
  refine this.mono ?_
  rintro v G ⟨b, A1, J, rfl, rfl, _, hk, _⟩
  exact ⟨b, A1, J, rfl, rfl, hk⟩
theorem Users1_spec {x : SW} {u : Int} {ws rs : VVal} (y l : Nat) (rows : List (BitVec 64)) (hr : rows.length ≤ 1000000) (A : Zd) (g : Gz) (K : Bool → Zd → Prop) (hs : A[y]? = some (gaB g)) (hI : IterP (psys x) l y (tv (usT rows [] 0#64)) (usT rows [] 0#64).2 A K) : F (psys x) 120 [.yield l, .fptr [huP u ws rs y] 0, .fptr [fzW rows] 0] A fun v G => ∃ b A1 J, G = A1 ++ J ∧ K b A1 := by
 refine Zs Tryd.func120 rfl u8 rfl ?_
 rw [List.append_nil]
 refine Za ?_
 refine Lo u8 (W12 rfl rfl rfl rfl) ?_
 refine Lo u8 (W12 rfl rfl rfl rfl) ?_
 refine Lo u8 (Zb (.inl rfl) rfl) ?_
 refine Zt rfl rfl rfl (by exact each_top y l rows hr A g K hs hI) ?_
 rintro _ _ ⟨b, A1, J, rfl, rfl, hk⟩
 refine Le u8 ?_
 refine Zf ?_
 refine E_keep (.inl rfl) (vres_none rfl) ?_
 exact ⟨b, A1, J, rfl, hk⟩
theorem Plans1_spec {x : SW} {u : Int} {ws : List (BitVec 64)} {rss : List (List Rul)} (y l : Nat) (a : List Nat) (ha : Pat a) (hw : a.length ≤ ws.length) (hn : ws.length ≤ 1000000) (A : Zd) (g : Gz) (K : Bool → Zd → Prop) (hs : A[y]? = some (gaB g)) (hI : IterP (psys x) l y (tv (plT a (usT (Z8 ws a a.length) [] 0#64))) (usT (Z8 ws a a.length) [] 0#64).2 A K) : F (psys x) 88 [.yield l, .fptr [huP u (fzW ws) (fzRR rss) y] 0, .fptr [fzN a] 0] A fun v G => ∃ b A1 J, G = A1 ++ J ∧ K b A1 := by
 refine Zs Tryd.func88 rfl u36 rfl ?_
 refine Ze (Za ?_)
 refine Lo u36 (Zw rfl rfl rfl) ?_
 refine Zf (Zc (Ze ?_))
 refine Yy (Gh.freezePtrL (cs := [.yield l]) 3 0 rfl rfl rfl) ?_
 refine ZV [0, 1, 2, 3, 4] #[0, 0, 0, 6, 15] XH2 XH2 XH2 ?_
 refine Ye (env' := u36) (x := .look _ _) rfl rfl rfl (W4w rfl rfl rfl rfl) rfl rfl rfl ?_
 refine Oo u36 .look rfl (W4w rfl rfl rfl rfl) ?_
 refine Oo u36 .look rfl (W4w rfl rfl rfl rfl) ?_
 refine ZX (env' := u36) rfl rfl rfl rfl rfl (by exact hBlocks_spec _ _ _ ha hw hn) XH7 rfl rfl ?_
 refine ZX (env' := u36) rfl rfl rfl rfl rfl (by exact Users_spec _ y (by have := ZO hs; simp; omega) _) XH7 rfl rfl ?_
 refine ZS [_] (by rfl) (And.intro (And.intro (W4w rfl rfl rfl rfl) (W4w rfl rfl rfl rfl)) trivial) ?_
 refine Zc (Zo ?_)
 refine ZJ (mk 36 68719472627) (env' := u36) rfl ?_
 refine B_heap (H' := A ++ [.dead]) rfl ?_
 refine B_rangePJ (y) (tv (usT (Z8 ws a a.length) [] 0#64)) ((usT (Z8 ws a a.length) [] 0#64).2) (fun l0 h => by cases h) rfl (fun l9 G9 K9 hg9 hI9 => Users1_spec y l9 (Z8 ws a a.length) (by rw [blkN_len]; have := @szP_le a a.length; omega) G9 _ K9 hg9.choose_spec hI9) (σ := {q : Zd × Gz // q.1.length = A.length}) (fun k s => s.1.1 ++ [.dead, k]) ⟨(A, g), rfl⟩ (fun k => by simp) (fun k s => by simp [s.2]) (fun k s => by rw [show (A ++ [VBlk.dead]).length = A.length + 1 by simp]; exact ZG s.2 rfl) (fun k k1 s => by rw [show (A ++ [VBlk.dead]).length = A.length + 1 by simp]; exact ZW s.2) (fun s => s.1.2) (fun d s => ⟨(s.1.1.set y (gaB (s.1.2 + d)), s.1.2 + d), by rw [List.length_set]; exact s.2⟩) (fun pre s => ∃ z, tv (usT (Z8 ws a a.length) [] 0#64) = pre ++ tv (z, (usT (Z8 ws a a.length) [] 0#64).2) ∧ (∀ q, q ∈ z → q.2.length = szP a a.length) ∧ s.1.1[y]? = some (gaB s.1.2) ∧ IterP (psys x) l y (tv (plT a (z, (usT (Z8 ws a a.length) [] 0#64).2))) (usT (Z8 ws a a.length) [] 0#64).2 s.1.1 K) (fun k s pre hI => by obtain ⟨_, _, _, h, _⟩ := hI; exact Zq h) (fun k s d pre hI => by obtain ⟨_, _, _, h, _⟩ := hI; exact Yj (ZO h)) ?_ (fun j pre c s => (j = Code.ret ∧ (K false s.1.1))) rfl ?_ ?_ ?_
 ·exact ⟨(usT (Z8 ws a a.length) [] 0#64).1, rfl, fun q hq => by rw [usT_len q hq, blkN_len]; simp, hs, hI⟩
 ·intro pre d c post s hx hI Lp kr kb hkr hkb
  obtain ⟨⟨A0, g0⟩, hA0⟩ := s
  try dsimp only at hI ⊢
  have hA0 : A0.length = A.length := hA0
  obtain ⟨z, hz, hzl, hg0, hI⟩ := hI
  obtain ⟨us, z, rfl, rfl⟩ : ∃ us z1, z = (d, us) :: z1 ∧ c = fzN us := tv_cons (List.append_cancel_left (hz.symm.trans hx))
  have hul : us.length = szP a a.length := hzl _ (List.mem_cons_self ..)
  have hI1 := hI g0 hg0
  refine ZZ (env' := u36) rfl ?_
  refine Za ?_
  refine Lo u36 (Zb (.inr rfl) rfl) ?_
  refine Zf ?_
  refine ⟨rfl, ⟨(A0.set y (gaB (g0 + d)), g0 + d), by rw [List.length_set]; exact hA0⟩, rfl, ?_⟩
  try dsimp only
  refine B_heap (H' := A0.set y (gaB (g0 + d)) ++ ([.dead, kb] ++ Lp)) (by simp) ?_
  refine Zo (Ze (Za ?_))
  refine Lo u36 (W4w rfl rfl rfl rfl) ?_
  refine Lo u36 (rfl) ?_
  refine Lo u36 (v_makeSlice rfl rfl rfl rfl rfl (by decide) ⟨by omega, Int.le_refl _, by show (a.length : Int) * (8 : Nat) ≤ _; omega, by omega⟩) ?_
  refine Lo u36 (Zb (.inr rfl) rfl) ?_
  refine Zf (Zc (Ze (Ze (Za ?_))))
  refine Lo u36 (W4w rfl rfl rfl rfl) ?_
  refine Lo u36 (rfl) ?_
  refine Lo u36 (Zh (VVal.int .i64 0) (.inl rfl) rfl) ?_
  refine Zf (Zc (Zo ?_))
  refine ZJ (mk 36 68718559175) (env' := u36) rfl ?_
  refine ZN (fun (k : Nat) => a.length - k) (fun (k : Nat) => [(19, iI (k : Nat))]) (fun (k : Nat) G => (k ≤ a.length) ∧ G = A0.set y (gaB (g0 + d)) ++ (([.dead, kb] ++ Lp) ++ [.cells (rcN (plK a us k)) true])) 0 rfl ?_ ?_
  ·refine ⟨?_, (by rw [show plK a us 0 = List.replicate a.length 0 from rfl, ← rep_rc]; rfl)⟩
   exact Nat.zero_le _
  rintro k _ ⟨hk9, rfl⟩
  refine ZZ (env' := u36) rfl ?_
  refine Ze (Za ?_)
  refine Lo u36 (rfl) ?_
  refine Zf (Zc (Ze ?_))
  refine Zm _ rfl (fun hc1 => ?_) (fun hc1 => ?_)
  ·try simp only [qB, qN] at hc1
   refine Zl (Zc (Ze (Zo (Ze (Za ?_)))))
   refine Lo u36 (Zb (.inl rfl) rfl) ?_
   refine Lo u36 (W18 rfl rfl rfl rfl rfl rfl rfl) ?_
   refine Lo u36 (W4w rfl rfl rfl rfl) ?_
   refine Lo u36 (Zb (.inr rfl) rfl) ?_
   refine Lo u36 (Zb (.inr rfl) rfl) ?_
   refine Zf (Zc ?_)
   have hlt := Pat.lt ha (Nat.le_refl a.length) (i := k) (by omega)
   refine Za ?_
   refine Lo u36 (Zb (.inl rfl) rfl) ?_
   refine Lo u36 (Zb (.inl rfl) rfl) ?_
   refine Lo u36 (Zb (.inl rfl) rfl) ?_
   refine Lo u36 (Zb (.inl rfl) rfl) ?_
   refine Lo u36 (W18 rfl rfl rfl rfl rfl rfl rfl) ?_
   refine Lo u36 (W4w rfl rfl rfl rfl) ?_
   refine Lo u36 (W18 rfl rfl rfl rfl rfl rfl rfl) ?_
   refine Lo u36 (W4y rfl rfl rfl rfl rfl rfl rfl) ?_
   refine Zf (Zy (Zc (Za ?_)))
   refine Lo u36 (W14 rfl rfl rfl) ?_
   refine Lo u36 (Zb (.inl rfl) rfl) ?_
   refine Zf ?_
   refine ZD (mk 36 68718559175) (env' := u36) rfl ⟨k + 1, ?_, rfl, ?_⟩
   ·first | omega | (simp only []; omega)
   ·exact ⟨by omega, by rw [plK_step (by omega)]⟩
  ·try simp only [qB, qN] at hc1
   refine ZR (ZP (ZI (ZQ (Zc (Ze ?_)))))
   obtain rfl : k = a.length := by omega
   rw [plK_all]
   refine Yy (Gh.freezeL (l := rcN (plN a us)) 5 ([VBlk.dead, kb] ++ Lp).length rfl get_end (cellsAt_all (by rw [List.length_map, plN_len]; rfl)) (Nat.le_refl _) rfl) ?_
   rw [set_end]
   refine Za ?_
   refine Lo u36 (W4w rfl rfl rfl rfl) ?_
   refine Lo u36 (Zb (.inl rfl) rfl) ?_
   refine L_callV rfl rfl rfl (by have h9 : Fv (psys x) (.yield l) [fzN (plN a us)] (A0.set y (gaB (g0 + d)) ++ (([.dead, kb] ++ Lp) ++ [.dead])) _ := hI1 _; rw [fzN_pl] at h9; exact h9) ?_
   rintro _ _ ⟨b, A2, J2, rfl, rfl, hA2, hk⟩; have hA3 : A2.length = A.length := hA2.trans hA0
   refine Le u36 ?_
   refine Lo u36 (rfl) ?_
   refine Zf (Zc ?_)
   refine Zm _ rfl (fun hc2 => ?_) (fun hc2 => ?_)
   ·try simp only [qB, qN] at hc2
    have hb : b = false := by simpa using hc2
    subst hb
    have hk : K false A2 := hk
    refine Zj (ZB ?_)
    refine ⟨⟨(A2, g0), hA3⟩, .dead :: J2, (by simp), .inr ⟨Code.ret, rfl, ⟨rfl, ?_⟩⟩⟩
    exact hk
   ·try simp only [qB, qN] at hc2
    have hb : b = true := by simpa using hc2
    subst hb
    obtain ⟨⟨g2, hg2⟩, hk2⟩ := hk
    refine Zl (Zy ?_)
    refine ⟨⟨(A2, g2), hA3⟩, .dead :: J2, (by simp), .inl ⟨rfl, ?_⟩⟩
    exact ⟨z, by rw [hz, List.append_assoc]; rfl, fun q hq => hzl q (List.mem_cons_of_mem _ hq), hg2, hk2⟩
 ·intro s k hk hI J9
  obtain ⟨⟨A0, g0⟩, hA0⟩ := s
  try dsimp only at hI ⊢
  obtain ⟨z, hz, hzl, hg0, hI⟩ := hI
  obtain rfl := tv_nil hz
  refine Zy ?_
  refine E_keep (.inl rfl) (vres_none rfl) ?_
  exact W50
 ·rintro j pre c post s k hk hx (⟨rfl, hX⟩) J9
  obtain ⟨⟨A0, g0⟩, hA0⟩ := s
  try dsimp only
  refine J_ret ?_
  refine ZB ?_
  refine E_keep (.inr rfl) (vres_none rfl) ?_
  exact W50
theorem W51 {T : TypeId → Option VTy} {H : Zd} {op : Op} {ρ : Operand → VVal} {t : TypeId} {a : Operand} {y : VTy} {p : VVal} {n : Nat} {vs : List VVal} (ho : op = .load t a) (ha : ρ a = p) (hy : T t = some y) (hd : Zk y.desc = true) (hn : y.size = n) (h : LdOkA H p n vs := by first | exact .inl ⟨_, _, rfl, by first | rfl | assumption⟩ | exact .inr ⟨_, _, _, _, rfl, XH23, by first | rfl | assumption⟩) : vop T ρ H op = some (.agg vs, H) := v_ldA ho ha hy hd hn h
def leA (p : Pb) : Option (List Nat) := if pck p = 0 then fdA p.users.toNat (wsP p) (Yd p) else none
def leG (p : Pb) : Gz := if pck p = 0 then fdG p.users.toNat (wsP p) (Yd p) else 0
def leT : Option (List Nat) → VVal
  | some l => .tuple [fzN l, .bool true]
  | none => .tuple [fzN [], .bool false]
theorem rssP_len {p : Pb} : (Yd p).length = (wsP p).length := by unfold Yd; rw [addR_len, wsP_len]
theorem rssP_ok {p : Pb} (g : Go.V.Good p) : ∀ i, ((Yd p).getD i []).length ≤ 1000000 ∧ ∀ r, r ∈ (Yd p).getD i [] → r.steps.length ≤ 1000000 := fun i => by
  have g3 := g.r32; have g1 := g.n12
  have gs := fun r hr => rck_len (g.ru r hr)
  refine ⟨?_, fun r hr => ?_⟩
  · have := addR_row (n := p.who.length) (i := i) gs (m := p.rules.length) (Nat.le_refl _)
    unfold Yd; omega
  · have hin := fun r hr x hx => by
      have h := g.ru r hr
      unfold rck at h
      rw [Bool.and_eq_true, Bool.and_eq_true] at h
      have := riseA_mem _ _ h.2.1 x hx
      exact (show 0 ≤ x ∧ x < (p.who.length : Int) by omega)
    have := (addR_mem (n := p.who.length) (rs := p.rules) (r' := r) (i := i) hin (m := p.rules.length) (Nat.le_refl _)).1 hr
    rw [List.take_length] at this
    have := gs r this.1; omega
theorem New_N {x : SW} (H : Zd) (p : Pb) (y : Nat) (hy : y < H.length) (g : Go.V.Good p) : F (psys x) 51 [.agg (pbB p), .ptr (some (y, 0))] H fun v G => v = huP (p.users.toNat : Nat) (fzW (wsP p)) (fzRR (Yd p)) y ∧ G = H := by
  rw [Int.toNat_of_nonneg g.u0]; exact New_spec H p y hy g
theorem Search_in {x : SW} (H L : Zd) {p : Pb} {y : Nat} {g : Gz} (hs : H[y]? = some (gaB g)) (hg : Go.V.Good p) : F (psys x) 52 [iI (p.who.length : Nat), iI 1, kpV p.users.toNat (wsP p) (Yd p) y] (H ++ L) fun v G => v = .fsl ((frm (kpB (wsP p) (Yd p)) (kpG p.users.toNat (wsP p) (Yd p)) (wsP p).length [] 0).2.toList.map fzN) (frm (kpB (wsP p) (Yd p)) (kpG p.users.toNat (wsP p) (Yd p)) (wsP p).length [] 0).2.toList.length 1 false ∧ G = H.set y (gaB (g + (frm (kpB (wsP p) (Yd p)) (kpG p.users.toNat (wsP p) (Yd p)) (wsP p).length [] 0).1)) ++ L := by
  have g1 := hg.n12
  have := Search_spec (x := x) (u := p.users.toNat) (H ++ L) g (Zq hs) (by rw [wsP_len]; omega) rssP_len (rssP_ok hg) (by rw [wsP_len]; exact g1)
  rw [wsP_len] at this
  rw [Yj (ZO hs)] at this
  rw [wsP_len]; exact this
theorem Least_bad {x : SW} (H : Zd) (y : Nat) (g : Gz) (hs : H[y]? = some (gaB g)) (p : Pb) (hp : PbL p) (hb : ¬ pck p = 0) : F (psys x) 21 [.ptr (some (y, 0)), .agg (pbB p)] H fun v G => v = .tuple [fzN [], .bool false] ∧ G = H := by
 refine Zs Tryd.func21 rfl u35 rfl ?_
 refine Ze (Za ?_)
 refine Lo u35 (Zw rfl rfl rfl) ?_
 refine Lo u35 (ZH rfl rfl) ?_
 refine Lo u35 (ZH rfl rfl) ?_
 refine Zf (Zc (Ze (Ze ?_)))
 refine Yy (Gh.freezePtrL (cs := pbB p) 3 0 rfl rfl rfl) ?_
 refine Za ?_
 refine Lo u35 (W51 rfl rfl rfl rfl rfl) ?_
 refine Zt rfl rfl rfl (by exact sCheck_spec _ _ hp) ?_
 rintro _ _ ⟨rfl, rfl⟩
 refine Le u35 ?_
 refine Lo u35 (v_is true rfl (by simp [hb])) ?_
 refine Zf (Zc ?_)
 refine ZM rfl rfl ?_
 refine Ze (Za ?_)
 refine Lo u35 (Ym (VVal.slice none 0 0 true 0) rfl rfl rfl rfl rfl rfl rfl XH0 XH4 XH5) ?_
 refine Lo u35 (Ym (VVal.bool false) rfl rfl rfl rfl rfl rfl rfl XH0 XH4 XH5) ?_
 refine Zf (Zc ?_)
 refine Yy (Gh.cellNilL 1 0 (es' := 1) rfl rfl) ?_
 refine Zj (Zn ?_)
 refine W10 (.inr rfl) (vres_cells2 rfl rfl rfl rfl rfl rfl rfl XH0 (by rfl) XH0 (by rfl)) ?_
 exact ⟨rfl, rfl⟩
theorem Least_none {x : SW} (H : Zd) (y : Nat) (g : Gz) (hs : H[y]? = some (gaB g)) (p : Pb) (hp : PbL p) (hg0 : pck p = 0) (hf : (frm (kpB (wsP p) (Yd p)) (kpG p.users.toNat (wsP p) (Yd p)) (wsP p).length [] 0).2 = none) : F (psys x) 21 [.ptr (some (y, 0)), .agg (pbB p)] H fun v G => v = .tuple [fzN [], .bool false] ∧ G = H.set y (gaB (g + (frm (kpB (wsP p) (Yd p)) (kpG p.users.toNat (wsP p) (Yd p)) (wsP p).length [] 0).1)) := by
 have hg : Go.V.Good p := pck_good.1 hg0
 refine Zs Tryd.func21 rfl u35 rfl ?_
 refine Ze (Za ?_)
 refine Lo u35 (Zw rfl rfl rfl) ?_
 refine Lo u35 (ZH rfl rfl) ?_
 refine Lo u35 (ZH rfl rfl) ?_
 refine Zf (Zc (Ze (Ze ?_)))
 refine Yy (Gh.freezePtrL (cs := pbB p) 3 0 rfl rfl rfl) ?_
 refine Za ?_
 refine Lo u35 (W51 rfl rfl rfl rfl rfl) ?_
 refine Zt rfl rfl rfl (by exact sCheck_spec _ _ hp) ?_
 rintro _ _ ⟨rfl, rfl⟩
 refine Le u35 ?_
 refine Lo u35 (v_is false rfl (by rw [hg0]; rfl)) ?_
 refine Zf (Zc ?_)
 refine Z4 rfl rfl ?_
 refine Zl (Zc (Ze ?_))
 refine ZV [0, 1, 2, 3, 4, 5] #[0, 0, 2, 6, 15, 31] XH2 XH2 XH2 ?_
 refine Oo u35 .look rfl (W51 rfl rfl rfl rfl rfl) ?_
 refine Oo u35 .calm rfl (Zb (.inl rfl) rfl) ?_
 refine Oo u35 .calm rfl (rfl) ?_
 refine Oo u35 .calm rfl (rfl) ?_
 refine ZX (env' := u35) rfl rfl rfl rfl rfl (by exact New_N _ p y (by have := ZO hs; simp; omega) hg) XH7 rfl rfl ?_
 refine Oo u35 .calm rfl (Zb (.inr rfl) rfl) ?_
 refine ZS [] XH2 (trivial) ?_
 refine Zc (Ze (Ze (Za ?_)))
 refine Lo u35 (rfl) ?_
 refine Lo u35 (W4k rfl rfl rfl rfl) ?_
 refine Lo u35 (rfl) ?_
 refine Lo u35 (Zb (.inl rfl) rfl) ?_
 refine Lo u35 ((rfl : vop _ _ _ _ = some (kpV p.users.toNat (wsP p) (Yd p) y, _))) ?_
 refine Zt rfl rfl rfl (by exact Search_in H _ hs hg) ?_
 rintro _ _ ⟨rfl, rfl⟩; rw [hf]
 refine Le u35 ?_
 refine Lo u35 (rfl) ?_
 refine Lo u35 (Zh (VVal.int .i64 0) (.inl rfl) rfl) ?_
 refine Zf (Zc (Zo ?_))
 refine ZJ (mk 35 34301017999) (env' := u35) rfl ?_
 refine ZN (fun (k : Nat) => 0) (fun (k : Nat) => [(25, iI (k : Nat))]) (fun (k : Nat) G => (k = 0) ∧ G = H.set y (gaB (g + (frm (kpB (wsP p) (Yd p)) (kpG p.users.toNat (wsP p) (Yd p)) (wsP p).length [] 0).1)) ++ [.dead, .cells [niS] true, .cells [.bool false] true]) 0 rfl ?_ ?_
 ·refine ⟨?_, rfl⟩
  rfl
 rintro k _ ⟨hk9, rfl⟩
 refine ZZ (env' := u35) rfl ?_
 refine Ze (Za ?_)
 refine Lo u35 (rfl) ?_
 refine Zf (Zc (Ze ?_))
 refine Zm _ rfl (fun hc1 => ?_) (fun hc1 => ?_)
 ·try simp only [qB, qN] at hc1
  exfalso; simp at hc1; omega
 ·try simp only [qB, qN] at hc1
  refine ZR (ZP (ZI (ZQ (Zc (Ze (Za ?_))))))
  refine Lo u35 (Ym (VVal.slice none 0 0 true 0) rfl rfl rfl rfl rfl rfl rfl XH21 XH4 (by exact ZW (List.length_set))) ?_
  refine Lo u35 (Ym (VVal.bool false) rfl rfl rfl rfl rfl rfl rfl XH21 XH4 (by exact ZW (List.length_set))) ?_
  refine Zf (Zc ?_)
  refine Yy (Gh.cellNilL 1 0 (es' := 1) rfl rfl) ?_
  refine Zj ?_
  refine W3d (.inr rfl) (vres_cells2 rfl rfl rfl rfl rfl rfl rfl (by first | exact ZG rfl rfl | exact ZG (List.length_set) rfl) (by rfl) (by first | exact ZG rfl rfl | exact ZG (List.length_set) rfl) (by rfl)) ?_
  exact ⟨rfl, rfl⟩
theorem wsP_get {p : Pb} {i : Nat} (h : i < p.who.length) : (wsP p).getD i 0 = wrd p i := by
  unfold wsP; simp [List.getD_eq_getElem?_getD, h]
theorem myB_nat {p : Pb} {i n : Nat} : myB p i (n : Nat) = true ↔ (wrd p i).getLsbD n = true := by
  unfold myB
  rw [Bool.and_eq_true, decide_eq_true_eq, Int.toNat_natCast]
  exact ⟨fun h => h.2, fun h => ⟨by have := BitVec.lt_of_getLsbD h; omega, h⟩⟩
theorem W58 {T : TypeId → Option VTy} {H : Zd} {op : Op} {ρ : VEnv} {H' : Zd} {t : TypeId} {a : Operand} {i : Nat} {v : VVal} {y : VTy} {b off : Nat} {cs new : List VVal} (ho : op = .store t a (.tmp i)) (hv : ρ[i]? = some v) (ha : ρ.eval a = .ptr (some (b, off))) (hy : T t = some y) (hx : v.cells = some new) (hn : new.length = y.size) (h1 : new.all VVal.one = true) (hb : H[b]? = some (.cells cs true) := by exact ZG (List.length_set) rfl) (hl : off + new.length ≤ cs.length := by exact XH25) (hH : H.set b (.cells (Zv cs off new) true) = H' := by exact ZW (List.length_set)) : vop T ρ.eval H op = some (.skip, H') := Z6 ho hv ha hy hx hn h1 hb hl hH
theorem W59 {S : V.Sys} {H : Zd} {fn : Func} {ex : Exit} {env : VEnv} {B L : Zd} {v : VVal} {R : VVal → Zd → Prop} (hx : ex = .normal ∨ ex = .ret) (hv : Z0 S.C.T env (B ++ L) fn.results = some v) (h : R v B) (hB : BaseOk H B := by exact BaseOk.set (BaseOk.refl _) _ rfl) (hu : v.under H.length = true := by show ((fzN _).under _ && (true && true)) = true; rw [show (fzN (plN a (lst (Z8 (wsP p) a a.length) 0#64))).under _ = true from mapN_under _ _]; rfl) : fnK S fn H R ex env (B ++ L) := E_app hx hv hB hu h
theorem Least_some {x : SW} (H : Zd) (y : Nat) (g : Gz) (hs : H[y]? = some (gaB g)) (p : Pb) (hp : PbL p) (hg0 : pck p = 0) (a : List Nat) (hf : (frm (kpB (wsP p) (Yd p)) (kpG p.users.toNat (wsP p) (Yd p)) (wsP p).length [] 0).2 = some a) (d9 : Gz) (z9 : List (Gz × List Nat)) (hq : (usT (Z8 (wsP p) a a.length) [] 0#64).1 = (d9, (lst (Z8 (wsP p) a a.length) 0#64)) :: z9) : F (psys x) 21 [.ptr (some (y, 0)), .agg (pbB p)] H fun v G => v = .tuple [fzN (plN a (lst (Z8 (wsP p) a a.length) 0#64)), .bool true] ∧ G = H.set y (gaB (g + (frm (kpB (wsP p) (Yd p)) (kpG p.users.toNat (wsP p) (Yd p)) (wsP p).length [] 0).1 + d9)) := by
 have hg : Go.V.Good p := pck_good.1 hg0
 have hy := ZO hs
 obtain ⟨_, hal, ha, _, _⟩ := fnd_ok hf
 have hw : a.length ≤ (wsP p).length := by omega
 have hn : (wsP p).length ≤ 1000000 := by rw [wsP_len]; exact hp.w
 obtain ⟨t9, hT9⟩ : ∃ t9, tv (plT a (usT (Z8 (wsP p) a a.length) [] 0#64)) = (d9, fzN (plN a (lst (Z8 (wsP p) a a.length) 0#64))) :: t9 := ⟨_, by unfold plT; rw [hq]; rfl⟩
 refine Zs Tryd.func21 rfl u35 rfl ?_
 refine Ze (Za ?_)
 refine Lo u35 (Zw rfl rfl rfl) ?_
 refine Lo u35 (ZH rfl rfl) ?_
 refine Lo u35 (ZH rfl rfl) ?_
 refine Zf (Zc (Ze (Ze ?_)))
 refine Yy (Gh.freezePtrL (cs := pbB p) 3 0 rfl rfl rfl) ?_
 refine Za ?_
 refine Lo u35 (W51 rfl rfl rfl rfl rfl) ?_
 refine Zt rfl rfl rfl (by exact sCheck_spec _ _ hp) ?_
 rintro _ _ ⟨rfl, rfl⟩
 refine Le u35 ?_
 refine Lo u35 (v_is false rfl (by rw [hg0]; rfl)) ?_
 refine Zf (Zc ?_)
 refine Z4 rfl rfl ?_
 refine Zl (Zc (Ze ?_))
 refine ZV [0, 1, 2, 3, 4, 5] #[0, 0, 2, 6, 15, 31] XH2 XH2 XH2 ?_
 refine Oo u35 .look rfl (W51 rfl rfl rfl rfl rfl) ?_
 refine Oo u35 .calm rfl (Zb (.inl rfl) rfl) ?_
 refine Oo u35 .calm rfl (rfl) ?_
 refine Oo u35 .calm rfl (rfl) ?_
 refine ZX (env' := u35) rfl rfl rfl rfl rfl (by exact New_N _ p y (by simp; omega) hg) XH7 rfl rfl ?_
 refine Oo u35 .calm rfl (Zb (.inr rfl) rfl) ?_
 refine ZS [] XH2 (trivial) ?_
 refine Zc (Ze (Ze (Za ?_)))
 refine Lo u35 (rfl) ?_
 refine Lo u35 (W4k rfl rfl rfl rfl) ?_
 refine Lo u35 (rfl) ?_
 refine Lo u35 (Zb (.inl rfl) rfl) ?_
 refine Lo u35 ((rfl : vop _ _ _ _ = some (kpV p.users.toNat (wsP p) (Yd p) y, _))) ?_
 refine Zt rfl rfl rfl (by exact Search_in H _ hs hg) ?_
 rintro _ _ ⟨rfl, rfl⟩; rw [hf]
 refine Le u35 ?_
 refine Lo u35 (rfl) ?_
 refine Lo u35 (Zh (VVal.int .i64 0) (.inl rfl) rfl) ?_
 refine Zf (Zc (Zo ?_))
 refine ZJ (mk 35 34301017999) (env' := u35) rfl ?_
 refine ZN (fun (k : Nat) => 0) (fun (k : Nat) => [(25, iI (k : Nat))]) (fun (k : Nat) G => (k = 0) ∧ G = H.set y (gaB (g + (frm (kpB (wsP p) (Yd p)) (kpG p.users.toNat (wsP p) (Yd p)) (wsP p).length [] 0).1)) ++ [.dead, .cells [niS] true, .cells [.bool false] true]) 0 rfl ?_ ?_
 ·refine ⟨?_, rfl⟩
  rfl
 rintro k _ ⟨rfl, rfl⟩
 refine ZZ (env' := u35) rfl ?_
 refine Ze (Za ?_)
 refine Lo u35 (rfl) ?_
 refine Zf (Zc (Ze ?_))
 refine Zm _ rfl (fun hc1 => ?_) (fun hc1 => ?_)
 ·try simp only [qB, qN] at hc1
  refine Zl (Zc (Ze (Zo (Ze (Za ?_)))))
  refine Lo u35 (W18 rfl rfl rfl rfl rfl rfl rfl) ?_
  refine Lo u35 (W4k rfl rfl rfl rfl) ?_
  refine Lo u35 (Zb (.inr rfl) rfl) ?_
  refine Zf (Zc (Ze (Za ?_)))
  refine Lo u35 (Zb (.inl rfl) rfl) ?_
  refine Lo u35 (Zb (.inl rfl) rfl) ?_
  refine Zt rfl rfl rfl (by exact Plans_spec _ y (by simp; omega) a) ?_
  rintro _ _ ⟨rfl, rfl⟩
  refine Le u35 ?_
  refine Zf (Zc (Zo ?_))
  refine ZJ (mk 35 32153534351) (env' := u35) rfl ?_
  refine B_rangePJ (y) (tv (plT a (usT (Z8 (wsP p) a a.length) [] 0#64))) ((usT (Z8 (wsP p) a a.length) [] 0#64).2) (fun l0 h => by cases h) rfl (fun l9 G9 K9 hg9 hI9 => Plans1_spec y l9 a ha hw hn G9 _ K9 hg9.choose_spec hI9) (σ := Gz × VVal × Bool) (fun k s => H.set y (gaB s.1) ++ [.dead, .cells [s.2.1] true, .cells [.bool s.2.2] true, k]) (g + (frm (kpB (wsP p) (Yd p)) (kpG p.users.toNat (wsP p) (Yd p)) (wsP p).length [] 0).1, niS, false) (fun k => by simp) (fun k s => by simp) (fun k s => by rw [show ((H.set y _) ++ _ : Zd).length = H.length + 3 by simp]; exact ZG (List.length_set) rfl) (fun k k1 s => by rw [show ((H.set y _) ++ _ : Zd).length = H.length + 3 by simp]; exact ZW (List.length_set)) (fun s => s.1) (fun d s => (s.1 + d, s.2)) (fun pre s => pre = [] ∧ s = (g + (frm (kpB (wsP p) (Yd p)) (kpG p.users.toNat (wsP p) (Yd p)) (wsP p).length [] 0).1, niS, false)) (fun k s pre hI => by exact Zq (List.getElem?_set_self hy)) (fun k s d pre hI => by rw [Yj XH17, List.set_set]) ?_ (fun j pre c s => (j = Code.ret ∧ (s = (g + (frm (kpB (wsP p) (Yd p)) (kpG p.users.toNat (wsP p) (Yd p)) (wsP p).length [] 0).1 + d9, fzN (plN a (lst (Z8 (wsP p) a a.length) 0#64)), true)))) rfl ?_ ?_ ?_
  ·exact ⟨rfl, rfl⟩
  ·intro pre d c post s hx hI Lp kr kb hkr hkb
   obtain ⟨g8, v8, b8⟩ := s
   try dsimp only at hI ⊢
   obtain ⟨rfl, hI⟩ := hI
   obtain ⟨rfl, rfl, rfl⟩ : g8 = _ ∧ v8 = _ ∧ b8 = _ := by simpa using hI
   obtain ⟨rfl, rfl⟩ : d = d9 ∧ c = fzN (plN a (lst (Z8 (wsP p) a a.length) 0#64)) := by
    have h9 : (d9, fzN (plN a (lst (Z8 (wsP p) a a.length) 0#64))) :: t9 = (d, c) :: post := (by rw [← hT9]; exact hx)
    injection h9 with h1 h2; injection h1 with h3 h4; exact ⟨h3.symm, h4.symm⟩
   refine ZZ (env' := u35) rfl ?_
   refine Za ?_
   refine Lo u35 (Zb (.inr rfl) rfl) ?_
   refine Zf ?_
   refine ⟨rfl, (g + (frm (kpB (wsP p) (Yd p)) (kpG p.users.toNat (wsP p) (Yd p)) (wsP p).length [] 0).1 + d, niS, false), rfl, ?_⟩
   try dsimp only
   refine B_heap (H' := H.set y (gaB (g + (frm (kpB (wsP p) (Yd p)) (kpG p.users.toNat (wsP p) (Yd p)) (wsP p).length [] 0).1 + d)) ++ ([.dead, .cells [niS] true, .cells [.bool false] true, kb] ++ Lp)) (by simp) ?_
   refine Zo (Ze (Za ?_))
   refine Lo u35 (Zb (.inl rfl) rfl) ?_
   refine Lo u35 (W58 rfl rfl rfl rfl rfl rfl rfl) ?_
   refine Lo u35 (Ym (VVal.bool true) rfl rfl rfl rfl rfl rfl rfl XH21 XH4 (by exact ZW (List.length_set))) ?_
   refine Zf (Zc (Zj (ZB ?_)))
   refine ⟨(g + (frm (kpB (wsP p) (Yd p)) (kpG p.users.toNat (wsP p) (Yd p)) (wsP p).length [] 0).1 + d, fzN (plN a (lst (Z8 (wsP p) a a.length) 0#64)), true), [], (by simp; exact ⟨rfl, rfl⟩), .inr ⟨Code.ret, rfl, ⟨rfl, ?_⟩⟩⟩
   rfl
  ·intro s k hk hI J9
   obtain ⟨g8, v8, b8⟩ := s
   try dsimp only at hI ⊢
   exfalso
   obtain ⟨h8, _⟩ := hI
   rw [hT9] at h8; cases h8
  ·rintro j pre c post s k hk hx (⟨rfl, hX⟩) J9
   obtain ⟨g8, v8, b8⟩ := s
   try dsimp only
   obtain ⟨rfl, rfl, rfl⟩ : g8 = _ ∧ v8 = _ ∧ b8 = _ := by simpa using hX
   rw [List.append_assoc (H.set _ _)]
   refine J_ret ?_
   refine ZB (ZB (Zn (Yc (ZB (Zn ?_)))))
   refine W59 (.inr rfl) (vres_cells2 rfl rfl rfl rfl rfl rfl rfl XH21 (by rfl) XH21 (by rfl)) ?_
   exact ⟨rfl, rfl⟩
 ·try simp only [qB, qN] at hc1
  exfalso; simp at hc1
abbrev u3 {a0 a1 a2 : VVal} : VEnv := a0 :: a1 :: a2 :: []
abbrev u14 {a0 a1 a2 a3 a4 a5 a6 a7 a8 a9 a10 a11 a12 a13 : VVal} : VEnv := a0 :: a1 :: a2 :: a3 :: a4 :: a5 :: a6 :: a7 :: a8 :: a9 :: a10 :: a11 :: a12 :: a13 :: []
theorem W5c {T : TypeId → Option VTy} {H : Zd} {op : Op} {ρ : Operand → VVal} {t : TypeId} {a : Operand} {y : VTy} {p : VVal} {n : Nat} {vs : List VVal} (ho : op = .load t a) (ha : ρ a = p) (hy : T t = some y) (hd : Zk y.desc = true) (hn : y.size = n) (h : LdOkA H p n vs := by first | exact .inl ⟨_, _, rfl, XH24⟩ | exact .inr ⟨_, _, _, _, rfl, by first | exact Zq hs | exact ZG rfl rfl, XH24⟩) : vop T ρ H op = some (.agg vs, H) := v_ldA ho ha hy hd hn h
theorem W5d {T : TypeId → Option VTy} {H : Zd} {op : Op} {ρ : VEnv} {H' : Zd} {t : TypeId} {a : Operand} {i : Nat} {v : VVal} {y : VTy} {b off : Nat} {cs new : List VVal} (ho : op = .store t a (.tmp i)) (hv : ρ[i]? = some v) (ha : ρ.eval a = .ptr (some (b, off))) (hy : T t = some y) (hx : v.cells = some new) (hn : new.length = y.size) (h1 : new.all VVal.one = true) (hb : H[b]? = some (.cells cs true) := by first | exact Zq hs | exact ZG rfl rfl) (hl : off + new.length ≤ cs.length := by exact XH25) (hH : H.set b (.cells (Zv cs off new) true) = H' := by exact XH27) : vop T ρ.eval H op = some (.skip, H') := Z6 ho hv ha hy hx hn h1 hb hl hH
theorem sLeast_spec {x : SW} (H : Zd) (y : Nat) (g : Gz) (hs : H[y]? = some (gaB g)) (p : Pb) (hp : PbL p) : F (psys x) 21 [.ptr (some (y, 0)), .agg (pbB p)] H fun v G => v = leT (leA p) ∧ G = H.set y (gaB (g + leG p)) := by
  by_cases hg : pck p = 0
  · cases hf : (frm (kpB (wsP p) (Yd p)) (kpG p.users.toNat (wsP p) (Yd p)) (wsP p).length [] 0).2 with
    | none =>
      refine (Least_none H y g hs p hp hg hf).mono ?_
      rintro v G ⟨rfl, rfl⟩
      rw [show leA p = none by unfold leA fdA; rw [if_pos hg, hf]; rfl, show leG p = (frm (kpB (wsP p) (Yd p)) (kpG p.users.toNat (wsP p) (Yd p)) (wsP p).length [] 0).1 by unfold leG fdG; rw [if_pos hg, hf]; exact Gz.add_zero _]
      exact ⟨rfl, rfl⟩
    | some a =>
      obtain ⟨_, _, _, _, hm⟩ := fnd_ok hf
      obtain ⟨d9, z9, hq⟩ := usT_fst hm
      refine (Least_some H y g hs p hp hg a hf d9 z9 hq).mono ?_
      rintro v G ⟨rfl, rfl⟩
      rw [show leA p = some (plN a (lst (Z8 (wsP p) a a.length) 0#64)) by unfold leA fdA; rw [if_pos hg, hf]; rfl, show leG p = (frm (kpB (wsP p) (Yd p)) (kpG p.users.toNat (wsP p) (Yd p)) (wsP p).length [] 0).1 + d9 by unfold leG fdG; rw [if_pos hg, hf]; simp only [hq]; rfl]
      exact ⟨rfl, by rw [Gz.assoc]⟩
  · refine (Least_bad H y g hs p hp hg).mono ?_
    rintro v G ⟨rfl, rfl⟩
    rw [show leA p = none from if_neg hg, show leG p = 0 from if_neg hg, Gz.add_zero, ← set_keep hs]
    exact ⟨rfl, rfl⟩
theorem leT_can {o : Option (List Nat)} : ∃ l, leT o = .tuple [fzN l, .bool o.isSome] := by
  cases o with
  | none => exact ⟨[], rfl⟩
  | some l => exact ⟨l, rfl⟩
theorem sLeast_t {x : SW} (H : Zd) (y : Nat) (g : Gz) (hs : H[y]? = some (gaB g)) (p : Pb) (hp : PbL p) : F (psys x) 21 [.ptr (some (y, 0)), .agg (pbB p)] H fun v G => ∃ l, v = .tuple [fzN l, .bool (leA p).isSome] ∧ G = H.set y (gaB (g + leG p)) := by
  refine (sLeast_spec H y g hs p hp).mono ?_
  rintro v G ⟨rfl, rfl⟩
  obtain ⟨l, h⟩ := @leT_can (leA p)
  exact ⟨l, h, rfl⟩
theorem Can_spec {x : SW} (H : Zd) (y : Nat) (g : Gz) (hs : H[y]? = some (gaB g)) (p : Pb) (hp : PbL p) : F (psys x) 20 [.ptr (some (y, 0)), .agg (pbB p)] H fun v G => v = .bool (leA p).isSome ∧ G = H.set y (gaB (g + leG p)) := by
 refine Zs Tryd.func20 rfl u14 rfl ?_
 refine Ze (Za ?_)
 refine Lo u14 (Zw rfl rfl rfl) ?_
 refine Lo u14 (Zh (VVal.bool false) (.inr rfl) rfl) ?_
 refine Zf (Zc (Ze (Za ?_)))
 refine Lo u14 (Zb (.inl rfl) rfl) ?_
 refine Lo u14 (W11 rfl rfl rfl rfl rfl) ?_
 refine Zt rfl rfl rfl (by exact sLeast_t _ y g (Zq hs) p hp) ?_
 rintro _ _ ⟨l, rfl, rfl⟩; rw [Yj (ZO hs)]
 refine Le u14 ?_
 refine Lo u14 (Zb (.inl rfl) rfl) ?_
 refine Lo u14 (rfl) ?_
 refine Lo u14 (rfl) ?_
 refine Lo u14 (Zb (.inr rfl) rfl) ?_
 refine Lo u14 (Zb (.inr rfl) rfl) ?_
 refine Zf (Zc (Ze (Za ?_)))
 refine Lo u14 (Zb (.inl rfl) rfl) ?_
 refine Lo u14 (Zb (.inr rfl) rfl) ?_
 refine Zf (Zc (Zj ?_))
 refine W3d (.inr rfl) (Zg rfl rfl) ?_
 exact ⟨rfl, rfl⟩
theorem sNew_spec {x : SW} (H : Zd) : F (psys x) 16 [] H fun v G => v = .ptr (some (H.length, 0)) ∧ G = H ++ [gaB 0] := by
 refine Zs Tryd.func16 rfl u3 rfl ?_
 refine Ze (Za ?_)
 refine Lo u3 (Zh (VVal.ptr none) (.inr rfl) rfl) ?_
 refine Zf (Zc (Ze (Za ?_)))
 refine Lo u3 (rfl) ?_
 refine Lo u3 (Zw rfl rfl rfl) ?_
 refine Lo u3 (Zb (.inr rfl) rfl) ?_
 refine Zf (Zc (Zj ?_))
 refine E_keep (.inr rfl) (Zg rfl rfl) ?_
 exact ⟨rfl, rfl⟩
theorem Gauge_spec {x : SW} (H : Zd) (y : Nat) (g : Gz) (hs : H[y]? = some (gaB g)) : F (psys x) 26 [.ptr (some (y, 0))] H fun v G => v = .agg [iN g.n, iN g.p, iN g.e] ∧ G = H := by
 refine Zs Tryd.func26 rfl u7 rfl ?_
 refine Ze (Za ?_)
 refine Lo u7 (ZH rfl rfl) ?_
 refine Zf (Zc (Ze (Za ?_)))
 refine Lo u7 (Zb (.inl rfl) rfl) ?_
 refine Lo u7 (rfl) ?_
 refine Lo u7 (rfl) ?_
 refine Lo u7 (W5c rfl rfl rfl rfl rfl) ?_
 refine Lo u7 (W5d rfl rfl rfl rfl rfl rfl rfl) ?_
 refine Zf (Zc (Zj ?_))
 refine W10 (.inr rfl) (YB rfl rfl rfl rfl (by first | exact Zq hs | exact ZG rfl rfl) XH6) ?_
 exact ⟨rfl, rfl⟩
abbrev u26 {a0 a1 a2 a3 a4 a5 a6 a7 a8 a9 a10 a11 a12 a13 a14 a15 a16 a17 a18 a19 a20 a21 a22 a23 a24 a25 : VVal} : VEnv := a0 :: a1 :: a2 :: a3 :: a4 :: a5 :: a6 :: a7 :: a8 :: a9 :: a10 :: a11 :: a12 :: a13 :: a14 :: a15 :: a16 :: a17 :: a18 :: a19 :: a20 :: a21 :: a22 :: a23 :: a24 :: a25 :: []
abbrev u41 {a0 a1 a2 a3 a4 a5 a6 a7 a8 a9 a10 a11 a12 a13 a14 a15 a16 a17 a18 a19 a20 a21 a22 a23 a24 a25 a26 a27 a28 a29 a30 a31 a32 a33 a34 a35 a36 a37 a38 a39 a40 : VVal} : VEnv := a0 :: a1 :: a2 :: a3 :: a4 :: a5 :: a6 :: a7 :: a8 :: a9 :: a10 :: a11 :: a12 :: a13 :: a14 :: a15 :: a16 :: a17 :: a18 :: a19 :: a20 :: a21 :: a22 :: a23 :: a24 :: a25 :: a26 :: a27 :: a28 :: a29 :: a30 :: a31 :: a32 :: a33 :: a34 :: a35 :: a36 :: a37 :: a38 :: a39 :: a40 :: []
theorem W5h {T : TypeId → Option VTy} {H : Zd} {op : Op} {ρ : Operand → VVal} {t : TypeId} {a : Operand} {y : VTy} {p v : VVal} (ho : op = .load t a) (ha : ρ a = p) (hy : T t = some y) (hd : Zk y.desc = false) (h : LdOk H p v := by first | exact .inl ⟨_, _, rfl, by first | rfl | exact Yw (α := Int) 0 (by omega)⟩ | exact .inr ⟨_, _, _, _, rfl, XH23, by first | rfl | exact Yw (α := Int) 0 (by omega)⟩) : vop T ρ H op = some (v, H) := v_ld ho ha hy hd h
theorem kInts_spec {x : SW} (H : Zd) (l r : List (Int)) (h1 : l.length ≤ 1000000) : F (psys x) 23 [fzI l, fzI r] H fun v G => v = .bool (decide (l = r)) ∧ G = H := by
 refine Zs Tryd.func23 rfl u26 rfl ?_
 refine Ze (Za ?_)
 refine Lo u26 (Zh (VVal.bool false) (.inr rfl) rfl) ?_
 refine Zf (Zc (Ze (Ze (Za ?_))))
 refine Lo u26 (Zb (.inl rfl) rfl) ?_
 refine Lo u26 (rfl) ?_
 refine Lo u26 (Zb (.inl rfl) rfl) ?_
 refine Lo u26 (rfl) ?_
 refine Lo u26 (rfl) ?_
 refine Zf (Zc ?_)
 refine Zm _ rfl (fun hc1 => ?_) (fun hc1 => ?_)
 ·try simp only [qB, qN] at hc1
  refine Ze (Za ?_)
  refine Lo u26 (Zh (VVal.bool false) (.inr rfl) rfl) ?_
  refine Zf (Zc (Zj (Zn ?_)))
  refine W10 (.inr rfl) (Zg rfl rfl) ?_
  exact ⟨by rw [decide_eq_false (fun e => by rw [e] at hc1; omega)], rfl⟩
 ·try simp only [qB, qN] at hc1
  refine Zl (Zc (Ze (Ze (Za ?_))))
  refine Lo u26 (Zh (VVal.int .i64 0) (.inr rfl) rfl) ?_
  refine Zf (Zc (Zo ?_))
  refine ZJ (mk 26 67108828) (env' := u26) rfl ?_
  refine ZN (fun (k : Nat) => l.length - k) (fun (k : Nat) => [(5, iI (k : Nat))]) (fun (k : Nat) G => (k ≤ l.length ∧ ∀ j, j < k → l.getD j 0 = r.getD j 0) ∧ G = H ++ []) 0 rfl ?_ ?_
  ·refine ⟨?_, rfl⟩
   exact ⟨Nat.zero_le _, fun j h => by omega⟩
  rintro k _ ⟨⟨hk, hall⟩, rfl⟩
  refine ZZ (env' := u26) rfl ?_
  refine Ze (Ze (Za ?_))
  refine Lo u26 (Zb (.inl rfl) rfl) ?_
  refine Lo u26 (Zb (.inl rfl) rfl) ?_
  refine Lo u26 (rfl) ?_
  refine Lo u26 (rfl) ?_
  refine Zf (Zc ?_)
  refine Zm _ rfl (fun hc2 => ?_) (fun hc2 => ?_)
  ·try simp only [qB, qN] at hc2
   refine Zl (Zc (Ze (Zo (Ze ?_))))
   refine ZV [0, 1, 2, 3, 4, 5, 6, 7, 8] #[0, 0, 3, 7, 0, 0, 48, 112, 255] XH2 XH2 XH2 ?_
   refine Oo u26 .calm rfl (Zb (.inl rfl) rfl) ?_
   refine Oo u26 .calm rfl (Zb (.inl rfl) rfl) ?_
   refine Oo u26 .calm rfl (W18 rfl rfl rfl rfl rfl rfl rfl) ?_
   refine Oo u26 .look rfl (W5h rfl rfl rfl rfl) ?_
   refine Oo u26 .calm rfl (Zb (.inl rfl) rfl) ?_
   refine Oo u26 .calm rfl (Zb (.inl rfl) rfl) ?_
   refine Oo u26 .calm rfl (W18 rfl rfl rfl rfl rfl rfl rfl) ?_
   refine Oo u26 .look rfl (W5h rfl rfl rfl rfl) ?_
   refine Oo u26 .calm rfl (rfl) ?_
   refine ZS [] XH2 (trivial) ?_
   refine Zc ?_
   refine Zm _ rfl (fun hc3 => ?_) (fun hc3 => ?_)
   ·try simp only [qB, qN] at hc3
    refine Ze (Za ?_)
    refine Lo u26 (Zh (VVal.bool false) (.inr rfl) rfl) ?_
    refine Zf (Zc (Zj (ZB (Zn (Yc (ZB (Zn ?_)))))))
    refine W10 (.inr rfl) (Zg rfl rfl) ?_
    exact ⟨by rw [decide_eq_false (fun e => by subst e; exact hc3 rfl)], rfl⟩
   ·try simp only [qB, qN] at hc3
    refine Zl (Zy (Zc (Za ?_)))
    refine Lo u26 (Zb (.inl rfl) rfl) ?_
    refine Lo u26 (W14 rfl rfl rfl) ?_
    refine Lo u26 (Zb (.inr rfl) rfl) ?_
    refine Zf ?_
    refine ZD (mk 26 67108828) (env' := u26) rfl ⟨k + 1, ?_, rfl, ?_⟩
    ·first | omega | (simp only []; omega)
    ·exact ⟨⟨by omega, fun j hj => by by_cases e : j = k; (subst e; assumption); exact hall j (by omega)⟩, rfl⟩
  ·try simp only [qB, qN] at hc2
   refine ZR (ZP (ZI (ZQ (Zc (Ze (Za ?_))))))
   refine Lo u26 (Zh (VVal.bool true) (.inr rfl) rfl) ?_
   refine Zf (Zc (Zj ?_))
   refine W10 (.inr rfl) (Zg rfl rfl) ?_
   have e := eq_getD (d := 0) (by omega) (fun j hj => hall j (by omega))
   exact ⟨by rw [decide_eq_true e], rfl⟩
def pw : Pb := (3, [3#64, 3#64, 4#64], [-1, -1, -1], [(1, 0, [0, 1], ())], ())
theorem wk_le : leA pw = some [0, 1, 2] := by decide +kernel
theorem pw_L : PbL pw := ⟨by decide, by decide, by decide, by decide, fun r hr => by
  have hr : r ∈ [((1 : Int), (0 : Int), [(0 : Int), 1], ())] := hr
  rw [List.mem_singleton] at hr; subst hr; decide⟩
theorem wk_h : hds pw [0, 1, 2] = true := by decide +kernel
theorem wk_c : pck pw = 0 := by decide +kernel
theorem wk_t : leT (leA pw) = .tuple [fzI [0, 1, 2], .bool true] := by rw [wk_le]; rfl
theorem at_get {H L : Zd} {k : VBlk} : (H ++ k :: L)[H.length]? = some k := by rw [List.getElem?_append_right (Nat.le_refl _), Nat.sub_self]; rfl
theorem at_set {H L : Zd} {k k' : VBlk} : (H ++ k :: L).set H.length k' = H ++ k' :: L := by rw [List.set_append_right _ _ (Nat.le_refl _), Nat.sub_self]; rfl
theorem sLeast_at {x : SW} (H L : Zd) (g : Gz) (p : Pb) (hp : PbL p) : F (psys x) 21 [.ptr (some (H.length, 0)), .agg (pbB p)] (H ++ gaB g :: L) fun v G => v = leT (leA p) ∧ G = H ++ gaB (g + leG p) :: L := by
  have := sLeast_spec (x := x) (H ++ gaB g :: L) H.length g at_get p hp
  rw [at_set] at this; exact this
theorem Can_at {x : SW} (H L : Zd) (g : Gz) (p : Pb) (hp : PbL p) : F (psys x) 20 [.ptr (some (H.length, 0)), .agg (pbB p)] (H ++ gaB g :: L) fun v G => v = .bool (leA p).isSome ∧ G = H ++ gaB (g + leG p) :: L := by
  have := Can_spec (x := x) (H ++ gaB g :: L) H.length g at_get p hp
  rw [at_set] at this; exact this
theorem wakes_spec {x : SW} (H : Zd) : F (psys x) 17 [] H fun v G => v = .bool true ∧ G = H := by
 refine Zs Tryd.func17 rfl u41 rfl ?_
 refine Ze (Za ?_)
 refine Lo u41 (Zh (VVal.bool false) (.inr rfl) rfl) ?_
 refine Zf (Zc (Ze (Za ?_)))
 refine Zt rfl rfl rfl (by exact sNew_spec _) ?_
 rintro _ _ ⟨rfl, rfl⟩; rw [List.append_nil]
 refine Le u41 ?_
 refine Lo u41 (Zb (.inr rfl) rfl) ?_
 refine Zf (Zc (Ze (Ze (Za ?_))))
 refine Lo u41 (Zb (.inl rfl) rfl) ?_
 refine Lo u41 (v_is false rfl rfl) ?_
 refine Zf (Zc ?_)
 refine Z4 rfl rfl ?_
 refine Zl (Zc (Ze (Za ?_)))
 refine Lo u41 (Zz rfl rfl (by decide) rfl) ?_
 refine Lo u41 (Zz rfl rfl (by decide) rfl) ?_
 refine Lo u41 (Zz rfl rfl (by decide) rfl) ?_
 refine Lo u41 (rfl) ?_
 refine Lo u41 (Zz rfl rfl (by decide) rfl) ?_
 refine Lo u41 (rfl) ?_
 refine Lo u41 (ZH rfl rfl) ?_
 refine Lo u41 (W13 rfl rfl rfl rfl rfl rfl rfl) ?_
 refine Zf (Zc (Ze (Za ?_)))
 refine L_gh (Gh.cellL (l := [iI 0, iI 1]) 4 2 3 rfl rfl (by decide) rfl rfl (Nat.le_refl _)) ?_
 refine L_gh (Gh.cellL (l := [iW 3#64, iW 3#64, iW 4#64]) 5 1 1 rfl rfl (by decide) rfl rfl (Nat.le_refl _)) ?_
 refine L_gh (Gh.cellL (l := [iI (-1), iI (-1), iI (-1)]) 5 2 2 rfl rfl (by decide) rfl rfl (Nat.le_refl _)) ?_
 refine L_gh (Gh.cellL (l := rlB (1, 0, [0, 1], ())) 5 3 4 rfl rfl (by decide) rfl rfl (Nat.le_refl _)) ?_
 refine Lo u41 (Zb (.inl rfl) rfl) ?_
 refine Lo u41 (W11 rfl rfl rfl rfl rfl) ?_
 refine Zt rfl rfl rfl (by exact sLeast_at H _ 0 pw pw_L) ?_
 rintro v _ ⟨hv, rfl⟩; rw [wk_t] at hv; subst hv
 refine Le u41 ?_
 refine Lo u41 (Zb (.inl rfl) rfl) ?_
 refine Lo u41 (rfl) ?_
 refine Lo u41 (rfl) ?_
 refine Lo u41 (Zb (.inr rfl) rfl) ?_
 refine Lo u41 (Zb (.inr rfl) rfl) ?_
 refine Zf (Zc (Ze (Za ?_)))
 refine Lo u41 (Zb (.inl rfl) rfl) ?_
 refine Lo u41 (Zb (.inl rfl) rfl) ?_
 refine Lo u41 (Zb (.inl rfl) rfl) ?_
 refine Lo u41 (Zz rfl rfl (by decide) rfl) ?_
 refine L_gh (Gh.freezeL (l := [iI 0, iI 1, iI 2]) 23 6 rfl rfl rfl (Nat.le_refl _) rfl) ?_
 refine Zt rfl rfl rfl (by exact kInts_spec _ [0, 1, 2] [0, 1, 2] (by decide)) ?_
 rintro v _ ⟨hv, rfl⟩; obtain rfl : v = .bool true := hv.trans (congrArg VVal.bool (by decide))
 refine Le u41 ?_
 refine Lo u41 (ZE rfl rfl rfl) ?_
 refine Lo u41 (Zb (.inl rfl) rfl) ?_
 refine Lo u41 (Zb (.inl rfl) rfl) ?_
 refine Lo u41 (W11 rfl rfl rfl rfl rfl) ?_
 refine Zt rfl rfl rfl (by exact Can_at H _ (0 + leG pw) pw pw_L) ?_
 rintro v _ ⟨hv, rfl⟩; obtain rfl : v = .bool true := hv.trans (congrArg VVal.bool (by rw [wk_le]; rfl))
 refine Le u41 ?_
 refine Lo u41 (ZE rfl rfl rfl) ?_
 refine Lo u41 (Zb (.inl rfl) rfl) ?_
 refine Lo u41 (W11 rfl rfl rfl rfl rfl) ?_
 refine Lo u41 (Zb (.inl rfl) rfl) ?_
 refine Zt rfl rfl rfl (by exact Holds_spec _ pw [0, 1, 2] pw_L (by decide)) ?_
 rintro v _ ⟨hv, rfl⟩; obtain rfl : v = .bool true := hv.trans (congrArg VVal.bool wk_h)
 refine Le u41 ?_
 refine Lo u41 (ZE rfl rfl rfl) ?_
 refine Lo u41 (Zb (.inl rfl) rfl) ?_
 refine Lo u41 (W11 rfl rfl rfl rfl rfl) ?_
 refine Zt rfl rfl rfl (by exact sCheck_spec _ pw pw_L) ?_
 rintro v _ ⟨hv, rfl⟩; rw [wk_c] at hv; subst hv
 refine Le u41 ?_
 refine Lo u41 (rfl) ?_
 refine Lo u41 (ZE rfl rfl rfl) ?_
 refine Lo u41 (Zb (.inr rfl) rfl) ?_
 refine Zf (Zc (Zj ?_))
 refine W10 (.inr rfl) (Zg rfl rfl) ?_
 exact ⟨rfl, rfl⟩
theorem Cut_few {x : SW} (H : Zd) (p : Pb) (m : Nat) : F (psys x) 19 [.agg (pbB (Yg p m))] H fun v G => v = .agg (pbB (Yg p m)) ∧ G = H := by
  have := Cut_spec (x := x) H (Yg p m)
  rw [fewP_cut] at this; exact this
theorem myB_inN {p : Pb} {i n : Nat} (g : Go.V.Good p) (hi : i < p.who.length) (h : (wrd p i).getLsbD n = true) : n < p.users.toNat := by
  have g4 := g.u0; have g2 := g.u64
  have hm : myB p i (n : Nat) = true := myB_nat.2 h
  by_cases hf : 0 ≤ p.fixed.getD i 0
  · rw [myB_f g hi hf, decide_eq_true_eq] at hm
    have := (okW_in g hi).1
    omega
  · rw [myB_w g hi (by omega), Bool.and_eq_true, decide_eq_true_eq] at hm
    omega
structure Pm (t : List Int) : Prop where
  rg : ∀ i, i < t.length → 0 ≤ t.getD i 0 ∧ t.getD i 0 < t.length
  ij : ∀ i j, i < t.length → j < t.length → t.getD i 0 = t.getD j 0 → i = j
section
variable {t : List Int} {q : Pb}
end
def wdP (q : Pb) (W : List (BitVec 64)) : Pb := (q.users, W, q.fixed, q.rules, ())
theorem fget0N {l : List Int} {k : Nat} (h : k < l.length) : (l.map iI)[0 + ((k : Nat) : Int).toNat * 1]? = some (iI (l.getD k 0)) := by rw [Nat.zero_add]; exact Yw (0 : Int) h
theorem fget0W {l : List (BitVec 64)} {k : Nat} (h : k < l.length) : (l.map iW)[0 + ((k : Nat) : Int).toNat * 1]? = some (iW (l.getD k 0)) := by rw [Nat.zero_add]; exact Yw (0 : BitVec 64) h
theorem spl_Wt {l : List (BitVec 64)} {k : Nat} {w : BitVec 64} (h : k < l.length) : Zv (l.map iW) (0 + ((k : Nat) : Int).toNat * 1) [iW w] = (l.set k w).map iW := by rw [Int.toNat_natCast]; exact spl_W h
abbrev u5 {a0 a1 a2 a3 a4 : VVal} : VEnv := a0 :: a1 :: a2 :: a3 :: a4 :: []
abbrev u57 {a0 a1 a2 a3 a4 a5 a6 a7 a8 a9 a10 a11 a12 a13 a14 a15 a16 a17 a18 a19 a20 a21 a22 a23 a24 a25 a26 a27 a28 a29 a30 a31 a32 a33 a34 a35 a36 a37 a38 a39 a40 a41 a42 a43 a44 a45 a46 a47 a48 a49 a50 a51 a52 a53 a54 a55 a56 : VVal} : VEnv := a0 :: a1 :: a2 :: a3 :: a4 :: a5 :: a6 :: a7 :: a8 :: a9 :: a10 :: a11 :: a12 :: a13 :: a14 :: a15 :: a16 :: a17 :: a18 :: a19 :: a20 :: a21 :: a22 :: a23 :: a24 :: a25 :: a26 :: a27 :: a28 :: a29 :: a30 :: a31 :: a32 :: a33 :: a34 :: a35 :: a36 :: a37 :: a38 :: a39 :: a40 :: a41 :: a42 :: a43 :: a44 :: a45 :: a46 :: a47 :: a48 :: a49 :: a50 :: a51 :: a52 :: a53 :: a54 :: a55 :: a56 :: []
theorem W5o {T : TypeId → Option VTy} {H : Zd} {op : Op} {ρ : Operand → VVal} {t : TypeId} {a : Operand} {y : VTy} {p v : VVal} (ho : op = .load t a) (ha : ρ a = p) (hy : T t = some y) (hd : Zk y.desc = false) (h : LdOk H p v := by first | exact .inl ⟨_, _, rfl, by exact fget0W (by omega)⟩ | exact .inr ⟨_, _, _, _, rfl, XH23, by exact fget0W (by omega)⟩) : vop T ρ H op = some (v, H) := v_ld ho ha hy hd h
theorem W5p {T : TypeId → Option VTy} {H : Zd} {op : Op} {ρ : Operand → VVal} {t : TypeId} {a : Operand} {y : VTy} {p v : VVal} (ho : op = .load t a) (ha : ρ a = p) (hy : T t = some y) (hd : Zk y.desc = false) (h : LdOk H p v := by first | exact .inl ⟨_, _, rfl, by exact fget0W2 (by omega)⟩ | exact .inr ⟨_, _, _, _, rfl, XH23, by exact fget0W2 (by omega)⟩) : vop T ρ H op = some (v, H) := v_ld ho ha hy hd h
theorem W5q {T : TypeId → Option VTy} {H : Zd} {op : Op} {ρ : VEnv} {H' : Zd} {t : TypeId} {a : Operand} {i : Nat} {v : VVal} {y : VTy} {b off : Nat} {cs new : List VVal} (ho : op = .store t a (.tmp i)) (hv : ρ[i]? = some v) (ha : ρ.eval a = .ptr (some (b, off))) (hy : T t = some y) (hx : v.cells = some new) (hn : new.length = y.size) (h1 : new.all VVal.one = true) (hb : H[b]? = some (.cells cs true) := by exact XH23) (hl : off + new.length ≤ cs.length := by show 0 + ((b : Nat) : Int).toNat * 1 + 1 ≤ _; rw [List.length_map]; omega) (hH : H.set b (.cells (Zv cs off new) true) = H' := by exact (ZW rfl).trans (congrArg (fun c => H ++ [VBlk.cells c true]) (spl_Wt (l := R) (k := b) (by omega)))) : vop T ρ.eval H op = some (.skip, H') := Z6 ho hv ha hy hx hn h1 hb hl hH
theorem cv_n {b : Nat} : VVal.int .u64 (IntKind.u64.wrap (b : Int)) = iN b := by
  congr 1
theorem cv_n1 {b : Nat} : VVal.int .u64 (IntKind.u64.wrap ((b : Int) + 1)) = iN (b + 1) := cv_n (b := b + 1)
theorem bo_w {n U : Nat} : 4#64 * BitVec.ofNat 64 (n + 1) * BitVec.ofNat 64 (n + 1) * BitVec.ofNat 64 (n + 1) * BitVec.ofNat 64 (U + 1) * oB n 0 = BitVec.ofNat 64 (boN n U) := by
  unfold oB boN
  rw [show (4#64) = BitVec.ofNat 64 4 from rfl]
  simp only [ofN_mul]
theorem rep_W : ∀ {n : Nat}, ZC [iW 0#64] n = (List.replicate n 0#64).map iW
  | 0 => rfl
  | n + 1 => by rw [ZC, rep_W, List.replicate_succ]; rfl
theorem fget0W2 {l : List (BitVec 64)} {k : Nat} (h : k + 1 < l.length) : (l.map iW)[0 + (((k : Nat) : Int) + 1).toNat * 1]? = some (iW (l.getD (k + 1) 0)) := by
  have := fget0W (l := l) (k := k + 1) h
  rw [Int.toNat_natCast] at this
  rw [show (((k : Nat) : Int) + 1).toNat = k + 1 by omega]; exact this
theorem ways_spec {x : SW} (H : Zd) (n m : Nat) (hn : n + m ≤ 1000) : F (psys x) 91 [iI (n : Nat), iI (m : Nat)] H fun v G => v = iW (oB n m) ∧ G = H := by
 refine Zs Tryd.func91 rfl u57 rfl ?_
 refine Ze (Za ?_)
 refine Lo u57 (Zh (VVal.int .u64 0) (.inr rfl) rfl) ?_
 refine Zf (Zc (Ze (Za ?_)))
 refine Lo u57 (Zb (.inl rfl) rfl) ?_
 refine Lo u57 (Zb (.inl rfl) rfl) ?_
 refine Lo u57 (W14 rfl rfl rfl) ?_
 refine Lo u57 (W14 rfl rfl rfl) ?_
 refine Lo u57 (v_makeSlice rfl rfl rfl rfl rfl (by decide) ⟨by omega, Int.le_refl _, by show (((n : Nat) : Int) + (m : Nat) + 2) * (8 : Nat) ≤ _; omega, by omega⟩) ?_
 refine Lo u57 (Zb (.inr rfl) rfl) ?_
 refine Zf (Zc (Ze (Ze ?_)))
 rw [show (((n : Nat) : Int) + (m : Nat) + 2).toNat = n + m + 2 by omega]
 refine Za ?_
 refine Lo u57 (Zh (VVal.int .i64 0) (.inr rfl) rfl) ?_
 refine Zf (Zc (Zo ?_))
 refine ZJ (mk 57 144115188075855772) (env' := u57) rfl ?_
 refine ZN (fun (i : Nat) => (n + m + 2) - i) (fun (i : Nat) => [(6, iI (i : Nat))]) (fun (i : Nat) G => (i ≤ (n + m + 2)) ∧ ∃ R : List (BitVec 64), G = H ++ [VBlk.cells ((R).map iW) true] ∧ R.length = (n + m + 2) ∧ ∀ j, j < i → R.getD j 0 = 1#64) 0 rfl ?_ ?_
 ·refine ⟨?_, ⟨List.replicate (n + m + 2) 0#64, by rw [← rep_W]; rfl, List.length_replicate, fun j h => absurd h (Nat.not_lt_zero _)⟩⟩
  exact Nat.zero_le _
 rintro i _ ⟨hi, ⟨R, rfl, hRl, hR⟩⟩
 refine ZZ (env' := u57) rfl ?_
 refine Ze (Ze (Za ?_))
 refine Lo u57 (Zb (.inl rfl) rfl) ?_
 refine Lo u57 (Zb (.inl rfl) rfl) ?_
 refine Lo u57 (rfl) ?_
 refine Lo u57 (rfl) ?_
 refine Zf (Zc ?_)
 refine Zm _ rfl (fun hc1 => ?_) (fun hc1 => ?_)
 ·try simp only [qB, qN] at hc1
  refine Zl (Zc (Ze (Zo ?_)))
  have hi9 : i < n + m + 2 := by omega
  refine Za ?_
  refine Lo u57 (Zb (.inl rfl) rfl) ?_
  refine Lo u57 (Zb (.inl rfl) rfl) ?_
  refine Lo u57 (W18 rfl rfl rfl rfl rfl rfl rfl) ?_
  refine Lo u57 (Ym (VVal.int .u64 1) rfl rfl rfl rfl rfl rfl rfl XH0 (by show 0 + ((i : Nat) : Int).toNat * 1 + 1 ≤ _; rw [List.length_map]; omega) (by exact (ZW rfl).trans (congrArg (fun c => H ++ [VBlk.cells c true]) (spl_Wt (l := R) (k := i) (w := 1#64) (by omega))))) ?_
  refine Zf (Zy (Zc (Za ?_)))
  refine Lo u57 (Zb (.inl rfl) rfl) ?_
  refine Lo u57 (W14 rfl rfl rfl) ?_
  refine Lo u57 (Zb (.inr rfl) rfl) ?_
  refine Zf ?_
  refine ZD (mk 57 144115188075855772) (env' := u57) rfl ⟨i + 1, ?_, rfl, ?_⟩
  ·first | omega | (simp only []; omega)
  ·exact ⟨by omega, _, rfl, by rw [List.length_set]; exact hRl, fun j hj => by rw [getD_setL]; split; rfl; exact hR j (by omega)⟩
 ·try simp only [qB, qN] at hc1
  refine ZR (ZP (ZI (ZQ (Zc (Ze (Ze (Za ?_)))))))
  refine Lo u57 (Zh (VVal.int .i64 0) (.inr rfl) rfl) ?_
  refine Zf (Zc (Zo ?_))
  refine ZJ (mk 57 144115188075855708) (env' := u57) rfl ?_
  refine ZN (fun (k : Nat) => n - k) (fun (k : Nat) => [(7, iI (k : Nat))]) (fun (k : Nat) G => (k ≤ n) ∧ ∃ R : List (BitVec 64), G = H ++ [VBlk.cells ((R).map iW) true] ∧ R.length = (n + m + 2) ∧ ∀ j, j < (n + m + 2) - k → R.getD j 0 = oB k j) 0 rfl ?_ ?_
  ·refine ⟨?_, ⟨R, rfl, hRl, fun j hj => (hR j (by omega)).trans oB_0.symm⟩⟩
   exact Nat.zero_le _
  rintro k _ ⟨hk, ⟨R, rfl, hRl, hR⟩⟩
  refine ZZ (env' := u57) rfl ?_
  refine Ze (Ze (Za ?_))
  refine Lo u57 (Zb (.inl rfl) rfl) ?_
  refine Lo u57 (Zb (.inl rfl) rfl) ?_
  refine Lo u57 (rfl) ?_
  refine Zf (Zc ?_)
  refine Zm _ rfl (fun hc2 => ?_) (fun hc2 => ?_)
  ·try simp only [qB, qN] at hc2
   refine Zl (Zc (Ze (Zo (Ze (Za ?_)))))
   refine Lo u57 (Zh (VVal.int .i64 0) (.inr rfl) rfl) ?_
   refine Zf (Zc (Zo ?_))
   refine ZJ (mk 57 144115188075855452) (env' := u57) rfl ?_
   refine ZN (fun (b : Nat) => (n + m + 2) - b) (fun (b : Nat) => [(8, iI (b : Nat))]) (fun (b : Nat) G => (b + k + 1 ≤ (n + m + 2)) ∧ ∃ R : List (BitVec 64), G = H ++ [VBlk.cells ((R).map iW) true] ∧ R.length = (n + m + 2) ∧ (∀ j, j < b → R.getD j 0 = oB (k + 1) j) ∧ (∀ j, b ≤ j → j < (n + m + 2) - k → R.getD j 0 = oB k j)) 0 rfl ?_ ?_
   ·refine ⟨?_, ⟨R, rfl, hRl, fun j h => absurd h (Nat.not_lt_zero _), fun j _ h => hR j h⟩⟩
    show 0 + k + 1 ≤ _; omega
   rintro b _ ⟨hb, ⟨R, rfl, hRl, hR1, hR2⟩⟩
   refine ZZ (env' := u57) rfl ?_
   refine Ze (Ze (Za ?_))
   refine Lo u57 (Zb (.inl rfl) rfl) ?_
   refine Lo u57 (W14 rfl rfl rfl) ?_
   refine Lo u57 (Zb (.inl rfl) rfl) ?_
   refine Lo u57 (rfl) ?_
   refine Lo u57 (Zb (.inl rfl) rfl) ?_
   refine Lo u57 (W22 rfl rfl rfl) ?_
   refine Lo u57 (rfl) ?_
   refine Zf (Zc ?_)
   refine Zm _ rfl (fun hc3 => ?_) (fun hc3 => ?_)
   ·try simp only [qB, qN] at hc3
    refine Zl (Zc (Ze (Zo ?_)))
    have hb9 : b + 1 + k < n + m + 2 := by omega
    have e1 := hR2 b (Nat.le_refl _) (by omega)
    have e2 := hR2 (b + 1) (by omega) (by omega)
    refine ZV [0, 1, 2, 3, 4, 5, 6, 7, 8, 9, 10, 11, 12, 13, 14, 15, 16] #[0, 0, 0, 4, 0, 0, 48, 112, 252, 0, 0, 1024, 3584, 7680, 16380, 32767, 65535] XH2 XH2 XH2 ?_
    refine Oo u57 .calm rfl (Zb (.inl rfl) rfl) ?_
    refine Oo u57 .calm rfl (Zb (.inl rfl) rfl) ?_
    refine Oo u57 .calm rfl (Zb (.inl rfl) rfl) ?_
    refine Oo u57 .calm rfl (v_val (u := iN b) rfl cv_n) ?_
    refine Oo u57 .calm rfl (Zb (.inl rfl) rfl) ?_
    refine Oo u57 .calm rfl (Zb (.inl rfl) rfl) ?_
    refine Oo u57 .calm rfl (W18 rfl rfl rfl rfl rfl rfl rfl) ?_
    refine Oo u57 .look rfl (W5o rfl rfl rfl rfl) ?_
    refine Oo u57 .calm rfl (v_mulW rfl rfl rfl) ?_
    refine Oo u57 .calm rfl (Zb (.inl rfl) rfl) ?_
    refine Oo u57 .calm rfl (Zb (.inl rfl) rfl) ?_
    refine Oo u57 .calm rfl (W14 rfl rfl rfl) ?_
    refine Oo u57 .calm rfl (W18 rfl rfl rfl rfl rfl rfl rfl) ?_
    refine Oo u57 .look rfl (W5p rfl rfl rfl rfl) ?_
    refine Oo u57 .calm rfl (v_addW rfl rfl rfl) ?_
    refine Oo u57 .calm rfl (W18 rfl rfl rfl rfl rfl rfl rfl) ?_
    refine Oo u57 .turn rfl (W5q rfl rfl rfl rfl rfl rfl rfl) ?_
    refine ZS [] XH2 (trivial) ?_
    refine Zy (Zc (Za ?_))
    refine Lo u57 (Zb (.inl rfl) rfl) ?_
    refine Lo u57 (W14 rfl rfl rfl) ?_
    refine Lo u57 (Zb (.inr rfl) rfl) ?_
    refine Zf ?_
    refine ZD (mk 57 144115188075855452) (env' := u57) rfl ⟨b + 1, ?_, rfl, ?_⟩
    ·first | omega | (simp only []; omega)
    ·exact ⟨by omega, _, rfl, by rw [List.length_set]; exact hRl, fun j hj => by rw [getD_setL]; split; (rename_i e; rw [e.1, e1, e2]; exact oB_s); exact hR1 j (by omega), fun j h1 h2 => by rw [getD_setL, if_neg (fun e => by omega)]; exact hR2 j (by omega) h2⟩
   ·try simp only [qB, qN] at hc3
    refine ZR (ZP (ZI (ZQ (Zy (Zc (Za ?_))))))
    refine Lo u57 (Zb (.inl rfl) rfl) ?_
    refine Lo u57 (W14 rfl rfl rfl) ?_
    refine Lo u57 (Zb (.inr rfl) rfl) ?_
    refine Zf ?_
    refine ZD (mk 57 144115188075855708) (env' := u57) rfl ⟨k + 1, ?_, rfl, ?_⟩
    ·first | omega | (simp only []; omega)
    ·exact ⟨by omega, _, rfl, hRl, fun j hj => hR1 j (by omega)⟩
  ·try simp only [qB, qN] at hc2
   refine ZR (ZP (ZI (ZQ (Zc (Ze (Za ?_))))))
   refine Lo u57 (Zb (.inl rfl) rfl) ?_
   refine Lo u57 (Zb (.inl rfl) rfl) ?_
   refine Lo u57 (W18 rfl rfl rfl rfl rfl rfl rfl) ?_
   refine Lo u57 (W5o rfl rfl rfl rfl) ?_
   refine Lo u57 (Zb (.inr rfl) rfl) ?_
   refine Zf (Zc (Zj ?_))
   refine W10 (.inr rfl) (Zg rfl rfl) ?_
   obtain rfl : k = n := by omega
   exact ⟨by rw [hR m (by omega)], rfl⟩
theorem Bell_spec {x : SW} (H : Zd) (n : Nat) (hn : n ≤ 1000) : F (psys x) 56 [iI (n : Nat)] H fun v G => v = iW (oB n 0) ∧ G = H := by
 refine Zs Tryd.func56 rfl u5 rfl ?_
 refine Ze (Za ?_)
 refine Lo u5 (Zh (VVal.int .u64 0) (.inr rfl) rfl) ?_
 refine Zf (Zc (Ze (Za ?_)))
 refine Lo u5 (Zb (.inl rfl) rfl) ?_
 refine Zt rfl rfl rfl (by exact ways_spec _ n 0 (by omega)) ?_
 rintro _ _ ⟨rfl, rfl⟩
 refine Le u5 ?_
 refine Lo u5 (Zb (.inr rfl) rfl) ?_
 refine Zf (Zc (Zj ?_))
 refine W10 (.inr rfl) (Zg rfl rfl) ?_
 exact ⟨rfl, rfl⟩
theorem Bound_spec {x : SW} (H : Zd) (n U : Nat) (hn : n ≤ 100) (hU : U ≤ 100) : F (psys x) 25 [iI (n : Nat), iI (U : Nat)] H fun v G => v = iN (boN n U) ∧ G = H := by
 refine Zs Tryd.func25 rfl u22 rfl ?_
 refine Ze (Za ?_)
 refine Lo u22 (Zh (VVal.int .u64 0) (.inr rfl) rfl) ?_
 refine Zf (Zc (Ze (Za ?_)))
 refine Lo u22 (Zb (.inl rfl) rfl) ?_
 refine Lo u22 (W14 rfl rfl rfl) ?_
 refine Lo u22 (v_val (u := iN (n + 1)) rfl cv_n1) ?_
 refine Lo u22 (Zb (.inr rfl) rfl) ?_
 refine Zf (Zc (Ze (Za ?_)))
 refine Lo u22 (Zb (.inl rfl) rfl) ?_
 refine Lo u22 (v_mulW (a := 4#64) rfl rfl rfl) ?_
 refine Lo u22 (Zb (.inl rfl) rfl) ?_
 refine Lo u22 (v_mulW rfl rfl rfl) ?_
 refine Lo u22 (Zb (.inl rfl) rfl) ?_
 refine Lo u22 (v_mulW rfl rfl rfl) ?_
 refine Lo u22 (Zb (.inl rfl) rfl) ?_
 refine Lo u22 (W14 rfl rfl rfl) ?_
 refine Lo u22 (v_val (u := iN (U + 1)) rfl cv_n1) ?_
 refine Lo u22 (v_mulW rfl rfl rfl) ?_
 refine Lo u22 (Zb (.inl rfl) rfl) ?_
 refine Zt rfl rfl rfl (by exact Bell_spec _ n (by omega)) ?_
 rintro _ _ ⟨rfl, rfl⟩
 refine Le u22 ?_
 refine Lo u22 (v_mulW rfl rfl rfl) ?_
 refine Lo u22 (Zb (.inr rfl) rfl) ?_
 refine Zf (Zc (Zj ?_))
 refine W10 (.inr rfl) (Zg rfl rfl) ?_
 exact ⟨by rw [bo_w], rfl⟩
theorem wsP_bl {q : Pb} (g : Go.V.Good q) (k : Nat) : Bl q.users.toNat ((wsP q).getD k 0) := by
  by_cases h : k < q.who.length
  · rw [wsP_get h]; exact fun i hi => myB_inN g h hi
  · rw [List.getD_eq_getElem?_getD, List.getElem?_eq_none (by rw [wsP_len]; omega)]; exact Bl_0
theorem leG_le {q : Pb} (h0 : pck q = 0) (hn : q.who.length ≤ 9) : (leG q).t ≤ boN q.who.length q.users.toNat := by
  have g := pck_good.1 h0
  unfold leG fdG
  rw [if_pos h0, Gz.t_add]
  have h1 := frm_le (kp := kpB (wsP q) (Yd q)) (n := (wsP q).length) (K := 1 + q.users.toNat + (wsP q).length * q.users.toNat) (fun a ha => kpG_le (rss := Yd q) (wsP_bl g) ha) (wsP q).length [] 0 (by simp)
  have h3 := bo_le (U := q.users.toNat) hn
  rw [← wsP_len] at h3 hn ⊢
  refine Nat.le_trans (Nat.add_le_add h1 ?_) h3
  cases e : (frm (kpB (wsP q) (Yd q)) (kpG q.users.toNat (wsP q) (Yd q)) (wsP q).length [] 0).2 with
  | none => exact Nat.zero_le _
  | some a =>
    obtain ⟨_, hl, _, _, hm⟩ := fnd_ok e
    obtain ⟨d, y, z, e1, hd⟩ := usT_t (us := []) (blk_lo (a := a) (wsP_bl g) a.length) hm
    show Gz.t (((usT (Z8 (wsP q) a a.length) [] 0#64).1.head?.map Prod.fst).getD 0) ≤ _
    rw [e1]
    show d.t ≤ _
    rw [blkN_len] at hd
    have hs : szP a a.length ≤ (wsP q).length := Nat.le_trans szP_le (by omega)
    refine Nat.le_trans hd (Nat.mul_le_mul (Nat.mul_le_mul hs hs) ?_)
    have := Nat.mul_le_mul_right q.users.toNat hs
    omega
theorem lt_no {a b : Nat} (h : a ≤ b) (hb : b < 9223372036854775808) : decide (((BitVec.ofNat 64 b).toNat : Int) < ((BitVec.ofNat 64 a).toNat : Int)) = false := by
  rw [BitVec.toNat_ofNat, BitVec.toNat_ofNat, Nat.mod_eq_of_lt (by omega), Nat.mod_eq_of_lt (by omega)]
  exact decide_eq_false (by omega)
theorem gt_no {a b m : Nat} (h : a + b < 9223372036854775808) (hm : b ≤ m) (hb : m < 9223372036854775808) : decide (((BitVec.ofNat 64 (a + b) - BitVec.ofNat 64 a).toNat : Int) > ((BitVec.ofNat 64 m).toNat : Int)) = false := by
  have e : BitVec.ofNat 64 (a + b) - BitVec.ofNat 64 a = BitVec.ofNat 64 b := by rw [← iN_add, BitVec.add_comm, BitVec.add_sub_cancel]
  rw [e, BitVec.toNat_ofNat, BitVec.toNat_ofNat, Nat.mod_eq_of_lt (by omega), Nat.mod_eq_of_lt (by omega)]
  exact decide_eq_false (by omega)
theorem gt_no3 {g d : Gz} {m : Nat} (h : g.n + g.p + g.e + (d.n + d.p + d.e) < 9223372036854775808) (hm : d.t ≤ m) (hb : m < 9223372036854775808) : decide (((BitVec.ofNat 64 ((g + d).n + (g + d).p + (g + d).e) - BitVec.ofNat 64 (g.n + g.p + g.e)).toNat : Int) > ((BitVec.ofNat 64 m).toNat : Int)) = false := by
  rw [show (g + d).n + (g + d).p + (g + d).e = g.n + g.p + g.e + (d.n + d.p + d.e) by rw [Gz.add_n, Gz.add_p, Gz.add_e]; omega]
  exact gt_no h hm hb
def pb0 : Pb := (0, [], [], [], ())
theorem pbs_at {l : List Pb} {k : Nat} (h : k < l.length) : Zp (l.flatMap pbB) (((k : Nat) : Int).toNat * 4) 4 = some (pbB (l.getD k pb0)) := by
  rw [Int.toNat_natCast]; exact fm_nat (f := pbB) (m := 4) (fun _ => rfl) l k pb0 h
theorem pbs_mem {l : List Pb} {k : Nat} (h : k < l.length) : l.getD k pb0 ∈ l := by
  rw [List.getD_eq_getElem?_getD, List.getElem?_eq_getElem h]; simp
theorem Gauge_g {x : SW} {H X : Zd} {g : Gz} {b : VBlk} : F (psys x) 26 [.ptr (some (H.length, 0))] ((H ++ [gaB g, b]) ++ X) fun v G => v = .agg [iN g.n, iN g.p, iN g.e] ∧ G = (H ++ [gaB g, b]) ++ X := Gauge_spec _ _ _ (getB (j := 0) rfl rfl)
theorem Gauge_g1 {x : SW} {H X : Zd} {g : Gz} {b : VBlk} : F (psys x) 26 [.ptr (some (H.length + 1, 0))] ((H ++ [b, gaB g]) ++ X) fun v G => v = .agg [iN g.n, iN g.p, iN g.e] ∧ G = (H ++ [b, gaB g]) ++ X := Gauge_spec _ _ _ (getB (j := 1) rfl rfl)
theorem Can_g {x : SW} {H X : Zd} {b : VBlk} (g : Gz) (q : Pb) (hq : PbL q) : F (psys x) 20 [.ptr (some (H.length, 0)), .agg (pbB q)] ((H ++ [gaB g, b]) ++ X) fun v G => v = .bool (leA q).isSome ∧ G = (H ++ [gaB (g + leG q), b]) ++ X := by
  have := Can_spec (x := x) ((H ++ [gaB g, b]) ++ X) (H.length + 0) g (getB rfl rfl) q hq
  rw [setB rfl (show 0 < 2 by decide)] at this; exact this
theorem Least_g {x : SW} {H X : Zd} {b : VBlk} (g : Gz) (q : Pb) (hq : PbL q) : F (psys x) 21 [.ptr (some (H.length, 0)), .agg (pbB q)] ((H ++ [gaB g, b]) ++ X) fun v G => v = leT (leA q) ∧ G = (H ++ [gaB (g + leG q), b]) ++ X := by
  have := sLeast_spec (x := x) ((H ++ [gaB g, b]) ++ X) (H.length + 0) g (getB rfl rfl) q hq
  rw [setB rfl (show 0 < 2 by decide)] at this; exact this
end Go.Proofs.YtenkjadobkjaeaaDoor.VT
