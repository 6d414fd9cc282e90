/- Proved: Rows.CoreWhyCardSaid, the statement CoreWhy with its card, of the given program at the commit; no conditions beyond those in the statement. -/
import Derived.Test.YtgbahioegcpjiaaDoorC8x13
set_option autoImplicit false
set_option linter.unusedVariables false
set_option linter.unusedSimpArgs false
set_option maxHeartbeats 4000000
set_option maxRecDepth 100000
namespace Go.Proofs.YtgbahioegcpjiaaDoor.VT
open Go Go.V Go.RowKit
abbrev u36 {a0 a1 a2 a3 a4 a5 a6 a7 a8 a9 a10 a11 a12 a13 a14 a15 a16 a17 a18 a19 a20 a21 a22 a23 a24 a25 a26 a27 a28 a29 a30 a31 a32 a33 a34 a35 : VVal} : VEnv := a0 :: a1 :: a2 :: a3 :: a4 :: a5 :: a6 :: a7 :: a8 :: a9 :: a10 :: a11 :: a12 :: a13 :: a14 :: a15 :: a16 :: a17 :: a18 :: a19 :: a20 :: a21 :: a22 :: a23 :: a24 :: a25 :: a26 :: a27 :: a28 :: a29 :: a30 :: a31 :: a32 :: a33 :: a34 :: a35 :: []
theorem W4u {S : V.Sys} {H : Zf} {fn : Func} {ex : Exit} {env : VEnv} {B L : Zf} {v : VVal} {R : VVal → Zf → Prop} (hx : ex = .normal ∨ ex = .ret) (hv : ZT S.C.T env (B ++ L) fn.results = some v) (h : R v B) (hB : BaseOk H B := by exact XH42) (hu : v.under H.length = true := by show (true && (((huP u (fzW ws) (fzRR rss) y).under _ && true) && ((fzW rows).under _ && true && true))) = true; rw [huUnder hy, show (fzW rows).under _ = true from Yx _ _]; rfl) : fnK S fn H R ex env (B ++ L) := YZ hx hv hB hu h
theorem W4v {S : V.Sys} {H : Zf} {fn : Func} {ex : Exit} {env : VEnv} {B L : Zf} {v : VVal} {R : VVal → Zf → Prop} (hx : ex = .normal ∨ ex = .ret) (hv : ZT S.C.T env (B ++ L) fn.results = some v) (h : R v B) (hB : BaseOk H B := by exact XH42) (hu : v.under H.length = true := by show (true && (((huP u (fzW ws) (fzRR rss) y).under _ && true) && ((fzN a).under _ && true && true))) = true; rw [huUnder hy, show (fzN a).under _ = true from Yv _ _]; rfl) : fnK S fn H R ex env (B ++ L) := YZ hx hv hB hu h
theorem W4x {T : TypeId → Option VTy} {H : Zf} {op : Op} {ρ : Operand → VVal} {t : TypeId} {a : Operand} {y : VTy} {p v : VVal} (ho : op = .load t a) (ha : ρ a = p) (hy : T t = some y) (hd : Zm y.desc = false) (h : LdOk H p v := by exact XH48) : vop T ρ H op = some (v, H) := Yu ho ha hy hd h
theorem W4z {T : TypeId → Option VTy} {H : Zf} {op : Op} {ρ : VEnv} {H' : Zf} {t : TypeId} {a : Operand} {i : Nat} {v : VVal} {y : VTy} {b off : Nat} {cs new : List VVal} (ho : op = .store t a (.tmp i)) (hv : ρ[i]? = some v) (ha : ρ.eval a = .ptr (some (b, off))) (hy : T t = some y) (hx : v.cells = some new) (hn : new.length = y.size) (h1 : new.all VVal.one = true) (hb : H[b]? = some (.cells cs true) := by exact XH37) (hl : off + new.length ≤ cs.length := by show 0 + k * 1 + 1 ≤ _; rw [List.length_map, plK_len (by omega)]; omega) (hH : H.set b (.cells (ZE cs off new) true) = H' := by exact (setE0 rfl rfl).trans (by show _ ++ (_ ++ [VBlk.cells (ZE (rcN (plK a us k)) (0 + k * 1) [iI ((us.getD (a.getD k 0) 0 : Nat) : Int)]) true]) = _; rw [spl_N (by rw [plK_len (by omega)]; omega)])) : vop T ρ.eval H op = some (.skip, H') := ZZ ho hv ha hy hx hn h1 hb hl hH
theorem W51 {P : Prop} (h : P := by first | exact ⟨true, _, [.dead, k] ++ J9, by rw [List.append_assoc], hI g0 hg0⟩ | exact ⟨false, _, [.dead, k] ++ J9, by rw [List.append_assoc], hX⟩) : P := h
theorem Users_spec {x : SW} (H : Zf) {u : Int} {ws : List (BitVec 64)} {rss : List (List Rul)} (y : Nat) (hy : y < H.length) (rows : List (BitVec 64)) : F (psys x) 121 [huP u (fzW ws) (fzRR rss) y, fzW rows] H fun v G => v = .func 141 [] [.fptr [huP u (fzW ws) (fzRR rss) y] 0, .fptr [fzW rows] 0] ∧ G = H := by
 refine Zt Tryd.func121 rfl u6 rfl ?_
 refine Zd (Za ?_)
 refine Lo u6 (ZH rfl rfl rfl) ?_
 refine Lo u6 (ZH rfl rfl rfl) ?_
 refine Lo u6 (Zg (VVal.nilFunc) (.inr rfl) rfl) ?_
 refine Ze (Zc (Zd (Za ?_)))
 refine L_gh (Gh.freezePtrL (cs := [huP u (fzW ws) (fzRR rss) y]) 2 0 rfl rfl rfl) ?_
 refine L_gh (Gh.freezePtrL (cs := [fzW rows]) 3 1 rfl rfl rfl) ?_
 refine Lo u6 (v_func [_, _] rfl rfl) ?_
 refine Lo u6 (Zb (.inr rfl) rfl) ?_
 refine Ze (Zc (Zl ?_))
 refine W4u (.inr rfl) (Zh rfl rfl) ?_
 exact ⟨rfl, rfl⟩
theorem Plans_spec {x : SW} (H : Zf) {u : Int} {ws : List (BitVec 64)} {rss : List (List Rul)} (y : Nat) (hy : y < H.length) (a : List Nat) : F (psys x) 83 [huP u (fzW ws) (fzRR rss) y, fzN a] H fun v G => v = .func 120 [] [.fptr [huP u (fzW ws) (fzRR rss) y] 0, .fptr [fzN a] 0] ∧ G = H := by
 refine Zt Tryd.func83 rfl u6 rfl ?_
 refine Zd (Za ?_)
 refine Lo u6 (ZH rfl rfl rfl) ?_
 refine Lo u6 (ZH rfl rfl rfl) ?_
 refine Lo u6 (Zg (VVal.nilFunc) (.inr rfl) rfl) ?_
 refine Ze (Zc (Zd (Za ?_)))
 refine L_gh (Gh.freezePtrL (cs := [huP u (fzW ws) (fzRR rss) y]) 2 0 rfl rfl rfl) ?_
 refine L_gh (Gh.freezePtrL (cs := [fzN a]) 3 1 rfl rfl rfl) ?_
 refine Lo u6 (v_func [_, _] rfl rfl) ?_
 refine Lo u6 (Zb (.inr rfl) rfl) ?_
 refine Ze (Zc (Zl ?_))
 refine W4v (.inr rfl) (Zh rfl rfl) ?_
 exact ⟨rfl, rfl⟩
theorem tv_cons {z : List (Gz × List Nat)} {e d : Gz} {c : VVal} {post : List (Gz × VVal)} (h : tv (z, e) = (d, c) :: post) : ∃ us z1, z = (d, us) :: z1 ∧ c = fzN us := by
  cases z with
  | nil => cases h
  | cons q z =>
    obtain ⟨d1, us⟩ := q
    have h : (d1, fzN us) :: tv (z, e) = (d, c) :: post := h
    injection h with h1 h2
    injection h1 with h3 h4
    exact ⟨us, z, by rw [h3], h4.symm⟩
theorem tv_nil {xs : List (Gz × VVal)} {z : List (Gz × List Nat)} {e : Gz} (h : xs = xs ++ tv (z, e)) : z = [] := by
  have : tv (z, e) = [] := by simpa using h
  cases z with
  | nil => rfl
  | cons q z => cases this
theorem fzN_pl {a us : List Nat} : fzN (plN a us) = .fsl (rcN (plN a us)) a.length 1 false := by
  show VVal.fsl _ (plN a us).length 1 false = _
  rw [plN_len]
theorem each_top {x : SW} {u : Int} {ws rs : VVal} (y l : Nat) (rows : List (BitVec 64)) (hr : rows.length ≤ 1000000) (A : Zf) (g : Gz) (K : Bool → Zf → Prop) (hs : A[y]? = some (gaB g)) (hI : IterP (psys x) l y (tv (usT rows [] 0#64)) (usT rows [] 0#64).2 A K) :
    F (psys x) 142 [huP u ws rs y, fzW rows, niS, iW 0#64, .yield l] A fun v G => ∃ b A1 J, v = .bool b ∧ G = A1 ++ J ∧ K b A1 := by
  refine F.pre (Gh.freezeNil (vs' := [huP u ws rs y, fzW rows, fzN [], iW 0#64, .yield l]) 2 rfl rfl) ?_
  have := each_spec (x := x) (u := u) (ws := ws) (rs := rs) y l rows hr rows.length A [] [] 0#64 g K hs hI (Nat.zero_add _)
  rw [List.append_nil] at this
  refine this.mono ?_
  rintro v G ⟨b, A1, J, rfl, rfl, _, hk, _⟩
  exact ⟨b, A1, J, rfl, rfl, hk⟩
theorem Users1_spec {x : SW} {u : Int} {ws rs : VVal} (y l : Nat) (rows : List (BitVec 64)) (hr : rows.length ≤ 1000000) (A : Zf) (g : Gz) (K : Bool → Zf → Prop) (hs : A[y]? = some (gaB g)) (hI : IterP (psys x) l y (tv (usT rows [] 0#64)) (usT rows [] 0#64).2 A K) : F (psys x) 141 [.yield l, .fptr [huP u ws rs y] 0, .fptr [fzW rows] 0] A fun v G => ∃ b A1 J, G = A1 ++ J ∧ K b A1 := by
 refine Zt Tryd.func141 rfl u8 rfl ?_
 rw [List.append_nil]
 refine Za ?_
 refine Lo u8 (W12 rfl rfl rfl rfl) ?_
 refine Lo u8 (W12 rfl rfl rfl rfl) ?_
 refine Lo u8 (Zb (.inl rfl) rfl) ?_
 refine Zs rfl rfl rfl (by exact each_top y l rows hr A g K hs hI) ?_
 rintro _ _ ⟨b, A1, J, rfl, rfl, hk⟩
 refine Le u8 ?_
 refine Ze ?_
 refine YV (.inl rfl) (vres_none rfl) ?_
 exact ⟨b, A1, J, rfl, hk⟩
theorem Plans1_spec {x : SW} {u : Int} {ws : List (BitVec 64)} {rss : List (List Rul)} (y l : Nat) (a : List Nat) (ha : Pat a) (hw : a.length ≤ ws.length) (hn : ws.length ≤ 1000000) (A : Zf) (g : Gz) (K : Bool → Zf → Prop) (hs : A[y]? = some (gaB g)) (hI : IterP (psys x) l y (tv (plT a (usT (Z8 ws a a.length) [] 0#64))) (usT (Z8 ws a a.length) [] 0#64).2 A K) : F (psys x) 120 [.yield l, .fptr [huP u (fzW ws) (fzRR rss) y] 0, .fptr [fzN a] 0] A fun v G => ∃ b A1 J, G = A1 ++ J ∧ K b A1 := by
 refine Zt Tryd.func120 rfl u36 rfl ?_
 refine Zd (Za ?_)
 refine Lo u36 (ZH rfl rfl rfl) ?_
 refine Ze (Zc (Zd ?_))
 refine ZY (Gh.freezePtrL (cs := [.yield l]) 3 0 rfl rfl rfl) ?_
 refine ZW [0, 1, 2, 3, 4] #[0, 0, 0, 6, 15] XH3 XH3 XH3 ?_
 refine Yg (env' := u36) (x := .look _ _) rfl rfl rfl (W4x rfl rfl rfl rfl) rfl rfl rfl ?_
 refine Oo u36 .look rfl (W4x rfl rfl rfl rfl) ?_
 refine Oo u36 .look rfl (W4x rfl rfl rfl rfl) ?_
 refine Yb (env' := u36) rfl rfl rfl rfl rfl (by exact hBlocks_spec _ _ _ ha hw hn) XH7 rfl rfl ?_
 refine Yb (env' := u36) rfl rfl rfl rfl rfl (by exact Users_spec _ y (by have := ZF hs; simp; omega) _) XH7 rfl rfl ?_
 refine ZQ [_] (by rfl) (And.intro (And.intro (W4x rfl rfl rfl rfl) (W4x rfl rfl rfl rfl)) trivial) ?_
 refine Zc (Zi ?_)
 refine Zu (mk 36 68719472627) (env' := u36) rfl ?_
 refine Ym (H' := A ++ [.dead]) rfl ?_
 refine B_rangePJ (y) (tv (usT (Z8 ws a a.length) [] 0#64)) ((usT (Z8 ws a a.length) [] 0#64).2) (fun l0 h => by cases h) rfl (fun l9 G9 K9 hg9 hI9 => Users1_spec y l9 (Z8 ws a a.length) (by rw [YC]; have := @szP_le a a.length; omega) G9 _ K9 hg9.choose_spec hI9) (σ := {q : Zf × Gz // q.1.length = A.length}) (fun k s => s.1.1 ++ [.dead, k]) ⟨(A, g), rfl⟩ (fun k => by simp) (fun k s => by simp [s.2]) (fun k s => by rw [show (A ++ [VBlk.dead]).length = A.length + 1 by simp]; exact ZJ s.2 rfl) (fun k k1 s => by rw [show (A ++ [VBlk.dead]).length = A.length + 1 by simp]; exact ZP s.2) (fun s => s.1.2) (fun d s => ⟨(s.1.1.set y (gaB (s.1.2 + d)), s.1.2 + d), by rw [List.length_set]; exact s.2⟩) (fun pre s => ∃ z, tv (usT (Z8 ws a a.length) [] 0#64) = pre ++ tv (z, (usT (Z8 ws a a.length) [] 0#64).2) ∧ (∀ q, q ∈ z → q.2.length = szP a a.length) ∧ s.1.1[y]? = some (gaB s.1.2) ∧ IterP (psys x) l y (tv (plT a (z, (usT (Z8 ws a a.length) [] 0#64).2))) (usT (Z8 ws a a.length) [] 0#64).2 s.1.1 K) (fun k s pre hI => by obtain ⟨_, _, _, h, _⟩ := hI; exact Zo h) (fun k s d pre hI => by obtain ⟨_, _, _, h, _⟩ := hI; exact Ya (ZF h)) ?_ (fun j pre c s => (j = Code.ret ∧ (K false s.1.1))) rfl ?_ ?_ ?_
 ·exact ⟨(usT (Z8 ws a a.length) [] 0#64).1, rfl, fun q hq => by rw [usT_len q hq, YC]; simp, hs, hI⟩
 ·intro pre d c post s hx hI Lp kr kb hkr hkb
  obtain ⟨⟨A0, g0⟩, hA0⟩ := s
  try dsimp only at hI ⊢
  have hA0 : A0.length = A.length := hA0
  obtain ⟨z, hz, hzl, hg0, hI⟩ := hI
  obtain ⟨us, z, rfl, rfl⟩ : ∃ us z1, z = (d, us) :: z1 ∧ c = fzN us := tv_cons (List.append_cancel_left (hz.symm.trans hx))
  have hul : us.length = szP a a.length := hzl _ (List.mem_cons_self ..)
  have hI1 := hI g0 hg0
  refine ZO (env' := u36) rfl ?_
  refine Za ?_
  refine Lo u36 (Zb (.inr rfl) rfl) ?_
  refine Ze ?_
  refine ⟨rfl, ⟨(A0.set y (gaB (g0 + d)), g0 + d), by rw [List.length_set]; exact hA0⟩, rfl, ?_⟩
  try dsimp only
  refine Ym (H' := A0.set y (gaB (g0 + d)) ++ ([.dead, kb] ++ Lp)) (by simp) ?_
  refine Zi (Zd (Za ?_))
  refine Lo u36 (W4x rfl rfl rfl rfl) ?_
  refine Lo u36 (rfl) ?_
  refine Lo u36 (v_makeSlice rfl rfl rfl rfl rfl (by decide) ⟨by omega, Int.le_refl _, by show (a.length : Int) * (8 : Nat) ≤ _; omega, by omega⟩) ?_
  refine Lo u36 (Zb (.inr rfl) rfl) ?_
  refine Ze (Zc (Zd (Zd (Za ?_))))
  refine Lo u36 (W4x rfl rfl rfl rfl) ?_
  refine Lo u36 (rfl) ?_
  refine Lo u36 (Zg (VVal.int .i64 0) (.inl rfl) rfl) ?_
  refine Ze (Zc (Zi ?_))
  refine Zu (mk 36 68718559175) (env' := u36) rfl ?_
  refine Zx (fun (k : Nat) => a.length - k) (fun (k : Nat) => [(19, iI (k : Nat))]) (fun (k : Nat) G => (k ≤ a.length) ∧ G = A0.set y (gaB (g0 + d)) ++ (([.dead, kb] ++ Lp) ++ [.cells (rcN (plK a us k)) true])) 0 rfl ?_ ?_
  ·refine ⟨?_, (by rw [show plK a us 0 = List.replicate a.length 0 from rfl, ← rep_rc]; rfl)⟩
   exact Nat.zero_le _
  rintro k _ ⟨hk9, rfl⟩
  refine ZO (env' := u36) rfl ?_
  refine Zd (Za ?_)
  refine Lo u36 (rfl) ?_
  refine Ze (Zc (Zd ?_))
  refine Zk _ rfl (fun hc1 => ?_) (fun hc1 => ?_)
  ·try simp only [qB, qN] at hc1
   refine Zj (Zc (Zd (Zi (Zd (Za ?_)))))
   refine Lo u36 (Zb (.inl rfl) rfl) ?_
   refine Lo u36 (W18 rfl rfl rfl rfl rfl rfl rfl) ?_
   refine Lo u36 (W4x rfl rfl rfl rfl) ?_
   refine Lo u36 (Zb (.inr rfl) rfl) ?_
   refine Lo u36 (Zb (.inr rfl) rfl) ?_
   refine Ze (Zc ?_)
   have hlt := Pat.lt ha (Nat.le_refl a.length) (i := k) (by omega)
   refine Za ?_
   refine Lo u36 (Zb (.inl rfl) rfl) ?_
   refine Lo u36 (Zb (.inl rfl) rfl) ?_
   refine Lo u36 (Zb (.inl rfl) rfl) ?_
   refine Lo u36 (Zb (.inl rfl) rfl) ?_
   refine Lo u36 (W18 rfl rfl rfl rfl rfl rfl rfl) ?_
   refine Lo u36 (W4x rfl rfl rfl rfl) ?_
   refine Lo u36 (W18 rfl rfl rfl rfl rfl rfl rfl) ?_
   refine Lo u36 (W4z rfl rfl rfl rfl rfl rfl rfl) ?_
   refine Ze (Zy (Zc (Za ?_)))
   refine Lo u36 (W14 rfl rfl rfl) ?_
   refine Lo u36 (Zb (.inl rfl) rfl) ?_
   refine Ze ?_
   refine Zw (mk 36 68718559175) (env' := u36) rfl ⟨k + 1, ?_, rfl, ?_⟩
   ·first | omega | (simp only []; omega)
   ·exact ⟨by omega, by rw [plK_step (by omega)]⟩
  ·try simp only [qB, qN] at hc1
   refine ZD (ZB (Zv (ZC (Zc (Zd ?_)))))
   obtain rfl : k = a.length := by omega
   rw [plK_all]
   refine ZY (Gh.freezeL (l := rcN (plN a us)) 5 ([VBlk.dead, kb] ++ Lp).length rfl YL (Yf (by rw [List.length_map, plN_len]; rfl)) (Nat.le_refl _) rfl) ?_
   rw [set_end]
   refine Za ?_
   refine Lo u36 (W4x rfl rfl rfl rfl) ?_
   refine Lo u36 (Zb (.inl rfl) rfl) ?_
   refine L_callV rfl rfl rfl (by have h9 : Fv (psys x) (.yield l) [fzN (plN a us)] (A0.set y (gaB (g0 + d)) ++ (([.dead, kb] ++ Lp) ++ [.dead])) _ := hI1 _; rw [fzN_pl] at h9; exact h9) ?_
   rintro _ _ ⟨b, A2, J2, rfl, rfl, hA2, hk⟩; have hA3 : A2.length = A.length := hA2.trans hA0
   refine Le u36 ?_
   refine Lo u36 (rfl) ?_
   refine Ze (Zc ?_)
   refine Zk _ rfl (fun hc2 => ?_) (fun hc2 => ?_)
   ·try simp only [qB, qN] at hc2
    have hb : b = false := by simpa using hc2
    subst hb
    have hk : K false A2 := hk
    refine Zl (ZA ?_)
    refine ⟨⟨(A2, g0), hA3⟩, .dead :: J2, (by simp), .inr ⟨Code.ret, rfl, ⟨rfl, ?_⟩⟩⟩
    exact hk
   ·try simp only [qB, qN] at hc2
    have hb : b = true := by simpa using hc2
    subst hb
    obtain ⟨⟨g2, hg2⟩, hk2⟩ := hk
    refine Zj (Zy ?_)
    refine ⟨⟨(A2, g2), hA3⟩, .dead :: J2, (by simp), .inl ⟨rfl, ?_⟩⟩
    exact ⟨z, by rw [hz, List.append_assoc]; rfl, fun q hq => hzl q (List.mem_cons_of_mem _ hq), hg2, hk2⟩
 ·intro s k hk hI J9
  obtain ⟨⟨A0, g0⟩, hA0⟩ := s
  try dsimp only at hI ⊢
  obtain ⟨z, hz, hzl, hg0, hI⟩ := hI
  obtain rfl := tv_nil hz
  refine Zy ?_
  refine YV (.inl rfl) (vres_none rfl) ?_
  exact W51
 ·rintro j pre c post s k hk hx (⟨rfl, hX⟩) J9
  obtain ⟨⟨A0, g0⟩, hA0⟩ := s
  try dsimp only
  refine J_ret ?_
  refine ZA ?_
  refine YV (.inr rfl) (vres_none rfl) ?_
  exact W51
theorem W52 {T : TypeId → Option VTy} {H : Zf} {op : Op} {ρ : Operand → VVal} {t : TypeId} {a : Operand} {y : VTy} {p : VVal} {n : Nat} {vs : List VVal} (ho : op = .load t a) (ha : ρ a = p) (hy : T t = some y) (hd : Zm y.desc = true) (hn : y.size = n) (h : LdOkA H p n vs := by first | exact .inl ⟨_, _, rfl, XH45⟩ | exact .inr ⟨_, _, _, _, rfl, XH37, XH45⟩) : vop T ρ H op = some (.agg vs, H) := v_ldA ho ha hy hd hn h
def leA (p : Pb) : Option (List Nat) := if pck p = 0 then fdA p.users.toNat (wsP p) (Yq p) else none
def leG (p : Pb) : Gz := if pck p = 0 then fdG p.users.toNat (wsP p) (Yq p) else 0
def leT : Option (List Nat) → VVal
  | some l => .tuple [fzN l, .bool true]
  | none => .tuple [fzN [], .bool false]
theorem rssP_len {p : Pb} : (Yq p).length = (wsP p).length := by unfold Yq; rw [addR_len, YH]
theorem rssP_ok {p : Pb} (g : Go.V.Good p) : ∀ i, ((Yq p).getD i []).length ≤ 1000000 ∧ ∀ r, r ∈ (Yq p).getD i [] → r.steps.length ≤ 1000000 := fun i => by
  have g3 := g.r32; have g1 := g.n12
  have gs := fun r hr => rck_len (g.ru r hr)
  refine ⟨?_, fun r hr => ?_⟩
  · have := addR_row (n := p.who.length) (i := i) gs (m := p.rules.length) (Nat.le_refl _)
    unfold Yq; omega
  · have hin := fun r hr x hx => by
      have h := g.ru r hr
      unfold rck at h
      rw [Bool.and_eq_true, Bool.and_eq_true] at h
      have := Y9 _ _ h.2.1 x hx
      exact (show 0 ≤ x ∧ x < (p.who.length : Int) by omega)
    have := (addR_mem (n := p.who.length) (rs := p.rules) (r' := r) (i := i) hin (m := p.rules.length) (Nat.le_refl _)).1 hr
    rw [List.take_length] at this
    have := gs r this.1; omega
theorem New_N {x : SW} (H : Zf) (p : Pb) (y : Nat) (hy : y < H.length) (g : Go.V.Good p) : F (psys x) 80 [.agg (pbB p), .ptr (some (y, 0))] H fun v G => v = huP (p.users.toNat : Nat) (fzW (wsP p)) (fzRR (Yq p)) y ∧ G = H := by
  rw [Int.toNat_of_nonneg g.u0]; exact New_spec H p y hy g
theorem Search_in {x : SW} (H L : Zf) {p : Pb} {y : Nat} {g : Gz} (hs : H[y]? = some (gaB g)) (hg : Go.V.Good p) : F (psys x) 81 [iI (p.who.length : Nat), iI 1, kpV p.users.toNat (wsP p) (Yq p) y] (H ++ L) fun v G => v = .fsl ((frm (kpB (wsP p) (Yq p)) (kpG p.users.toNat (wsP p) (Yq p)) (wsP p).length [] 0).2.toList.map fzN) (frm (kpB (wsP p) (Yq p)) (kpG p.users.toNat (wsP p) (Yq p)) (wsP p).length [] 0).2.toList.length 1 false ∧ G = H.set y (gaB (g + (frm (kpB (wsP p) (Yq p)) (kpG p.users.toNat (wsP p) (Yq p)) (wsP p).length [] 0).1)) ++ L := by
  have g1 := hg.n12
  have := Search_spec (x := x) (u := p.users.toNat) (H ++ L) g (Zo hs) (by rw [YH]; omega) rssP_len (rssP_ok hg) (by rw [YH]; exact g1)
  rw [YH] at this
  rw [Ya (ZF hs)] at this
  rw [YH]; exact this
theorem Least_bad {x : SW} (H : Zf) (y : Nat) (g : Gz) (hs : H[y]? = some (gaB g)) (p : Pb) (hp : PbL p) (hb : ¬ pck p = 0) : F (psys x) 39 [.ptr (some (y, 0)), .agg (pbB p)] H fun v G => v = .tuple [fzN [], .bool false] ∧ G = H := by
 refine Zt Tryd.func39 rfl u35 rfl ?_
 refine Zd (Za ?_)
 refine Lo u35 (ZH rfl rfl rfl) ?_
 refine Lo u35 (ZG rfl rfl) ?_
 refine Lo u35 (ZG rfl rfl) ?_
 refine Ze (Zc (Zd (Zd ?_)))
 refine ZY (Gh.freezePtrL (cs := pbB p) 3 0 rfl rfl rfl) ?_
 refine Za ?_
 refine Lo u35 (W52 rfl rfl rfl rfl rfl) ?_
 refine Zs rfl rfl rfl (by exact YP _ _ hp) ?_
 rintro _ _ ⟨rfl, rfl⟩
 refine Le u35 ?_
 refine Lo u35 (v_is true rfl (by simp [hb])) ?_
 refine Ze (Zc ?_)
 refine ZU rfl rfl ?_
 refine Zd (Za ?_)
 refine Lo u35 (Yk (VVal.slice none 0 0 true 0) rfl rfl rfl rfl rfl rfl rfl XH0 XH5 XH1) ?_
 refine Lo u35 (Yk (VVal.bool false) rfl rfl rfl rfl rfl rfl rfl XH0 XH5 XH1) ?_
 refine Ze (Zc ?_)
 refine ZY (Gh.cellNilL 1 0 (es' := 1) rfl rfl) ?_
 refine Zl (Zn ?_)
 refine W10 (.inr rfl) (vres_cells2 rfl rfl rfl rfl rfl rfl rfl XH0 (by rfl) XH0 (by rfl)) ?_
 exact ⟨rfl, rfl⟩
theorem Least_none {x : SW} (H : Zf) (y : Nat) (g : Gz) (hs : H[y]? = some (gaB g)) (p : Pb) (hp : PbL p) (hg0 : pck p = 0) (hf : (frm (kpB (wsP p) (Yq p)) (kpG p.users.toNat (wsP p) (Yq p)) (wsP p).length [] 0).2 = none) : F (psys x) 39 [.ptr (some (y, 0)), .agg (pbB p)] H fun v G => v = .tuple [fzN [], .bool false] ∧ G = H.set y (gaB (g + (frm (kpB (wsP p) (Yq p)) (kpG p.users.toNat (wsP p) (Yq p)) (wsP p).length [] 0).1)) := by
 have hg : Go.V.Good p := pck_good.1 hg0
 refine Zt Tryd.func39 rfl u35 rfl ?_
 refine Zd (Za ?_)
 refine Lo u35 (ZH rfl rfl rfl) ?_
 refine Lo u35 (ZG rfl rfl) ?_
 refine Lo u35 (ZG rfl rfl) ?_
 refine Ze (Zc (Zd (Zd ?_)))
 refine ZY (Gh.freezePtrL (cs := pbB p) 3 0 rfl rfl rfl) ?_
 refine Za ?_
 refine Lo u35 (W52 rfl rfl rfl rfl rfl) ?_
 refine Zs rfl rfl rfl (by exact YP _ _ hp) ?_
 rintro _ _ ⟨rfl, rfl⟩
 refine Le u35 ?_
 refine Lo u35 (v_is false rfl (by rw [hg0]; rfl)) ?_
 refine Ze (Zc ?_)
 refine Z5 rfl rfl ?_
 refine Zj (Zc (Zd ?_))
 refine ZW [0, 1, 2, 3, 4, 5] #[0, 0, 2, 6, 15, 31] XH3 XH3 XH3 ?_
 refine Oo u35 .look rfl (W52 rfl rfl rfl rfl rfl) ?_
 refine Oo u35 .calm rfl (Zb (.inl rfl) rfl) ?_
 refine Oo u35 .calm rfl (rfl) ?_
 refine Oo u35 .calm rfl (rfl) ?_
 refine Yb (env' := u35) rfl rfl rfl rfl rfl (by exact New_N _ p y (by have := ZF hs; simp; omega) hg) XH7 rfl rfl ?_
 refine Oo u35 .calm rfl (Zb (.inr rfl) rfl) ?_
 refine ZQ [] XH3 (trivial) ?_
 refine Zc (Zd (Zd (Za ?_)))
 refine Lo u35 (rfl) ?_
 refine Lo u35 (W4l rfl rfl rfl rfl) ?_
 refine Lo u35 (rfl) ?_
 refine Lo u35 (Zb (.inl rfl) rfl) ?_
 refine Lo u35 ((rfl : vop _ _ _ _ = some (kpV p.users.toNat (wsP p) (Yq p) y, _))) ?_
 refine Zs rfl rfl rfl (by exact Search_in H _ hs hg) ?_
 rintro _ _ ⟨rfl, rfl⟩; rw [hf]
 refine Le u35 ?_
 refine Lo u35 (rfl) ?_
 refine Lo u35 (Zg (VVal.int .i64 0) (.inl rfl) rfl) ?_
 refine Ze (Zc (Zi ?_))
 refine Zu (mk 35 34301017999) (env' := u35) rfl ?_
 refine Zx (fun (k : Nat) => 0) (fun (k : Nat) => [(25, iI (k : Nat))]) (fun (k : Nat) G => (k = 0) ∧ G = H.set y (gaB (g + (frm (kpB (wsP p) (Yq p)) (kpG p.users.toNat (wsP p) (Yq p)) (wsP p).length [] 0).1)) ++ [.dead, .cells [niS] true, .cells [.bool false] true]) 0 rfl ?_ ?_
 ·refine ⟨?_, rfl⟩
  rfl
 rintro k _ ⟨hk9, rfl⟩
 refine ZO (env' := u35) rfl ?_
 refine Zd (Za ?_)
 refine Lo u35 (rfl) ?_
 refine Ze (Zc (Zd ?_))
 refine Zk _ rfl (fun hc1 => ?_) (fun hc1 => ?_)
 ·try simp only [qB, qN] at hc1
  exfalso; simp at hc1; omega
 ·try simp only [qB, qN] at hc1
  refine ZD (ZB (Zv (ZC (Zc (Zd (Za ?_))))))
  refine Lo u35 (Yk (VVal.slice none 0 0 true 0) rfl rfl rfl rfl rfl rfl rfl XH34 XH5 (by exact ZP (List.length_set))) ?_
  refine Lo u35 (Yk (VVal.bool false) rfl rfl rfl rfl rfl rfl rfl XH34 XH5 (by exact ZP (List.length_set))) ?_
  refine Ze (Zc ?_)
  refine ZY (Gh.cellNilL 1 0 (es' := 1) rfl rfl) ?_
  refine Zl ?_
  refine W3e (.inr rfl) (vres_cells2 rfl rfl rfl rfl rfl rfl rfl (by first | exact ZJ rfl rfl | exact ZJ (List.length_set) rfl) (by rfl) (by first | exact ZJ rfl rfl | exact ZJ (List.length_set) rfl) (by rfl)) ?_
  exact ⟨rfl, rfl⟩
theorem wsP_get {p : Pb} {i : Nat} (h : i < p.who.length) : (wsP p).getD i 0 = wrd p i := by
  unfold wsP; simp [List.getD_eq_getElem?_getD, h]
theorem myB_nat {p : Pb} {i n : Nat} : myB p i (n : Nat) = true ↔ (wrd p i).getLsbD n = true := by
  unfold myB
  rw [Bool.and_eq_true, decide_eq_true_eq, Int.toNat_natCast]
  exact ⟨fun h => h.2, fun h => ⟨by have := BitVec.lt_of_getLsbD h; omega, h⟩⟩
theorem leT_eq (o : Option (List Nat)) : ∃ l ok, leT o = .tuple [fzN l, .bool ok] ∧ (ok = true → o = some l) ∧ (ok = false → l = [] ∧ o = none) := by
  cases o with
  | some l => exact ⟨l, true, rfl, fun _ => rfl, fun e => (by cases e)⟩
  | none => exact ⟨[], false, rfl, fun e => (by cases e), fun _ => ⟨rfl, rfl⟩⟩
theorem W59 {T : TypeId → Option VTy} {H : Zf} {op : Op} {ρ : VEnv} {H' : Zf} {t : TypeId} {a : Operand} {i : Nat} {v : VVal} {y : VTy} {b off : Nat} {cs new : List VVal} (ho : op = .store t a (.tmp i)) (hv : ρ[i]? = some v) (ha : ρ.eval a = .ptr (some (b, off))) (hy : T t = some y) (hx : v.cells = some new) (hn : new.length = y.size) (h1 : new.all VVal.one = true) (hb : H[b]? = some (.cells cs true) := by exact ZJ (List.length_set) rfl) (hl : off + new.length ≤ cs.length := by exact XH40) (hH : H.set b (.cells (ZE cs off new) true) = H' := by exact ZP (List.length_set)) : vop T ρ.eval H op = some (.skip, H') := ZZ ho hv ha hy hx hn h1 hb hl hH
theorem W5a {S : V.Sys} {H : Zf} {fn : Func} {ex : Exit} {env : VEnv} {B L : Zf} {v : VVal} {R : VVal → Zf → Prop} (hx : ex = .normal ∨ ex = .ret) (hv : ZT S.C.T env (B ++ L) fn.results = some v) (h : R v B) (hB : BaseOk H B := by exact BaseOk.set (BaseOk.refl _) _ rfl) (hu : v.under H.length = true := by show ((fzN _).under _ && (true && true)) = true; rw [show (fzN (plN a (lst (Z8 (wsP p) a a.length) 0#64))).under _ = true from Yv _ _]; rfl) : fnK S fn H R ex env (B ++ L) := YZ hx hv hB hu h
theorem Least_some {x : SW} (H : Zf) (y : Nat) (g : Gz) (hs : H[y]? = some (gaB g)) (p : Pb) (hp : PbL p) (hg0 : pck p = 0) (a : List Nat) (hf : (frm (kpB (wsP p) (Yq p)) (kpG p.users.toNat (wsP p) (Yq p)) (wsP p).length [] 0).2 = some a) (d9 : Gz) (z9 : List (Gz × List Nat)) (hq : (usT (Z8 (wsP p) a a.length) [] 0#64).1 = (d9, (lst (Z8 (wsP p) a a.length) 0#64)) :: z9) : F (psys x) 39 [.ptr (some (y, 0)), .agg (pbB p)] H fun v G => v = .tuple [fzN (plN a (lst (Z8 (wsP p) a a.length) 0#64)), .bool true] ∧ G = H.set y (gaB (g + (frm (kpB (wsP p) (Yq p)) (kpG p.users.toNat (wsP p) (Yq p)) (wsP p).length [] 0).1 + d9)) := by
 have hg : Go.V.Good p := pck_good.1 hg0
 have hy := ZF hs
 obtain ⟨_, hal, ha, _, _⟩ := fnd_ok hf
 have hw : a.length ≤ (wsP p).length := by omega
 have hn : (wsP p).length ≤ 1000000 := by rw [YH]; exact hp.w
 obtain ⟨t9, hT9⟩ : ∃ t9, tv (plT a (usT (Z8 (wsP p) a a.length) [] 0#64)) = (d9, fzN (plN a (lst (Z8 (wsP p) a a.length) 0#64))) :: t9 := ⟨_, by unfold plT; rw [hq]; rfl⟩
 refine Zt Tryd.func39 rfl u35 rfl ?_
 refine Zd (Za ?_)
 refine Lo u35 (ZH rfl rfl rfl) ?_
 refine Lo u35 (ZG rfl rfl) ?_
 refine Lo u35 (ZG rfl rfl) ?_
 refine Ze (Zc (Zd (Zd ?_)))
 refine ZY (Gh.freezePtrL (cs := pbB p) 3 0 rfl rfl rfl) ?_
 refine Za ?_
 refine Lo u35 (W52 rfl rfl rfl rfl rfl) ?_
 refine Zs rfl rfl rfl (by exact YP _ _ hp) ?_
 rintro _ _ ⟨rfl, rfl⟩
 refine Le u35 ?_
 refine Lo u35 (v_is false rfl (by rw [hg0]; rfl)) ?_
 refine Ze (Zc ?_)
 refine Z5 rfl rfl ?_
 refine Zj (Zc (Zd ?_))
 refine ZW [0, 1, 2, 3, 4, 5] #[0, 0, 2, 6, 15, 31] XH3 XH3 XH3 ?_
 refine Oo u35 .look rfl (W52 rfl rfl rfl rfl rfl) ?_
 refine Oo u35 .calm rfl (Zb (.inl rfl) rfl) ?_
 refine Oo u35 .calm rfl (rfl) ?_
 refine Oo u35 .calm rfl (rfl) ?_
 refine Yb (env' := u35) rfl rfl rfl rfl rfl (by exact New_N _ p y (by simp; omega) hg) XH7 rfl rfl ?_
 refine Oo u35 .calm rfl (Zb (.inr rfl) rfl) ?_
 refine ZQ [] XH3 (trivial) ?_
 refine Zc (Zd (Zd (Za ?_)))
 refine Lo u35 (rfl) ?_
 refine Lo u35 (W4l rfl rfl rfl rfl) ?_
 refine Lo u35 (rfl) ?_
 refine Lo u35 (Zb (.inl rfl) rfl) ?_
 refine Lo u35 ((rfl : vop _ _ _ _ = some (kpV p.users.toNat (wsP p) (Yq p) y, _))) ?_
 refine Zs rfl rfl rfl (by exact Search_in H _ hs hg) ?_
 rintro _ _ ⟨rfl, rfl⟩; rw [hf]
 refine Le u35 ?_
 refine Lo u35 (rfl) ?_
 refine Lo u35 (Zg (VVal.int .i64 0) (.inl rfl) rfl) ?_
 refine Ze (Zc (Zi ?_))
 refine Zu (mk 35 34301017999) (env' := u35) rfl ?_
 refine Zx (fun (k : Nat) => 0) (fun (k : Nat) => [(25, iI (k : Nat))]) (fun (k : Nat) G => (k = 0) ∧ G = H.set y (gaB (g + (frm (kpB (wsP p) (Yq p)) (kpG p.users.toNat (wsP p) (Yq p)) (wsP p).length [] 0).1)) ++ [.dead, .cells [niS] true, .cells [.bool false] true]) 0 rfl ?_ ?_
 ·refine ⟨?_, rfl⟩
  rfl
 rintro k _ ⟨rfl, rfl⟩
 refine ZO (env' := u35) rfl ?_
 refine Zd (Za ?_)
 refine Lo u35 (rfl) ?_
 refine Ze (Zc (Zd ?_))
 refine Zk _ rfl (fun hc1 => ?_) (fun hc1 => ?_)
 ·try simp only [qB, qN] at hc1
  refine Zj (Zc (Zd (Zi (Zd (Za ?_)))))
  refine Lo u35 (W18 rfl rfl rfl rfl rfl rfl rfl) ?_
  refine Lo u35 (W4l rfl rfl rfl rfl) ?_
  refine Lo u35 (Zb (.inr rfl) rfl) ?_
  refine Ze (Zc (Zd (Za ?_)))
  refine Lo u35 (Zb (.inl rfl) rfl) ?_
  refine Lo u35 (Zb (.inl rfl) rfl) ?_
  refine Zs rfl rfl rfl (by exact Plans_spec _ y (by simp; omega) a) ?_
  rintro _ _ ⟨rfl, rfl⟩
  refine Le u35 ?_
  refine Ze (Zc (Zi ?_))
  refine Zu (mk 35 32153534351) (env' := u35) rfl ?_
  refine B_rangePJ (y) (tv (plT a (usT (Z8 (wsP p) a a.length) [] 0#64))) ((usT (Z8 (wsP p) a a.length) [] 0#64).2) (fun l0 h => by cases h) rfl (fun l9 G9 K9 hg9 hI9 => Plans1_spec y l9 a ha hw hn G9 _ K9 hg9.choose_spec hI9) (σ := Gz × VVal × Bool) (fun k s => H.set y (gaB s.1) ++ [.dead, .cells [s.2.1] true, .cells [.bool s.2.2] true, k]) (g + (frm (kpB (wsP p) (Yq p)) (kpG p.users.toNat (wsP p) (Yq p)) (wsP p).length [] 0).1, niS, false) (fun k => by simp) (fun k s => by simp) (fun k s => by rw [show ((H.set y _) ++ _ : Zf).length = H.length + 3 by simp]; exact ZJ (List.length_set) rfl) (fun k k1 s => by rw [show ((H.set y _) ++ _ : Zf).length = H.length + 3 by simp]; exact ZP (List.length_set)) (fun s => s.1) (fun d s => (s.1 + d, s.2)) (fun pre s => pre = [] ∧ s = (g + (frm (kpB (wsP p) (Yq p)) (kpG p.users.toNat (wsP p) (Yq p)) (wsP p).length [] 0).1, niS, false)) (fun k s pre hI => by exact Zo (List.getElem?_set_self hy)) (fun k s d pre hI => by rw [Ya XH29, List.set_set]) ?_ (fun j pre c s => (j = Code.ret ∧ (s = (g + (frm (kpB (wsP p) (Yq p)) (kpG p.users.toNat (wsP p) (Yq p)) (wsP p).length [] 0).1 + d9, fzN (plN a (lst (Z8 (wsP p) a a.length) 0#64)), true)))) rfl ?_ ?_ ?_
  ·exact ⟨rfl, rfl⟩
  ·intro pre d c post s hx hI Lp kr kb hkr hkb
   obtain ⟨g8, v8, b8⟩ := s
   try dsimp only at hI ⊢
   obtain ⟨rfl, hI⟩ := hI
   obtain ⟨rfl, rfl, rfl⟩ : g8 = _ ∧ v8 = _ ∧ b8 = _ := by simpa using hI
   obtain ⟨rfl, rfl⟩ : d = d9 ∧ c = fzN (plN a (lst (Z8 (wsP p) a a.length) 0#64)) := by
    have h9 : (d9, fzN (plN a (lst (Z8 (wsP p) a a.length) 0#64))) :: t9 = (d, c) :: post := (by rw [← hT9]; exact hx)
    injection h9 with h1 h2; injection h1 with h3 h4; exact ⟨h3.symm, h4.symm⟩
   refine ZO (env' := u35) rfl ?_
   refine Za ?_
   refine Lo u35 (Zb (.inr rfl) rfl) ?_
   refine Ze ?_
   refine ⟨rfl, (g + (frm (kpB (wsP p) (Yq p)) (kpG p.users.toNat (wsP p) (Yq p)) (wsP p).length [] 0).1 + d, niS, false), rfl, ?_⟩
   try dsimp only
   refine Ym (H' := H.set y (gaB (g + (frm (kpB (wsP p) (Yq p)) (kpG p.users.toNat (wsP p) (Yq p)) (wsP p).length [] 0).1 + d)) ++ ([.dead, .cells [niS] true, .cells [.bool false] true, kb] ++ Lp)) (by simp) ?_
   refine Zi (Zd (Za ?_))
   refine Lo u35 (Zb (.inl rfl) rfl) ?_
   refine Lo u35 (W59 rfl rfl rfl rfl rfl rfl rfl) ?_
   refine Lo u35 (Yk (VVal.bool true) rfl rfl rfl rfl rfl rfl rfl XH34 XH5 (by exact ZP (List.length_set))) ?_
   refine Ze (Zc (Zl (ZA ?_)))
   refine ⟨(g + (frm (kpB (wsP p) (Yq p)) (kpG p.users.toNat (wsP p) (Yq p)) (wsP p).length [] 0).1 + d, fzN (plN a (lst (Z8 (wsP p) a a.length) 0#64)), true), [], (by simp; exact ⟨rfl, rfl⟩), .inr ⟨Code.ret, rfl, ⟨rfl, ?_⟩⟩⟩
   rfl
  ·intro s k hk hI J9
   obtain ⟨g8, v8, b8⟩ := s
   try dsimp only at hI ⊢
   exfalso
   obtain ⟨h8, _⟩ := hI
   rw [hT9] at h8; cases h8
  ·rintro j pre c post s k hk hx (⟨rfl, hX⟩) J9
   obtain ⟨g8, v8, b8⟩ := s
   try dsimp only
   obtain ⟨rfl, rfl, rfl⟩ : g8 = _ ∧ v8 = _ ∧ b8 = _ := by simpa using hX
   rw [List.append_assoc (H.set _ _)]
   refine J_ret ?_
   refine ZA (ZA (Zn (Z3 (ZA (Zn ?_)))))
   refine W5a (.inr rfl) (vres_cells2 rfl rfl rfl rfl rfl rfl rfl XH34 (by rfl) XH34 (by rfl)) ?_
   exact ⟨rfl, rfl⟩
 ·try simp only [qB, qN] at hc1
  exfalso; simp at hc1
abbrev u3 {a0 a1 a2 : VVal} : VEnv := a0 :: a1 :: a2 :: []
abbrev u14 {a0 a1 a2 a3 a4 a5 a6 a7 a8 a9 a10 a11 a12 a13 : VVal} : VEnv := a0 :: a1 :: a2 :: a3 :: a4 :: a5 :: a6 :: a7 :: a8 :: a9 :: a10 :: a11 :: a12 :: a13 :: []
theorem sLeast_spec {x : SW} (H : Zf) (y : Nat) (g : Gz) (hs : H[y]? = some (gaB g)) (p : Pb) (hp : PbL p) : F (psys x) 39 [.ptr (some (y, 0)), .agg (pbB p)] H fun v G => v = leT (leA p) ∧ G = H.set y (gaB (g + leG p)) := by
  by_cases hg : pck p = 0
  · cases hf : (frm (kpB (wsP p) (Yq p)) (kpG p.users.toNat (wsP p) (Yq p)) (wsP p).length [] 0).2 with
    | none =>
      refine (Least_none H y g hs p hp hg hf).mono ?_
      rintro v G ⟨rfl, rfl⟩
      rw [show leA p = none by unfold leA fdA; rw [if_pos hg, hf]; rfl, show leG p = (frm (kpB (wsP p) (Yq p)) (kpG p.users.toNat (wsP p) (Yq p)) (wsP p).length [] 0).1 by unfold leG fdG; rw [if_pos hg, hf]; exact Gz.add_zero _]
      exact ⟨rfl, rfl⟩
    | some a =>
      obtain ⟨_, _, _, _, hm⟩ := fnd_ok hf
      obtain ⟨d9, z9, hq⟩ := usT_fst hm
      refine (Least_some H y g hs p hp hg a hf d9 z9 hq).mono ?_
      rintro v G ⟨rfl, rfl⟩
      rw [show leA p = some (plN a (lst (Z8 (wsP p) a a.length) 0#64)) by unfold leA fdA; rw [if_pos hg, hf]; rfl, show leG p = (frm (kpB (wsP p) (Yq p)) (kpG p.users.toNat (wsP p) (Yq p)) (wsP p).length [] 0).1 + d9 by unfold leG fdG; rw [if_pos hg, hf]; simp only [hq]; rfl]
      exact ⟨rfl, by rw [Gz.assoc]⟩
  · refine (Least_bad H y g hs p hp hg).mono ?_
    rintro v G ⟨rfl, rfl⟩
    rw [show leA p = none from if_neg hg, show leG p = 0 from if_neg hg, Gz.add_zero, ← YQ hs]
    exact ⟨rfl, rfl⟩
theorem leT_can {o : Option (List Nat)} : ∃ l, leT o = .tuple [fzN l, .bool o.isSome] := by
  cases o with
  | none => exact ⟨[], rfl⟩
  | some l => exact ⟨l, rfl⟩
theorem sLeast_t {x : SW} (H : Zf) (y : Nat) (g : Gz) (hs : H[y]? = some (gaB g)) (p : Pb) (hp : PbL p) : F (psys x) 39 [.ptr (some (y, 0)), .agg (pbB p)] H fun v G => ∃ l, v = .tuple [fzN l, .bool (leA p).isSome] ∧ G = H.set y (gaB (g + leG p)) := by
  refine (sLeast_spec H y g hs p hp).mono ?_
  rintro v G ⟨rfl, rfl⟩
  obtain ⟨l, h⟩ := @leT_can (leA p)
  exact ⟨l, h, rfl⟩
theorem Can_spec {x : SW} (H : Zf) (y : Nat) (g : Gz) (hs : H[y]? = some (gaB g)) (p : Pb) (hp : PbL p) : F (psys x) 33 [.ptr (some (y, 0)), .agg (pbB p)] H fun v G => v = .bool (leA p).isSome ∧ G = H.set y (gaB (g + leG p)) := by
 refine Zt Tryd.func33 rfl u14 rfl ?_
 refine Zd (Za ?_)
 refine Lo u14 (ZH rfl rfl rfl) ?_
 refine Lo u14 (Zg (VVal.bool false) (.inr rfl) rfl) ?_
 refine Ze (Zc (Zd (Za ?_)))
 refine Lo u14 (Zb (.inl rfl) rfl) ?_
 refine Lo u14 (W11 rfl rfl rfl rfl rfl) ?_
 refine Zs rfl rfl rfl (by exact sLeast_t _ y g (Zo hs) p hp) ?_
 rintro _ _ ⟨l, rfl, rfl⟩; rw [Ya (ZF hs)]
 refine Le u14 ?_
 refine Lo u14 (Zb (.inl rfl) rfl) ?_
 refine Lo u14 (rfl) ?_
 refine Lo u14 (rfl) ?_
 refine Lo u14 (Zb (.inr rfl) rfl) ?_
 refine Lo u14 (Zb (.inr rfl) rfl) ?_
 refine Ze (Zc (Zd (Za ?_)))
 refine Lo u14 (Zb (.inl rfl) rfl) ?_
 refine Lo u14 (Zb (.inr rfl) rfl) ?_
 refine Ze (Zc (Zl ?_))
 refine W3e (.inr rfl) (Zh rfl rfl) ?_
 exact ⟨rfl, rfl⟩
theorem sNew_spec {x : SW} (H : Zf) : F (psys x) 31 [] H fun v G => v = .ptr (some (H.length, 0)) ∧ G = H ++ [gaB 0] := by
 refine Zt Tryd.func31 rfl u3 rfl ?_
 refine Zd (Za ?_)
 refine Lo u3 (Zg (VVal.ptr none) (.inr rfl) rfl) ?_
 refine Ze (Zc (Zd (Za ?_)))
 refine Lo u3 (rfl) ?_
 refine Lo u3 (ZH rfl rfl rfl) ?_
 refine Lo u3 (Zb (.inr rfl) rfl) ?_
 refine Ze (Zc (Zl ?_))
 refine YV (.inr rfl) (Zh rfl rfl) ?_
 exact ⟨rfl, rfl⟩
abbrev u26 {a0 a1 a2 a3 a4 a5 a6 a7 a8 a9 a10 a11 a12 a13 a14 a15 a16 a17 a18 a19 a20 a21 a22 a23 a24 a25 : VVal} : VEnv := a0 :: a1 :: a2 :: a3 :: a4 :: a5 :: a6 :: a7 :: a8 :: a9 :: a10 :: a11 :: a12 :: a13 :: a14 :: a15 :: a16 :: a17 :: a18 :: a19 :: a20 :: a21 :: a22 :: a23 :: a24 :: a25 :: []
theorem Cut_few {x : SW} (H : Zf) (p : Pb) (m : Nat) : F (psys x) 17 [.agg (pbB (fewP p m))] H fun v G => v = .agg (pbB (fewP p m)) ∧ G = H := by
  have := Cut_spec (x := x) H (fewP p m)
  rw [fewP_cut] at this; exact this
theorem kInts_spec {x : SW} (H : Zf) (l r : List (Int)) (h1 : l.length ≤ 1000000) : F (psys x) 25 [fzI l, fzI r] H fun v G => v = .bool (decide (l = r)) ∧ G = H := by
 refine Zt Tryd.func25 rfl u26 rfl ?_
 refine Zd (Za ?_)
 refine Lo u26 (Zg (VVal.bool false) (.inr rfl) rfl) ?_
 refine Ze (Zc (Zd (Zd (Za ?_))))
 refine Lo u26 (Zb (.inl rfl) rfl) ?_
 refine Lo u26 (rfl) ?_
 refine Lo u26 (Zb (.inl rfl) rfl) ?_
 refine Lo u26 (rfl) ?_
 refine Lo u26 (rfl) ?_
 refine Ze (Zc ?_)
 refine Zk _ rfl (fun hc1 => ?_) (fun hc1 => ?_)
 ·try simp only [qB, qN] at hc1
  refine Zd (Za ?_)
  refine Lo u26 (Zg (VVal.bool false) (.inr rfl) rfl) ?_
  refine Ze (Zc (Zl (Zn ?_)))
  refine W10 (.inr rfl) (Zh rfl rfl) ?_
  exact ⟨by rw [decide_eq_false (fun e => by rw [e] at hc1; omega)], rfl⟩
 ·try simp only [qB, qN] at hc1
  refine Zj (Zc (Zd (Zd (Za ?_))))
  refine Lo u26 (Zg (VVal.int .i64 0) (.inr rfl) rfl) ?_
  refine Ze (Zc (Zi ?_))
  refine Zu (mk 26 67108828) (env' := u26) rfl ?_
  refine Zx (fun (k : Nat) => l.length - k) (fun (k : Nat) => [(5, iI (k : Nat))]) (fun (k : Nat) G => (k ≤ l.length ∧ ∀ j, j < k → l.getD j 0 = r.getD j 0) ∧ G = H ++ []) 0 rfl ?_ ?_
  ·refine ⟨?_, rfl⟩
   exact ⟨Nat.zero_le _, fun j h => by omega⟩
  rintro k _ ⟨⟨hk, hall⟩, rfl⟩
  refine ZO (env' := u26) rfl ?_
  refine Zd (Zd (Za ?_))
  refine Lo u26 (Zb (.inl rfl) rfl) ?_
  refine Lo u26 (Zb (.inl rfl) rfl) ?_
  refine Lo u26 (rfl) ?_
  refine Lo u26 (rfl) ?_
  refine Ze (Zc ?_)
  refine Zk _ rfl (fun hc2 => ?_) (fun hc2 => ?_)
  ·try simp only [qB, qN] at hc2
   refine Zj (Zc (Zd (Zi (Zd ?_))))
   refine ZW [0, 1, 2, 3, 4, 5, 6, 7, 8] #[0, 0, 3, 7, 0, 0, 48, 112, 255] XH3 XH3 XH3 ?_
   refine Oo u26 .calm rfl (Zb (.inl rfl) rfl) ?_
   refine Oo u26 .calm rfl (Zb (.inl rfl) rfl) ?_
   refine Oo u26 .calm rfl (W18 rfl rfl rfl rfl rfl rfl rfl) ?_
   refine Oo u26 .look rfl (W21 rfl rfl rfl rfl) ?_
   refine Oo u26 .calm rfl (Zb (.inl rfl) rfl) ?_
   refine Oo u26 .calm rfl (Zb (.inl rfl) rfl) ?_
   refine Oo u26 .calm rfl (W18 rfl rfl rfl rfl rfl rfl rfl) ?_
   refine Oo u26 .look rfl (W21 rfl rfl rfl rfl) ?_
   refine Oo u26 .calm rfl (rfl) ?_
   refine ZQ [] XH3 (trivial) ?_
   refine Zc ?_
   refine Zk _ rfl (fun hc3 => ?_) (fun hc3 => ?_)
   ·try simp only [qB, qN] at hc3
    refine Zd (Za ?_)
    refine Lo u26 (Zg (VVal.bool false) (.inr rfl) rfl) ?_
    refine Ze (Zc (Zl (ZA (Zn (Z3 (ZA (Zn ?_)))))))
    refine W10 (.inr rfl) (Zh rfl rfl) ?_
    exact ⟨by rw [decide_eq_false (fun e => by subst e; exact hc3 rfl)], rfl⟩
   ·try simp only [qB, qN] at hc3
    refine Zj (Zy (Zc (Za ?_)))
    refine Lo u26 (Zb (.inl rfl) rfl) ?_
    refine Lo u26 (W14 rfl rfl rfl) ?_
    refine Lo u26 (Zb (.inr rfl) rfl) ?_
    refine Ze ?_
    refine Zw (mk 26 67108828) (env' := u26) rfl ⟨k + 1, ?_, rfl, ?_⟩
    ·first | omega | (simp only []; omega)
    ·exact ⟨⟨by omega, fun j hj => by by_cases e : j = k; (subst e; assumption); exact hall j (by omega)⟩, rfl⟩
  ·try simp only [qB, qN] at hc2
   refine ZD (ZB (Zv (ZC (Zc (Zd (Za ?_))))))
   refine Lo u26 (Zg (VVal.bool true) (.inr rfl) rfl) ?_
   refine Ze (Zc (Zl ?_))
   refine W10 (.inr rfl) (Zh rfl rfl) ?_
   have e := eq_getD (d := 0) (by omega) (fun j hj => hall j (by omega))
   exact ⟨by rw [decide_eq_true e], rfl⟩
theorem leT_ok {o : Option (List Nat)} {l : List Nat} {ok : Bool} (h : leT o = .tuple [fzN l, .bool ok]) : ok = o.isSome := by
  cases o with
  | none =>
    have h : VVal.tuple [fzN [], .bool false] = .tuple [fzN l, .bool ok] := h
    simp at h; simp [h]
  | some m =>
    have h : VVal.tuple [fzN m, .bool true] = .tuple [fzN l, .bool ok] := h
    simp at h; simp [h]
def z0P : Pb := (0, [], [], [], ())
def mpR (p : Pb) (rs : List Int) (k : Nat) : List Rul := ((List.range k).filter fun i => !inB rs i).map fun i => p.rules.getD i r0
theorem mpR_step {p : Pb} {rs : List Int} {k : Nat} : mpR p rs (k + 1) = mpR p rs k ++ if inB rs k = true then [] else [p.rules.getD k r0] := by
  unfold mpR
  rw [List.range_succ, List.filter_append, List.map_append]
  congr 1
  cases h : inB rs k <;> simp [h]
theorem mpR_len {p : Pb} {rs : List Int} {k : Nat} : (mpR p rs k).length ≤ k := by
  unfold mpR
  rw [List.length_map]
  exact Nat.le_trans (List.length_filter_le _ _) (by simp)
theorem mpR_mem {p : Pb} {rs : List Int} {r : Rul} : r ∈ mpR p rs p.rules.length ↔ ∃ k, k < p.rules.length ∧ inB rs k = false ∧ p.rules.getD k r0 = r := by
  unfold mpR
  rw [List.mem_map]
  constructor
  · rintro ⟨k, h1, h2⟩
    rw [List.mem_filter, List.mem_range] at h1
    exact ⟨k, h1.1, by simpa using h1.2, h2⟩
  · rintro ⟨k, h1, h2, h3⟩
    exact ⟨k, List.mem_filter.2 ⟨List.mem_range.2 h1, by rw [h2]; rfl⟩, h3⟩
def woE (p : Pb) (rs ss : List Int) : Int := if pck p ≠ 0 then pck p else if ltB rs p.rules.length = true ∧ ltB ss p.who.length = true then 0 else 1
def woQ (p : Pb) (rs ss : List Int) : Pb := (p.users, mpW p (inB ss), mpF p (inB ss), mpR p rs p.rules.length, ())
def woP (p : Pb) (rs ss : List Int) : Pb := if woE p rs ss = 0 then woQ p rs ss else z0P
theorem woE_ok {p : Pb} {rs ss : List Int} : woE p rs ss = 0 ↔ Go.V.Good p ∧ ltB rs p.rules.length = true ∧ ltB ss p.who.length = true := by
  unfold woE
  constructor
  · intro h
    split at h
    · rename_i h1; exact absurd h h1
    · rename_i h1
      split at h
      · rename_i h2; exact ⟨pck_good.1 (Decidable.of_not_not h1), h2⟩
      · cases h
  · rintro ⟨g, h2⟩
    rw [if_neg (fun e => e (pck_good.2 g)), if_pos h2]
theorem woP_ok {p : Pb} {rs ss : List Int} (h : woE p rs ss = 0) : woP p rs ss = woQ p rs ss := if_pos h
theorem woP_no {p : Pb} {rs ss : List Int} (h : ¬ woE p rs ss = 0) : woP p rs ss = z0P := if_neg h
theorem woQ_L {p : Pb} {rs ss : List Int} (h : PbL p) : PbL (woQ p rs ss) := by
  refine ⟨h.u, by show (mpW p _).length ≤ _; rw [YW]; exact h.w, by show (mpF p _).length ≤ _; rw [YX]; exact h.w, ?_, fun r hr => ?_⟩
  · exact Nat.le_trans mpR_len h.r
  · obtain ⟨k, h1, _, rfl⟩ := mpR_mem.1 hr
    exact h.s _ (Yy h1)
theorem woP_L {p : Pb} {rs ss : List Int} (h : PbL p) : PbL (woP p rs ss) := by
  by_cases e : woE p rs ss = 0
  · rw [woP_ok e]; exact woQ_L h
  · rw [woP_no e]; exact ⟨by decide, by decide, by decide, by decide, fun r hr => by cases hr⟩
abbrev u34 {a0 a1 a2 a3 a4 a5 a6 a7 a8 a9 a10 a11 a12 a13 a14 a15 a16 a17 a18 a19 a20 a21 a22 a23 a24 a25 a26 a27 a28 a29 a30 a31 a32 a33 : VVal} : VEnv := a0 :: a1 :: a2 :: a3 :: a4 :: a5 :: a6 :: a7 :: a8 :: a9 :: a10 :: a11 :: a12 :: a13 :: a14 :: a15 :: a16 :: a17 :: a18 :: a19 :: a20 :: a21 :: a22 :: a23 :: a24 :: a25 :: a26 :: a27 :: a28 :: a29 :: a30 :: a31 :: a32 :: a33 :: []
theorem W5m {S : V.Sys} {H : Zf} {fn : Func} {ex : Exit} {env : VEnv} {B L : Zf} {v : VVal} {R : VVal → Zf → Prop} (hx : ex = .normal ∨ ex = .ret) (hv : ZT S.C.T env (B ++ L) fn.results = some v) (h : R v B) (hB : BaseOk H B := by exact XH42) (hu : v.under H.length = true := by exact pb_under (p := p)) : fnK S fn H R ex env (B ++ L) := YZ hx hv hB hu h
theorem CloI_emp {x : SW} (H : Zf) : F (psys x) 110 [.slice none 0 0 false 0] H fun v G => v = .fsl [] 0 1 false ∧ G = H := by
 refine Zt Tryd.func110 rfl u8 rfl ?_
 refine Zd (Za ?_)
 refine Lo u8 (Zg (VVal.slice none 0 0 true 0) (.inr rfl) rfl) ?_
 refine Ze (Zc (Zd (Zd (Za ?_))))
 refine Lo u8 (Zb (.inl rfl) rfl) ?_
 refine Lo u8 (rfl) ?_
 refine Ze (Zc ?_)
 refine Z5 rfl rfl ?_
 refine Zj (Zc (Zd (Za ?_)))
 refine Lo u8 (Zr rfl rfl (by decide) rfl) ?_
 refine Lo u8 (Zb (.inl rfl) rfl) ?_
 refine Lo u8 (v_appIn rfl rfl rfl rfl rfl rfl rfl (ZJ rfl rfl) rfl rfl rfl rfl (by decide) (by decide) (by decide)) ?_
 refine L_heap (H' := H ++ [.cells [] true]) (by rw [ZP rfl]; rfl) ?_
 refine Lo u8 (Zb (.inr rfl) rfl) ?_
 refine Ze (Zc (Zl ?_))
 refine E_gh (.inr rfl) (Zh rfl rfl) (Gh.fsl (j := 0) (off := 0) (len := 0) (l := []) (BaseOk.refl _) rfl rfl (Nat.le_refl _) rfl) ?_
 exact ⟨rfl, rfl⟩
theorem CloI_c {x : SW} (H : Zf) (l : List Int) (hne : l ≠ []) (hl : l.length ≤ 1000000) : F (psys x) 110 [fzI l] H fun v G => v = .slice (some (H.length, 0)) l.length l.length (decide (l.length = 0)) 1 ∧ G = H ++ [.cells (l.map iI) true] := by
 refine Zt Tryd.func110 rfl u8 rfl ?_
 refine Zd (Za ?_)
 refine Lo u8 (Zg (VVal.slice none 0 0 true 0) (.inr rfl) rfl) ?_
 refine Ze (Zc (Zd (Zd (Za ?_))))
 refine Lo u8 (Zb (.inl rfl) rfl) ?_
 refine Lo u8 (v_eqNilC rfl rfl rfl rfl rfl (fun e => hne (List.eq_nil_of_length_eq_zero e))) ?_
 refine Ze (Zc ?_)
 refine Z5 rfl rfl ?_
 refine Zj (Zc (Zd (Za ?_)))
 refine Lo u8 (Zr rfl rfl (by decide) rfl) ?_
 refine Lo u8 (Zb (.inl rfl) rfl) ?_
 refine Yt rfl rfl (v_appE rfl rfl rfl rfl rfl rfl rfl rfl XH15 (mapI_one _) (by decide) (by show l.length * 8 ≤ _ ∧ l.length ≤ _; omega)) ?_
 rintro _ _ ⟨Z, i, rfl, rfl, hi⟩
 refine Le u8 ?_
 refine Lo u8 (Zb (.inr rfl) rfl) ?_
 refine Ze (Zc (Zl ?_))
 refine E_gh (.inr rfl) (Zh rfl rfl) (Gh.pack (BaseOk.refl _) hi (mapI_under _ _)) ?_
 exact ⟨rfl, rfl⟩
theorem CloWf {x : SW} (H : Zf) (l : List (BitVec 64)) (hl : l.length ≤ 1000000) : F (psys x) 103 [fzW l] H fun v G => v = fzW l ∧ G = H := by
  by_cases h : l = []
  · subst h; exact CloW_0 H
  · exact F.gh (CloW_c H l h hl) fun v G h => by
      obtain ⟨rfl, rfl⟩ := h
      exact ⟨_, _, Gh.fsl (j := 0) (BaseOk.refl H) rfl wApp_c (Nat.le_refl _) (Y5 _ _), rfl, rfl⟩
theorem CloIf {x : SW} (H : Zf) (l : List Int) (hl : l.length ≤ 1000000) : F (psys x) 110 [fzI l] H fun v G => v = fzI l ∧ G = H := by
  by_cases h : l = []
  · subst h; exact F_split0 (CloI_nil H) (CloI_emp H)
  · exact F.gh (CloI_c H l h hl) fun v G h => by
      obtain ⟨rfl, rfl⟩ := h
      exact ⟨_, _, Gh.fsl (j := 0) (BaseOk.refl H) rfl map_all (Nat.le_refl _) (mapI_under _ _), rfl, rfl⟩
theorem CloI_L {x : SW} (H L : Zf) (l : List Int) (hne : l ≠ []) (hl : l.length ≤ 1000000) : F (psys x) 110 [fzI l] (H ++ L) fun v G => v = .slice (some (H.length + L.length, 0)) l.length l.length (decide (l.length = 0)) 1 ∧ G = H ++ (L ++ [.cells (l.map iI) true]) := by
  have := CloI_c (x := x) (H ++ L) l hne hl
  rw [List.length_append, List.append_assoc] at this
  exact this
def CwR (H : Zf) (p : Pb) (v : VVal) (G : Zf) : Prop := ∃ Y j k, v = .agg [iI p.users, .slice (some (H.length + j, 0)) p.who.length p.who.length false 1, .slice (some (H.length + k, 0)) p.fixed.length p.fixed.length false 1, fzR p.rules] ∧ G = H ++ Y ∧ Y[j]? = some (.cells (p.who.map iW) true) ∧ Y[k]? = some (.cells (p.fixed.map iI) true) ∧ j ≠ k
theorem Copy_L {x : SW} (H : Zf) (p : Pb) (hp : PbL p) (hne : p.who ≠ []) (hnf : p.fixed ≠ []) : F (psys x) 69 [.agg (pbB p)] H (CwR H p) := by
 have h1 := hp.w; have h2 := hp.f; have h3 := hp.r; have h4 := hp.s
 have hd : decide (p.who.length = 0) = false := decide_eq_false fun e => hne (List.eq_nil_of_length_eq_zero e)
 have hd2 : decide (p.fixed.length = 0) = false := decide_eq_false fun e => hnf (List.eq_nil_of_length_eq_zero e)
 refine Zt Tryd.func69 rfl u34 rfl ?_
 refine Zd (Za ?_)
 refine Lo u34 (ZH rfl rfl rfl) ?_
 refine Lo u34 (ZG rfl rfl) ?_
 refine Ze (Zc (Zd ?_))
 refine ZY (Gh.freezePtrL (cs := pbB p) 1 0 rfl rfl rfl) ?_
 refine ZW [0, 1, 2, 3, 5, 6, 9, 4, 7, 8, 10] #[0, 1, 0, 4, 12, 0, 32, 124, 255, 0, 1023] XH3 XH3 XH3 ?_
 refine Oo u34 .calm rfl (rfl) ?_
 refine Yg (env' := u34) (x := .look _ _) rfl rfl rfl (W2r rfl rfl rfl rfl) rfl rfl rfl ?_
 refine Oo u34 .calm rfl (rfl) ?_
 refine Oo u34 .look rfl (W2r rfl rfl rfl rfl) ?_
 refine Oo u34 .calm rfl (rfl) ?_
 refine Yg (env' := u34) (x := .look _ _) rfl rfl rfl (W2r rfl rfl rfl rfl) rfl rfl rfl ?_
 refine Yg (env' := u34) (x := .grow _) rfl rfl rfl (ZG rfl rfl) rfl rfl rfl ?_
 refine Yb (env' := u34) rfl rfl rfl rfl rfl (by exact CloW_L _ _ _ hne h1) XH7 rfl rfl ?_
 refine Yb (env' := u34) rfl rfl rfl rfl rfl (by exact CloI_L _ _ _ hnf h2) XH7 rfl rfl ?_
 refine Oo u34 .calm rfl (rfl) ?_
 refine Oo u34 .turn rfl (W13 rfl rfl rfl rfl rfl rfl rfl) ?_
 refine ZQ [_, _, _, _, _] (by rfl) (And.intro (And.intro (W2r rfl rfl rfl rfl) (W2r rfl rfl rfl rfl)) (And.intro (And.intro (W2r rfl rfl rfl rfl) (W2r rfl rfl rfl rfl)) (And.intro (And.intro (W2r rfl rfl rfl rfl) (W2r rfl rfl rfl rfl)) (And.intro ((by simp [V.fine])) (And.intro ((by simp [V.fine])) trivial))))) ?_
 refine Zc (Zd (Zd (Za ?_)))
 refine Lo u34 (rfl) ?_
 refine Lo u34 (W2r rfl rfl rfl rfl) ?_
 refine Lo u34 (rfl) ?_
 refine Lo u34 (Zg (VVal.int .i64 0) (.inl rfl) rfl) ?_
 refine Ze (Zc (Zi ?_))
 refine Zu (mk 34 17179410419) (env' := u34) rfl ?_
 refine Zx (fun (k : Nat) => p.rules.length - k) (fun (k : Nat) => [(18, iI (k : Nat))]) (fun (k : Nat) G => (k ≤ p.rules.length) ∧ ∃ lv X, G = (H ++ [.dead, pqB 0 Yn Yn Yn, .cells [iI p.users, .slice (some (H.length + 3, 0)) p.who.length p.who.length (decide (p.who.length = 0)) 1, .slice (some (H.length + 4, 0)) p.fixed.length p.fixed.length (decide (p.fixed.length = 0)) 1, lv] true, .cells (p.who.map iW) true, .cells (p.fixed.map iI) true]) ++ X ∧ LV (H.length + 5) 3 X lv ((p.rules.take k).flatMap rlB) (p.rules.take k).length) 0 rfl ?_ ?_
 ·refine ⟨?_, ⟨_, [], by rw [List.append_nil]; rfl, LV.nil _ _ _⟩⟩
  exact Nat.zero_le _
 rintro k _ ⟨hk, ⟨lv, X, rfl, hl⟩⟩
 refine ZO (env' := u34) rfl ?_
 refine Zd (Za ?_)
 refine Lo u34 (rfl) ?_
 refine Ze (Zc (Zd ?_))
 refine Zk _ rfl (fun hc1 => ?_) (fun hc1 => ?_)
 ·try simp only [qB, qN] at hc1
  refine Zj (Zc (Zd (Zi (Zd (Za ?_)))))
  refine Lo u34 (W18 rfl rfl rfl rfl rfl rfl rfl) ?_
  refine Lo u34 (W2p rfl rfl rfl rfl rfl) ?_
  refine Lo u34 (ZG rfl rfl) ?_
  refine Lo u34 (W13 rfl rfl rfl rfl rfl rfl rfl) ?_
  refine Ze (Zc (Zd (Za ?_)))
  refine Lo u34 (rfl) ?_
  refine Lo u34 (W2r rfl rfl rfl rfl) ?_
  refine Zs rfl rfl rfl (by exact CloIf _ _ (h4 _ (Yy (by omega)))) ?_
  rintro _ _ ⟨rfl, rfl⟩
  refine Le u34 ?_
  refine Lo u34 (rfl) ?_
  refine Lo u34 (W13 rfl rfl rfl rfl rfl rfl rfl) ?_
  refine Ze (Zc (Za ?_))
  refine Lo u34 (rfl) ?_
  refine Lo u34 (W2r rfl rfl rfl rfl) ?_
  refine Lo u34 (W2p rfl rfl rfl rfl rfl) ?_
  refine Lo u34 (Zr rfl rfl (by decide) rfl) ?_
  refine Yt rfl rfl (Ys rfl rfl rfl rfl rfl rfl rfl (by simp) (hl.app _) rfl rfl (by decide) XH26 (by decide)) ?_
  rintro _ _ ⟨Y1, rfl, rfl, hY1, hY2, hY3⟩
  refine Le u34 ?_
  refine Lo u34 (rfl) ?_
  refine Lo u34 (W13 rfl rfl rfl rfl rfl rfl rfl) ?_
  refine Ze (Zy (Zc (Za ?_)))
  refine Lo u34 (W14 rfl rfl rfl) ?_
  refine Lo u34 (Zb (.inl rfl) rfl) ?_
  refine Ze ?_
  refine Zw (mk 34 17179410419) (env' := u34) rfl ⟨k + 1, ?_, rfl, ?_⟩
  ·first | omega | (simp only []; omega)
  ·exact ⟨by omega, _, _, rfl, by rw [Yc (d := r0) (by omega)]; exact LV.pushF hY3⟩
 ·try simp only [qB, qN] at hc1
  refine ZD (ZB (Zv (ZC (Zc (Zd ?_)))))
  obtain rfl : k = p.rules.length := by omega
  rw [List.take_length] at hl
  refine YD 2 3 hl rfl rfl (by simp) fun X5 _ _ => ?_
  refine Ym (List.append_assoc _ _ _) ?_
  refine Za ?_
  refine Lo u34 (W2p rfl rfl rfl rfl rfl) ?_
  refine Lo u34 (W13 rfl rfl rfl rfl rfl rfl rfl) ?_
  refine Ze (Zc (Zl ?_))
  refine YV (.inr rfl) (Yr rfl rfl rfl rfl XH0 XH6) ?_
  exact ⟨_, 3, 4, (show VVal.agg [iI p.users, .slice (some (H.length + 3, 0)) p.who.length p.who.length (decide (p.who.length = 0)) 1, .slice (some (H.length + 4, 0)) p.fixed.length p.fixed.length (decide (p.fixed.length = 0)) 1, fzR p.rules] = _ from by rw [hd, hd2]), rfl, rfl, rfl, by decide⟩
theorem Copy_F {x : SW} (H : Zf) (p : Pb) (hp : PbL p) : F (psys x) 69 [.agg (pbB p)] H fun v G => v = .agg (pbB p) ∧ G = H := by
 have h1 := hp.w; have h2 := hp.f; have h3 := hp.r; have h4 := hp.s
 refine Zt Tryd.func69 rfl u34 rfl ?_
 refine Zd (Za ?_)
 refine Lo u34 (ZH rfl rfl rfl) ?_
 refine Lo u34 (ZG rfl rfl) ?_
 refine Ze (Zc (Zd ?_))
 refine ZY (Gh.freezePtrL (cs := pbB p) 1 0 rfl rfl rfl) ?_
 refine ZW [0, 1, 2, 3, 5, 6, 9, 4, 7, 8, 10] #[0, 1, 0, 4, 12, 0, 32, 124, 255, 0, 1023] XH3 XH3 XH3 ?_
 refine Oo u34 .calm rfl (rfl) ?_
 refine Yg (env' := u34) (x := .look _ _) rfl rfl rfl (W2r rfl rfl rfl rfl) rfl rfl rfl ?_
 refine Oo u34 .calm rfl (rfl) ?_
 refine Oo u34 .look rfl (W2r rfl rfl rfl rfl) ?_
 refine Oo u34 .calm rfl (rfl) ?_
 refine Yg (env' := u34) (x := .look _ _) rfl rfl rfl (W2r rfl rfl rfl rfl) rfl rfl rfl ?_
 refine Yg (env' := u34) (x := .grow _) rfl rfl rfl (ZG rfl rfl) rfl rfl rfl ?_
 refine Yb (env' := u34) rfl rfl rfl rfl rfl (by exact CloWf _ _ h1) XH7 rfl rfl ?_
 refine Yb (env' := u34) rfl rfl rfl rfl rfl (by exact CloIf _ _ h2) XH7 rfl rfl ?_
 refine Oo u34 .calm rfl (rfl) ?_
 refine Oo u34 .turn rfl (W13 rfl rfl rfl rfl rfl rfl rfl) ?_
 refine ZQ [_, _, _, _, _] (by rfl) (And.intro (And.intro (W2r rfl rfl rfl rfl) (W2r rfl rfl rfl rfl)) (And.intro (And.intro (W2r rfl rfl rfl rfl) (W2r rfl rfl rfl rfl)) (And.intro (And.intro (W2r rfl rfl rfl rfl) (W2r rfl rfl rfl rfl)) (And.intro ((by simp [V.fine])) (And.intro ((by simp [V.fine])) trivial))))) ?_
 refine Zc (Zd (Zd (Za ?_)))
 refine Lo u34 (rfl) ?_
 refine Lo u34 (W2r rfl rfl rfl rfl) ?_
 refine Lo u34 (rfl) ?_
 refine Lo u34 (Zg (VVal.int .i64 0) (.inl rfl) rfl) ?_
 refine Ze (Zc (Zi ?_))
 refine Zu (mk 34 17179410419) (env' := u34) rfl ?_
 refine Zx (fun (k : Nat) => p.rules.length - k) (fun (k : Nat) => [(18, iI (k : Nat))]) (fun (k : Nat) G => (k ≤ p.rules.length) ∧ ∃ lv X, G = (H ++ [.dead, pqB 0 Yn Yn Yn, .cells [iI p.users, fzW p.who, fzI p.fixed, lv] true]) ++ X ∧ LV (H.length + 3) 3 X lv ((p.rules.take k).flatMap rlB) (p.rules.take k).length) 0 rfl ?_ ?_
 ·refine ⟨?_, ⟨_, [], by rw [List.append_nil]; rfl, LV.nil _ _ _⟩⟩
  exact Nat.zero_le _
 rintro k _ ⟨hk, ⟨lv, X, rfl, hl⟩⟩
 refine ZO (env' := u34) rfl ?_
 refine Zd (Za ?_)
 refine Lo u34 (rfl) ?_
 refine Ze (Zc (Zd ?_))
 refine Zk _ rfl (fun hc1 => ?_) (fun hc1 => ?_)
 ·try simp only [qB, qN] at hc1
  refine Zj (Zc (Zd (Zi (Zd (Za ?_)))))
  refine Lo u34 (W18 rfl rfl rfl rfl rfl rfl rfl) ?_
  refine Lo u34 (W2p rfl rfl rfl rfl rfl) ?_
  refine Lo u34 (ZG rfl rfl) ?_
  refine Lo u34 (W13 rfl rfl rfl rfl rfl rfl rfl) ?_
  refine Ze (Zc (Zd (Za ?_)))
  refine Lo u34 (rfl) ?_
  refine Lo u34 (W2r rfl rfl rfl rfl) ?_
  refine Zs rfl rfl rfl (by exact CloIf _ _ (h4 _ (Yy (by omega)))) ?_
  rintro _ _ ⟨rfl, rfl⟩
  refine Le u34 ?_
  refine Lo u34 (rfl) ?_
  refine Lo u34 (W13 rfl rfl rfl rfl rfl rfl rfl) ?_
  refine Ze (Zc (Za ?_))
  refine Lo u34 (rfl) ?_
  refine Lo u34 (W2r rfl rfl rfl rfl) ?_
  refine Lo u34 (W2p rfl rfl rfl rfl rfl) ?_
  refine Lo u34 (Zr rfl rfl (by decide) rfl) ?_
  refine Yt rfl rfl (Ys rfl rfl rfl rfl rfl rfl rfl (by simp) (hl.app _) rfl rfl (by decide) XH26 (by decide)) ?_
  rintro _ _ ⟨Y1, rfl, rfl, hY1, hY2, hY3⟩
  refine Le u34 ?_
  refine Lo u34 (rfl) ?_
  refine Lo u34 (W13 rfl rfl rfl rfl rfl rfl rfl) ?_
  refine Ze (Zy (Zc (Za ?_)))
  refine Lo u34 (W14 rfl rfl rfl) ?_
  refine Lo u34 (Zb (.inl rfl) rfl) ?_
  refine Ze ?_
  refine Zw (mk 34 17179410419) (env' := u34) rfl ⟨k + 1, ?_, rfl, ?_⟩
  ·first | omega | (simp only []; omega)
  ·exact ⟨by omega, _, _, rfl, by rw [Yc (d := r0) (by omega)]; exact LV.pushF hY3⟩
 ·try simp only [qB, qN] at hc1
  refine ZD (ZB (Zv (ZC (Zc (Zd ?_)))))
  obtain rfl : k = p.rules.length := by omega
  rw [List.take_length] at hl
  refine YD 2 3 hl rfl rfl (by simp) fun X5 _ _ => ?_
  refine Ym (List.append_assoc _ _ _) ?_
  refine Za ?_
  refine Lo u34 (W2p rfl rfl rfl rfl rfl) ?_
  refine Lo u34 (W13 rfl rfl rfl rfl rfl rfl rfl) ?_
  refine Ze (Zc (Zl ?_))
  refine W5m (.inr rfl) (Yr rfl rfl rfl rfl XH0 XH6) ?_
  exact ⟨rfl, rfl⟩
abbrev u11 {a0 a1 a2 a3 a4 a5 a6 a7 a8 a9 a10 : VVal} : VEnv := a0 :: a1 :: a2 :: a3 :: a4 :: a5 :: a6 :: a7 :: a8 :: a9 :: a10 :: []
abbrev u19 {a0 a1 a2 a3 a4 a5 a6 a7 a8 a9 a10 a11 a12 a13 a14 a15 a16 a17 a18 : VVal} : VEnv := a0 :: a1 :: a2 :: a3 :: a4 :: a5 :: a6 :: a7 :: a8 :: a9 :: a10 :: a11 :: a12 :: a13 :: a14 :: a15 :: a16 :: a17 :: a18 :: []
theorem W5o {P : Prop} (h : P := by first | exact ⟨⟨_, rfl, by rw [inB_hit (k := k) (by omega) (by omega)]; exact decide_eq_true (by omega)⟩, rfl⟩ | (rw [List.take_of_length_le (by omega)] at hi; exact ⟨⟨_, rfl, by rw [hi]; rfl⟩, rfl⟩)) : P := h
theorem W5q {P : Prop} (h : P := by first | exact ⟨congrArg VVal.bool (by simp; omega), rfl⟩ | exact ⟨congrArg VVal.bool (by rw [Bool.eq_iff_iff]; simp; omega), rfl⟩) : P := h
theorem W5r {T : TypeId → Option VTy} {H : Zf} {op : Op} {ρ : Operand → VVal} {t : TypeId} {a : Operand} {y : VTy} {p v : VVal} (ho : op = .load t a) (ha : ρ a = p) (hy : T t = some y) (hd : Zm y.desc = false) (h : LdOk H p v := by first | exact .inl ⟨_, _, rfl, XH38⟩ | exact .inr ⟨_, _, _, _, rfl, by exact Zo hb, XH38⟩) : vop T ρ H op = some (v, H) := Yu ho ha hy hd h
theorem W5s {P : Prop} (h : P := by first | exact ⟨⟨_, rfl, by rw [ltB_bad (k := k) (by omega) (by have h9 := hc2; simp at h9; omega)]; exact decide_eq_true (by omega)⟩, rfl⟩ | (rw [List.take_of_length_le (by omega)] at hi; exact ⟨⟨_, rfl, by rw [hi]; rfl⟩, rfl⟩)) : P := h
theorem W5v {P : Prop} (h : P := by first | exact ⟨by rw [inB_hit (k := k) (by omega) (by omega)], rfl⟩ | (rw [List.take_of_length_le (by omega)] at hi; exact ⟨by rw [hi], rfl⟩)) : P := h
theorem inB_step' {l : List Int} {k n : Nat} (h : k < l.length) : inB (l.take (k + 1)) n = (inB (l.take k) n || decide (l.getD k 0 = (n : Int))) := by
  rw [Yc (d := 0) h, inB_app, inB_one]
theorem inB_hit {l : List Int} {k n : Nat} (h : k < l.length) (e : l.getD k 0 = (n : Int)) : inB l n = true := by
  rw [inB_mem, ← e, List.getD_eq_getElem?_getD, List.getElem?_eq_getElem h]; exact List.getElem_mem h
theorem ltB_step {l : List Int} {k n : Nat} (h : k < l.length) : ltB (l.take (k + 1)) n = (ltB (l.take k) n && decide (0 ≤ l.getD k 0 ∧ l.getD k 0 < (n : Int))) := by
  rw [Yc (d := 0) h, ltB_app, ltB_one]
theorem ltB_bad {l : List Int} {k n : Nat} (h : k < l.length) (e : ¬ (0 ≤ l.getD k 0 ∧ l.getD k 0 < (n : Int))) : ltB l n = false := by
  rw [Bool.eq_false_iff]; intro h2
  refine e (ltB_mem.1 h2 _ ?_)
  rw [List.getD_eq_getElem?_getD, List.getElem?_eq_getElem h]; exact List.getElem_mem h
theorem ltB_at {l : List Int} {n k : Nat} (h : ltB l n = true) (hk : k < l.length) : ∃ i : Nat, l.getD k 0 = (i : Int) ∧ i < n := by
  have := ltB_mem.1 h (l.getD k 0) (by rw [List.getD_eq_getElem?_getD, List.getElem?_eq_getElem hk]; exact List.getElem_mem hk)
  exact ⟨(l.getD k 0).toNat, by omega, by omega⟩
theorem Index_spec {x : SW} (H : Zf) (rv : VVal) (l : List Int) (n : Nat) (hr : RD H rv l) (hn : l.length ≤ 1000000) : F (psys x) 111 [rv, iI (n : Nat)] H fun v G => (∃ r : Int, v = iI r ∧ decide (0 ≤ r) = inB l n) ∧ G = H := by
 refine Zt Tryd.func111 rfl u19 rfl ?_
 refine Zd (Za ?_)
 refine Lo u19 (Zg (VVal.int .i64 0) (.inr rfl) rfl) ?_
 refine Ze (Zc (Zd (Zd (Za ?_))))
 refine Lo u19 (Zb (.inl rfl) rfl) ?_
 refine Lo u19 (v_lenD rfl rfl rfl rfl hr) ?_
 refine Lo u19 (Zg (VVal.int .i64 0) (.inl rfl) rfl) ?_
 refine Ze (Zc (Zi ?_))
 refine Zu (mk 19 523900) (env' := u19) rfl ?_
 refine Zx (fun (k : Nat) => l.length - k) (fun (k : Nat) => [(8, iI (k : Nat))]) (fun (k : Nat) G => (k ≤ l.length ∧ inB (l.take k) n = false) ∧ G = H ++ []) 0 rfl ?_ ?_
 ·refine ⟨?_, rfl⟩
  exact ⟨Nat.zero_le _, rfl⟩
 rintro k _ ⟨⟨hk, hi⟩, rfl⟩
 refine ZO (env' := u19) rfl ?_
 refine Zd (Za ?_)
 refine Lo u19 (rfl) ?_
 refine Ze (Zc (Zd ?_))
 refine Zk _ rfl (fun hc1 => ?_) (fun hc1 => ?_)
 ·try simp only [qB, qN] at hc1
  refine Zj (Zc (Zd (Zi (Zd (Za ?_)))))
  refine Lo u19 (Zb (.inl rfl) rfl) ?_
  refine Lo u19 (Zb (.inr rfl) rfl) ?_
  refine Ze (Zc (Zd (Za ?_)))
  refine Lo u19 (Zb (.inl rfl) rfl) ?_
  refine Lo u19 (Zb (.inl rfl) rfl) ?_
  refine Lo u19 (Zb (.inl rfl) rfl) ?_
  refine Yt rfl rfl (v_ixD rfl rfl rfl rfl rfl rfl rfl hr (by omega) _) ?_
  rintro w _ ⟨rfl, hw⟩
  refine Le u19 ?_
  refine Lo u19 (Yu rfl rfl rfl rfl hw.app) ?_
  refine Lo u19 (rfl) ?_
  refine Ze (Zc ?_)
  refine Zk _ rfl (fun hc2 => ?_) (fun hc2 => ?_)
  ·try simp only [qB, qN] at hc2
   refine Zd (Za ?_)
   refine Lo u19 (Zb (.inl rfl) rfl) ?_
   refine Lo u19 (Zb (.inr rfl) rfl) ?_
   refine Ze (Zc (Zl (ZA (Zn (Z3 (ZA (Zn ?_)))))))
   refine W10 (.inr rfl) (Zh rfl rfl) ?_
   exact W5o
  ·try simp only [qB, qN] at hc2
   refine Zj (Zy (Zc (Za ?_)))
   refine Lo u19 (W14 rfl rfl rfl) ?_
   refine Lo u19 (Zb (.inl rfl) rfl) ?_
   refine Ze ?_
   refine Zw (mk 19 523900) (env' := u19) rfl ⟨k + 1, ?_, rfl, ?_⟩
   ·first | omega | (simp only []; omega)
   ·exact ⟨⟨by omega, by rw [inB_step' (by omega), hi, decide_eq_false (by omega)]; rfl⟩, rfl⟩
 ·try simp only [qB, qN] at hc1
  refine ZD (ZB (Zv (ZC (Zc (Zd (Za ?_))))))
  refine Lo u19 (Zg (VVal.int .i64 (-1)) (.inr rfl) rfl) ?_
  refine Ze (Zc (Zl ?_))
  refine W10 (.inr rfl) (Zh rfl rfl) ?_
  exact W5o
theorem Contains_spec {x : SW} (H : Zf) (rv : VVal) (l : List Int) (n : Nat) (hr : RD H rv l) (hn : l.length ≤ 1000000) : F (psys x) 70 [rv, iI (n : Nat)] H fun v G => v = .bool (inB l n) ∧ G = H := by
 refine Zt Tryd.func70 rfl u9 rfl ?_
 refine Zd (Za ?_)
 refine Lo u9 (Zg (VVal.bool false) (.inr rfl) rfl) ?_
 refine Ze (Zc (Zd (Za ?_)))
 refine Lo u9 (Zb (.inl rfl) rfl) ?_
 refine Lo u9 (Zb (.inl rfl) rfl) ?_
 refine Zs rfl rfl rfl (by exact Index_spec _ rv l n (hr.app _) hn) ?_
 rintro _ _ ⟨⟨r, rfl, hd⟩, rfl⟩
 refine Le u9 ?_
 refine Lo u9 (rfl) ?_
 refine Lo u9 (Zb (.inr rfl) rfl) ?_
 refine Ze (Zc (Zl ?_))
 refine W10 (.inr rfl) (Zh rfl rfl) ?_
 exact ⟨by rw [← hd], rfl⟩
theorem within1_spec {x : SW} (H : Zf) (b n : Nat) (hb : H[b]? = some (.cells [iI (n : Nat)] true)) (i : Int) : F (psys x) 109 [iI i, .ptr (some (b, 0))] H fun v G => v = .bool (!decide (0 ≤ i ∧ i < (n : Int))) ∧ G = H := by
 refine Zt Tryd.func109 rfl u11 rfl ?_
 refine Zd (Za ?_)
 refine Lo u11 (Zg (VVal.bool false) (.inr rfl) rfl) ?_
 refine Ze (Zc (Zd (Za ?_)))
 refine Lo u11 (Zb (.inl rfl) rfl) ?_
 refine Lo u11 (rfl) ?_
 refine Lo u11 (Zb (.inl rfl) rfl) ?_
 refine ZK 6 (env1 := u11) (env2 := u11) rfl rfl rfl (fun hg1 => ?_) (fun hg1 => ?_)
 ·try simp only [qB, qN] at hg1
  refine Lf u11 ?_
  refine Lf u11 ?_
  refine Lf u11 ?_
  refine Lo u11 (ZN (VVal.bool true) rfl rfl rfl) ?_
  refine Lo u11 (Zb (.inr rfl) rfl) ?_
  refine Ze (Zc (Zl ?_))
  refine W10 (.inr rfl) (Zh rfl rfl) ?_
  exact W5q
 ·try simp only [qB, qN] at hg1
  refine Lo u11 (Zb (.inl rfl) rfl) ?_
  refine Lo u11 (W5r rfl rfl rfl rfl) ?_
  refine Lo u11 (rfl) ?_
  refine Lo u11 (ZX rfl rfl rfl) ?_
  refine Lo u11 (Zb (.inr rfl) rfl) ?_
  refine Ze (Zc (Zl ?_))
  refine W10 (.inr rfl) (Zh rfl rfl) ?_
  exact W5q
theorem IndexFunc_spec {x : SW} (H : Zf) (rv : VVal) (l : List Int) (b n : Nat) (hb : H[b]? = some (.cells [iI (n : Nat)] true)) (hr : RD H rv l) (hn : l.length ≤ 1000000) : F (psys x) 137 [rv, .func 109 [] [.ptr (some (b, 0))]] H fun v G => (∃ r : Int, v = iI r ∧ decide (0 ≤ r) = !ltB l n) ∧ G = H := by
 refine Zt Tryd.func137 rfl u19 rfl ?_
 refine Zd (Za ?_)
 refine Lo u19 (Zg (VVal.int .i64 0) (.inr rfl) rfl) ?_
 refine Ze (Zc (Zd (Zd (Za ?_))))
 refine Lo u19 (Zb (.inl rfl) rfl) ?_
 refine Lo u19 (v_lenD rfl rfl rfl rfl hr) ?_
 refine Lo u19 (Zg (VVal.int .i64 0) (.inl rfl) rfl) ?_
 refine Ze (Zc (Zi ?_))
 refine Zu (mk 19 523900) (env' := u19) rfl ?_
 refine Zx (fun (k : Nat) => l.length - k) (fun (k : Nat) => [(8, iI (k : Nat))]) (fun (k : Nat) G => (k ≤ l.length ∧ ltB (l.take k) n = true) ∧ G = H ++ []) 0 rfl ?_ ?_
 ·refine ⟨?_, rfl⟩
  exact ⟨Nat.zero_le _, rfl⟩
 rintro k _ ⟨⟨hk, hi⟩, rfl⟩
 refine ZO (env' := u19) rfl ?_
 refine Zd (Za ?_)
 refine Lo u19 (rfl) ?_
 refine Ze (Zc (Zd ?_))
 refine Zk _ rfl (fun hc1 => ?_) (fun hc1 => ?_)
 ·try simp only [qB, qN] at hc1
  refine Zj (Zc (Zd (Zi (Zd (Za ?_)))))
  refine Lo u19 (Zb (.inl rfl) rfl) ?_
  refine Lo u19 (Zb (.inr rfl) rfl) ?_
  refine Ze (Zc (Zd (Za ?_)))
  refine Lo u19 (Zb (.inl rfl) rfl) ?_
  refine Lo u19 (Zb (.inl rfl) rfl) ?_
  refine Lo u19 (Zb (.inl rfl) rfl) ?_
  refine Yt rfl rfl (v_ixD rfl rfl rfl rfl rfl rfl rfl hr (by omega) _) ?_
  rintro w _ ⟨rfl, hw⟩
  refine Le u19 ?_
  refine Lo u19 (Yu rfl rfl rfl rfl hw.app) ?_
  refine Zs rfl rfl rfl (by exact within1_spec _ b n (Zo hb) (l.getD k 0)) ?_
  rintro _ _ ⟨rfl, rfl⟩
  refine Le u19 ?_
  refine Ze (Zc ?_)
  refine Zk _ rfl (fun hc2 => ?_) (fun hc2 => ?_)
  ·try simp only [qB, qN] at hc2
   refine Zd (Za ?_)
   refine Lo u19 (Zb (.inl rfl) rfl) ?_
   refine Lo u19 (Zb (.inr rfl) rfl) ?_
   refine Ze (Zc (Zl (ZA (Zn (Z3 (ZA (Zn ?_)))))))
   refine W10 (.inr rfl) (Zh rfl rfl) ?_
   exact W5s
  ·try simp only [qB, qN] at hc2
   refine Zj (Zy (Zc (Za ?_)))
   refine Lo u19 (W14 rfl rfl rfl) ?_
   refine Lo u19 (Zb (.inl rfl) rfl) ?_
   refine Ze ?_
   refine Zw (mk 19 523900) (env' := u19) rfl ⟨k + 1, ?_, rfl, ?_⟩
   ·first | omega | (simp only []; omega)
   ·exact ⟨⟨by omega, by rw [ltB_step (by omega), hi, decide_eq_true (by have h9 := hc2; simp at h9; omega)]; rfl⟩, rfl⟩
 ·try simp only [qB, qN] at hc1
  refine ZD (ZB (Zv (ZC (Zc (Zd (Za ?_))))))
  refine Lo u19 (Zg (VVal.int .i64 (-1)) (.inr rfl) rfl) ?_
  refine Ze (Zc (Zl ?_))
  refine W10 (.inr rfl) (Zh rfl rfl) ?_
  exact W5s
theorem ContainsFunc_spec {x : SW} (H : Zf) (rv : VVal) (l : List Int) (b n : Nat) (hb : H[b]? = some (.cells [iI (n : Nat)] true)) (hr : RD H rv l) (hn : l.length ≤ 1000000) : F (psys x) 108 [rv, .func 109 [] [.ptr (some (b, 0))]] H fun v G => v = .bool (!ltB l n) ∧ G = H := by
 refine Zt Tryd.func108 rfl u9 rfl ?_
 refine Zd (Za ?_)
 refine Lo u9 (Zg (VVal.bool false) (.inr rfl) rfl) ?_
 refine Ze (Zc (Zd (Za ?_)))
 refine Lo u9 (Zb (.inl rfl) rfl) ?_
 refine Lo u9 (Zb (.inl rfl) rfl) ?_
 refine Zs rfl rfl rfl (by exact IndexFunc_spec _ rv l b n (Zo hb) (hr.app _) hn) ?_
 rintro _ _ ⟨⟨r, rfl, hd⟩, rfl⟩
 refine Le u9 ?_
 refine Lo u9 (rfl) ?_
 refine Lo u9 (Zb (.inr rfl) rfl) ?_
 refine Ze (Zc (Zl ?_))
 refine W10 (.inr rfl) (Zh rfl rfl) ?_
 exact ⟨by rw [← hd], rfl⟩
theorem cwithin_spec {x : SW} (H : Zf) (rv : VVal) (l : List Int) (n : Nat) (hr : RD H rv l) (hn : l.length ≤ 1000000) : F (psys x) 68 [rv, iI (n : Nat)] H fun v G => v = .bool (ltB l n) ∧ G = H := by
 refine Zt Tryd.func68 rfl u9 rfl ?_
 refine Zd (Za ?_)
 refine Lo u9 (ZH rfl rfl rfl) ?_
 refine Lo u9 (Zg (VVal.bool false) (.inr rfl) rfl) ?_
 refine Ze (Zc (Zd (Za ?_)))
 refine Lo u9 (Zb (.inl rfl) rfl) ?_
 refine Lo u9 (v_func [_] rfl rfl) ?_
 refine Zs rfl rfl rfl (by exact ContainsFunc_spec _ rv l H.length n YL (hr.app _) hn) ?_
 rintro _ _ ⟨rfl, rfl⟩
 refine Le u9 ?_
 refine Lo u9 (rfl) ?_
 refine Lo u9 (Zb (.inr rfl) rfl) ?_
 refine Ze (Zc (Zl ?_))
 refine W10 (.inr rfl) (Zh rfl rfl) ?_
 exact ⟨by rw [Bool.not_not], rfl⟩
theorem fin_spec {x : SW} (H : Zf) (l : List Int) (n : Nat) (hn : l.length ≤ 1000000) : F (psys x) 73 [fzI l, iI (n : Nat)] H fun v G => v = .bool (inB l n) ∧ G = H := by
 refine Zt Tryd.func73 rfl u18 rfl ?_
 refine Zd (Za ?_)
 refine Lo u18 (Zg (VVal.bool false) (.inr rfl) rfl) ?_
 refine Ze (Zc (Zd (Zd (Za ?_))))
 refine Lo u18 (Zg (VVal.int .i64 0) (.inr rfl) rfl) ?_
 refine Ze (Zc (Zi ?_))
 refine Zu (mk 18 262108) (env' := u18) rfl ?_
 refine Zx (fun (k : Nat) => l.length - k) (fun (k : Nat) => [(5, iI (k : Nat))]) (fun (k : Nat) G => (k ≤ l.length ∧ inB (l.take k) n = false) ∧ G = H ++ []) 0 rfl ?_ ?_
 ·refine ⟨?_, rfl⟩
  exact ⟨Nat.zero_le _, rfl⟩
 rintro k _ ⟨⟨hk, hi⟩, rfl⟩
 refine ZO (env' := u18) rfl ?_
 refine Zd (Zd (Za ?_))
 refine Lo u18 (Zb (.inl rfl) rfl) ?_
 refine Lo u18 (Zb (.inl rfl) rfl) ?_
 refine Lo u18 (rfl) ?_
 refine Lo u18 (rfl) ?_
 refine Ze (Zc ?_)
 refine Zk _ rfl (fun hc1 => ?_) (fun hc1 => ?_)
 ·try simp only [qB, qN] at hc1
  refine Zj (Zc (Zd (Zi (Zd (Za ?_)))))
  refine Lo u18 (Zb (.inl rfl) rfl) ?_
  refine Lo u18 (Zb (.inl rfl) rfl) ?_
  refine Lo u18 (W18 rfl rfl rfl rfl rfl rfl rfl) ?_
  refine Lo u18 (W1f rfl rfl rfl rfl) ?_
  refine Lo u18 (Zb (.inl rfl) rfl) ?_
  refine Lo u18 (rfl) ?_
  refine Ze (Zc ?_)
  refine Zk _ rfl (fun hc2 => ?_) (fun hc2 => ?_)
  ·try simp only [qB, qN] at hc2
   refine Zd (Za ?_)
   refine Lo u18 (Zg (VVal.bool true) (.inr rfl) rfl) ?_
   refine Ze (Zc (Zl (ZA (Zn (Z3 (ZA (Zn ?_)))))))
   refine W10 (.inr rfl) (Zh rfl rfl) ?_
   exact W5v
  ·try simp only [qB, qN] at hc2
   refine Zj (Zy (Zc (Za ?_)))
   refine Lo u18 (Zb (.inl rfl) rfl) ?_
   refine Lo u18 (W14 rfl rfl rfl) ?_
   refine Lo u18 (Zb (.inr rfl) rfl) ?_
   refine Ze ?_
   refine Zw (mk 18 262108) (env' := u18) rfl ⟨k + 1, ?_, rfl, ?_⟩
   ·first | omega | (simp only []; omega)
   ·exact ⟨⟨by omega, by rw [inB_step' (by omega), hi, decide_eq_false (by omega)]; rfl⟩, rfl⟩
 ·try simp only [qB, qN] at hc1
  refine ZD (ZB (Zv (ZC (Zc (Zd (Za ?_))))))
  refine Lo u18 (Zg (VVal.bool false) (.inr rfl) rfl) ?_
  refine Ze (Zc (Zl ?_))
  refine W10 (.inr rfl) (Zh rfl rfl) ?_
  exact W5v
theorem every_spec {x : SW} (H : Zf) (u : Int) (h0 : 0 ≤ u) : F (psys x) 71 [iI u] H fun v G => v = iW (allW u) ∧ G = H := by
 refine Zt Tryd.func71 rfl u6 rfl ?_
 refine Zd (Za ?_)
 refine Lo u6 (Zg (VVal.int .u64 0) (.inr rfl) rfl) ?_
 refine Ze (Zc (Zd (Za ?_)))
 refine Lo u6 (Zb (.inl rfl) rfl) ?_
 refine Lo u6 (v_shl1 rfl rfl rfl XH4) ?_
 refine Lo u6 (v_subW (b := 1#64) rfl rfl rfl) ?_
 refine Lo u6 (Zb (.inr rfl) rfl) ?_
 refine Ze (Zc (Zl ?_))
 refine W10 (.inr rfl) (Zh rfl rfl) ?_
 exact ⟨rfl, rfl⟩
abbrev u77 {a0 a1 a2 a3 a4 a5 a6 a7 a8 a9 a10 a11 a12 a13 a14 a15 a16 a17 a18 a19 a20 a21 a22 a23 a24 a25 a26 a27 a28 a29 a30 a31 a32 a33 a34 a35 a36 a37 a38 a39 a40 a41 a42 a43 a44 a45 a46 a47 a48 a49 a50 a51 a52 a53 a54 a55 a56 a57 a58 a59 a60 a61 a62 a63 a64 a65 a66 a67 a68 a69 a70 a71 a72 a73 a74 a75 a76 : VVal} : VEnv := a0 :: a1 :: a2 :: a3 :: a4 :: a5 :: a6 :: a7 :: a8 :: a9 :: a10 :: a11 :: a12 :: a13 :: a14 :: a15 :: a16 :: a17 :: a18 :: a19 :: a20 :: a21 :: a22 :: a23 :: a24 :: a25 :: a26 :: a27 :: a28 :: a29 :: a30 :: a31 :: a32 :: a33 :: a34 :: a35 :: a36 :: a37 :: a38 :: a39 :: a40 :: a41 :: a42 :: a43 :: a44 :: a45 :: a46 :: a47 :: a48 :: a49 :: a50 :: a51 :: a52 :: a53 :: a54 :: a55 :: a56 :: a57 :: a58 :: a59 :: a60 :: a61 :: a62 :: a63 :: a64 :: a65 :: a66 :: a67 :: a68 :: a69 :: a70 :: a71 :: a72 :: a73 :: a74 :: a75 :: a76 :: []
theorem W5y {S : V.Sys} {H : Zf} {fn : Func} {ex : Exit} {env : VEnv} {B L : Zf} {v : VVal} {R : VVal → Zf → Prop} (hx : ex = .normal ∨ ex = .ret) (hv : ZT S.C.T env (B ++ L) fn.results = some v) (h : R v B) (hB : BaseOk H B := by exact XH42) (hu : v.under H.length = true := by exact (show ((VVal.agg (pbB z0P)).under H.length && (true && true)) = true by rw [pb_under]; rfl)) : fnK S fn H R ex env (B ++ L) := YZ hx hv hB hu h
theorem W5z {P : Prop} (h : P := by first | exact ⟨by rw [woP_no he]; unfold woE; rw [if_pos (by assumption)]; rfl, rfl⟩ | exact ⟨by rw [woP_no he, woE_1 he (by assumption)]; rfl, rfl⟩) : P := h
theorem W62 {T : TypeId → Option VTy} {H : Zf} {op : Op} {ρ : Operand → VVal} {t : TypeId} {a : Operand} {y : VTy} {p v : VVal} (ho : op = .load t a) (ha : ρ a = p) (hy : T t = some y) (hd : Zm y.desc = false) (h : LdOk H p v := by first | exact .inl ⟨_, _, rfl, XH39⟩ | exact .inr ⟨_, _, _, _, rfl, by exact getQ rfl, XH39⟩) : vop T ρ H op = some (v, H) := Yu ho ha hy hd h
theorem W63 {T : TypeId → Option VTy} {H : Zf} {op : Op} {ρ : VEnv} {H' : Zf} {t : TypeId} {a : Operand} {i : Nat} {v : VVal} {y : VTy} {b off : Nat} {cs new : List VVal} (ho : op = .store t a (.tmp i)) (hv : ρ[i]? = some v) (ha : ρ.eval a = .ptr (some (b, off))) (hy : T t = some y) (hx : v.cells = some new) (hn : new.length = y.size) (h1 : new.all VVal.one = true) (hb : H[b]? = some (.cells cs true) := by exact getQ rfl) (hl : off + new.length ≤ cs.length := by exact XH40) (hH : H.set b (.cells (ZE cs off new) true) = H' := by exact setQ rfl) : vop T ρ.eval H op = some (.skip, H') := ZZ ho hv ha hy hx hn h1 hb hl hH
theorem W65 {T : TypeId → Option VTy} {H : Zf} {op : Op} {ρ : Operand → VVal} {t : TypeId} {a : Operand} {y : VTy} {p v : VVal} (ho : op = .load t a) (ha : ρ a = p) (hy : T t = some y) (hd : Zm y.desc = false) (h : LdOk H p v := by first | exact .inl ⟨_, _, rfl, XH39⟩ | exact .inr ⟨_, _, _, _, rfl, by exact ZJ rfl (Zo (get_endE (by first | exact hZl | (rw [List.length_set]; exact hZl)))), XH39⟩) : vop T ρ H op = some (v, H) := Yu ho ha hy hd h
theorem W66 {T : TypeId → Option VTy} {H : Zf} {op : Op} {ρ : VEnv} {H' : Zf} {t : TypeId} {a : Operand} {i : Nat} {v : VVal} {y : VTy} {b off : Nat} {cs new : List VVal} (ho : op = .store t a (.tmp i)) (hv : ρ[i]? = some v) (ha : ρ.eval a = .ptr (some (b, off))) (hy : T t = some y) (hx : v.cells = some new) (hn : new.length = y.size) (h1 : new.all VVal.one = true) (hb : H[b]? = some (.cells cs true) := by exact ZJ rfl (Zo (Zo hZ1))) (hl : off + new.length ≤ cs.length := by show 0 + ((i : Nat) : Int).toNat * 1 + 1 ≤ _; rw [List.length_map, YW]; omega) (hH : H.set b (.cells (ZE cs off new) true) = H' := by exact (ZP rfl).trans (by rw [Ya (by simp; have := ZF hZ1; omega), Ya (ZF hZ1)])) : vop T ρ.eval H op = some (.skip, H') := ZZ ho hv ha hy hx hn h1 hb hl hH
theorem W67 {T : TypeId → Option VTy} {H : Zf} {op : Op} {ρ : Operand → VVal} {t : TypeId} {a : Operand} {y : VTy} {p : VVal} {n : Nat} {vs : List VVal} (ho : op = .load t a) (ha : ρ a = p) (hy : T t = some y) (hd : Zm y.desc = true) (hn : y.size = n) (h : LdOkA H p n vs := by first | exact .inl ⟨_, _, rfl, XH39⟩ | exact .inr ⟨_, _, _, _, rfl, by first | exact ZJ rfl (Zo (get_endE hZl)) | exact ZJ rfl (List.getElem?_set_self (by simp; omega)), XH39⟩) : vop T ρ H op = some (.agg vs, H) := v_ldA ho ha hy hd hn h
theorem W68 {T : TypeId → Option VTy} {H : Zf} {op : Op} {ρ : VEnv} {H' : Zf} {t : TypeId} {a : Operand} {i : Nat} {v : VVal} {y : VTy} {b off : Nat} {cs new : List VVal} (ho : op = .store t a (.tmp i)) (hv : ρ[i]? = some v) (ha : ρ.eval a = .ptr (some (b, off))) (hy : T t = some y) (hx : v.cells = some new) (hn : new.length = y.size) (h1 : new.all VVal.one = true) (hb : H[b]? = some (.cells cs true) := by exact getB rfl rfl) (hl : off + new.length ≤ cs.length := by exact XH40) (hH : H.set b (.cells (ZE cs off new) true) = H' := by exact setB rfl (show 1 < 2 by decide)) : vop T ρ.eval H op = some (.skip, H') := ZZ ho hv ha hy hx hn h1 hb hl hH
theorem W69 {S : V.Sys} {H : Zf} {fn : Func} {ex : Exit} {env : VEnv} {B L : Zf} {v : VVal} {R : VVal → Zf → Prop} (hx : ex = .normal ∨ ex = .ret) (hv : ZT S.C.T env (B ++ L) fn.results = some v) (h : R v B) (hB : BaseOk H B := by exact XH42) (hu : v.under H.length = true := by exact (show ((VVal.agg (pbB (woQ p rs ss))).under H.length && (true && true)) = true by rw [pb_under]; rfl)) : fnK S fn H R ex env (B ++ L) := YZ hx hv hB hu h
theorem W6a {S : V.Sys} {H : Zf} {fn : Func} {ex : Exit} {env : VEnv} {B L : Zf} {v : VVal} {R : VVal → Zf → Prop} (hx : ex = .normal ∨ ex = .ret) (hv : ZT S.C.T env (B ++ L) fn.results = some v) (h : R v B) (hB : BaseOk H B := by exact XH42) (hu : v.under H.length = true := by exact (show ((VVal.agg (pbB (p.users, p.who, p.fixed, [], ()))).under H.length && (true && true)) = true by rw [pb_under]; rfl)) : fnK S fn H R ex env (B ++ L) := YZ hx hv hB hu h
abbrev t6c : VBlk := pqB 0 Yn Yn Yn
theorem stepW {p : Pb} {ss : List Int} {s i : Nat} (hi : i < p.who.length) (h : s < ss.length) (e : ss.getD s 0 = (i : Int)) : ZE ((mpW p (inB (ss.take s))).map iW) (0 + ((i : Nat) : Int).toNat * 1) [iW (allW p.users)] = (mpW p (inB (ss.take (s + 1)))).map iW := by
  rw [Int.toNat_natCast, spl_W (by rw [YW]; exact hi), mpW_set, inB_step h e]
theorem stepF {p : Pb} {ss : List Int} {s i : Nat} (hi : i < p.who.length) (h : s < ss.length) (e : ss.getD s 0 = (i : Int)) : ZE ((mpF p (inB (ss.take s))).map iI) (0 + ((i : Nat) : Int).toNat * 1) [iI (-1)] = (mpF p (inB (ss.take (s + 1)))).map iI := by
  rw [Int.toNat_natCast, spl_I' (by rw [YX]; exact hi), mpF_set, inB_step h e]
theorem stepWr {p : Pb} {ss : List Int} {s : Nat} (hi : s < p.who.length) (h : inB ss s = true) : ZE ((mpW p (fun j => decide (j < s) && inB ss j)).map iW) (0 + ((s : Nat) : Int).toNat * 1) [iW (allW p.users)] = (mpW p (fun j => decide (j < s + 1) && inB ss j)).map iW := by
  rw [Int.toNat_natCast, spl_W (by rw [YW]; exact hi), mpW_set, stp_yes h]
theorem stepFr {p : Pb} {ss : List Int} {s : Nat} (hi : s < p.who.length) (h : inB ss s = true) : ZE ((mpF p (fun j => decide (j < s) && inB ss j)).map iI) (0 + ((s : Nat) : Int).toNat * 1) [iI (-1)] = (mpF p (fun j => decide (j < s + 1) && inB ss j)).map iI := by
  rw [Int.toNat_natCast, spl_I' (by rw [YX]; exact hi), mpF_set, stp_yes h]
theorem endW {p : Pb} {ss : List Int} : mpW p (fun j => decide (j < p.who.length) && inB ss j) = mpW p (inB ss) := mpW_congr fun i hi => by rw [decide_eq_true hi, Bool.true_and]
theorem endF {p : Pb} {ss : List Int} : mpF p (fun j => decide (j < p.who.length) && inB ss j) = mpF p (inB ss) := mpF_congr fun i hi => by rw [decide_eq_true hi, Bool.true_and]
theorem beg_f {ss : List Int} : (fun j : Nat => decide (j < 0) && inB ss j) = fun _ => false := funext fun j => by rw [decide_eq_false (Nat.not_lt_zero j)]; rfl
theorem woP_0 {p : Pb} (g : Go.V.Good p) (h : p.who = []) : p.fixed = [] ∧ p.rules = [] := by
  refine ⟨List.eq_nil_of_length_eq_zero (by rw [g.fx, h]; rfl), ?_⟩
  cases hr : p.rules with
  | nil => rfl
  | cons r l =>
    have := g.ru r (by rw [hr]; simp)
    have h1 := (rck_steps this).1
    have h2 : ∀ x, x ∈ r.steps → 0 ≤ x ∧ x < (p.who.length : Int) := fun x hx => by
      unfold rck at this
      rw [Bool.and_eq_true, Bool.and_eq_true] at this
      have := Y9 _ _ this.2.1 x hx; omega
    cases hs : r.steps with
    | nil => exact absurd hs h1
    | cons x m => have := h2 x (by rw [hs]; simp); rw [h] at this; exact absurd this (by simp)
theorem ltB_0 {l : List Int} (h : ltB l 0 = true) : l = [] := by
  cases l with
  | nil => rfl
  | cons x m => have := ltB_mem.1 h x (by simp); omega
theorem woE_1 {p : Pb} {rs ss : List Int} (he : ¬ woE p rs ss = 0) (h : pck p = 0) : woE p rs ss = 1 := by
  unfold woE at he ⊢
  rw [if_neg (fun e => e h)] at he ⊢
  split at he
  · exact absurd rfl he
  · rename_i h2; rw [if_neg h2]
theorem woQ_0 {p : Pb} {rs ss : List Int} (g : Go.V.Good p) (h : p.who = []) : woQ p rs ss = (p.users, p.who, p.fixed, [], ()) := by
  obtain ⟨h1, h2⟩ := woP_0 g h
  have e : p.rules.length = 0 := by rw [h2]; rfl
  unfold woQ
  rw [List.eq_nil_of_length_eq_zero (l := mpW p (inB ss)) (by rw [YW, h]; rfl), List.eq_nil_of_length_eq_zero (l := mpF p (inB ss)) (by rw [YX, h]; rfl), List.eq_nil_of_length_eq_zero (l := mpR p rs p.rules.length) (by have := @mpR_len p rs p.rules.length; omega), h, h1]
theorem Without_e {x : SW} (H : Zf) (p : Pb) (rv sv : VVal) (rs ss : List Int) (hp : PbL p) (hr : RD H rv rs) (hs : RD H sv ss) (hrl : rs.length ≤ 1000000) (hsl : ss.length ≤ 1000000) (he : ¬ woE p rs ss = 0) : F (psys x) 27 [.agg (pbB p), rv, sv] H fun v G => v = .tuple [.agg (pbB (woP p rs ss)), iI (woE p rs ss)] ∧ G = H := by
 refine Zt Tryd.func27 rfl u77 rfl ?_
 refine Zd (Za ?_)
 refine Lo u77 (ZH rfl rfl rfl) ?_
 refine Lo u77 (ZG rfl rfl) ?_
 refine Lo u77 (Zg (VVal.int .i64 0) (.inr rfl) rfl) ?_
 refine Ze (Zc (Zd (Zd ?_)))
 refine ZY (Gh.freezePtrL (cs := pbB p) 3 0 rfl rfl rfl) ?_
 refine Za ?_
 refine Lo u77 (W2p rfl rfl rfl rfl rfl) ?_
 refine Zs rfl rfl rfl (by exact YP _ p hp) ?_
 rintro _ _ ⟨rfl, rfl⟩
 refine Le u77 ?_
 refine Lo u77 (Zb (.inr rfl) rfl) ?_
 refine Ze (Zc (Zd (Za ?_)))
 refine Lo u77 (Zb (.inl rfl) rfl) ?_
 refine Lo u77 (rfl) ?_
 refine Ze (Zc ?_)
 refine Zk _ rfl (fun hc1 => ?_) (fun hc1 => ?_)
 ·try simp only [qB, qN] at hc1
  refine Zd (Za ?_)
  refine Lo u77 (rfl) ?_
  refine Lo u77 (Zb (.inl rfl) rfl) ?_
  refine Lo u77 (W13 rfl rfl rfl rfl rfl rfl rfl) ?_
  refine Lo u77 (Zb (.inr rfl) rfl) ?_
  refine Ze (Zc ?_)
  refine ZY (Gh.cellNilL 1 1 (es' := 1) rfl rfl) ?_
  refine ZY (Gh.cellNilL 1 2 (es' := 1) rfl rfl) ?_
  refine ZY (Gh.cellNilL 1 3 (es' := 3) rfl rfl) ?_
  refine Zl (Zn ?_)
  refine W5y (.inr rfl) (YB rfl rfl rfl rfl XH13 XH6 rfl) ?_
  exact W5z
 ·try simp only [qB, qN] at hc1
  refine Zj (Zc (Zd (Zd (Za ?_))))
  refine Lo u77 (Zb (.inl rfl) rfl) ?_
  refine Lo u77 (rfl) ?_
  refine Lo u77 (W2r rfl rfl rfl rfl) ?_
  refine Lo u77 (rfl) ?_
  refine Zs rfl rfl rfl XH19 ?_
  rintro _ _ ⟨rfl, rfl⟩
  refine Le u77 ?_
  refine Lo u77 (rfl) ?_
  refine Lo u77 (Zb (.inl rfl) rfl) ?_
  refine ZK 26 (env1 := u77) (env2 := u77) rfl rfl rfl (fun hg2 => ?_) (fun hg2 => ?_)
  ·try simp only [qB, qN] at hg2
   refine Lf u77 ?_
   refine Lf u77 ?_
   refine Lf u77 ?_
   refine Lf u77 ?_
   refine Lf u77 ?_
   refine Lf u77 ?_
   refine Lo u77 (ZN (VVal.bool true) rfl rfl rfl) ?_
   refine Ze (Zc ?_)
   refine ZU rfl rfl ?_
   refine Zd (Za ?_)
   refine Lo u77 (rfl) ?_
   refine Lo u77 (W13 rfl rfl rfl rfl rfl rfl rfl) ?_
   refine Lo u77 (Zg (VVal.int .i64 1) (.inr rfl) rfl) ?_
   refine Ze (Zc ?_)
   refine ZY (Gh.cellNilL 1 1 (es' := 1) rfl rfl) ?_
   refine ZY (Gh.cellNilL 1 2 (es' := 1) rfl rfl) ?_
   refine ZY (Gh.cellNilL 1 3 (es' := 3) rfl rfl) ?_
   refine Zl (Zn ?_)
   refine W5y (.inr rfl) (YB rfl rfl rfl rfl XH13 XH6 rfl) ?_
   exact W5z
  ·try simp only [qB, qN] at hg2
   refine Lo u77 (Zb (.inl rfl) rfl) ?_
   refine Lo u77 (rfl) ?_
   refine Lo u77 (W2r rfl rfl rfl rfl) ?_
   refine Lo u77 (rfl) ?_
   refine Zs rfl rfl rfl XH20 ?_
   rintro _ _ ⟨rfl, rfl⟩
   refine Le u77 ?_
   refine Lo u77 (rfl) ?_
   refine Lo u77 (ZX rfl rfl rfl) ?_
   refine Ze (Zc ?_)
   refine Zk _ rfl (fun hc3 => ?_) (fun hc3 => ?_)
   ·try simp only [qB, qN] at hc3
    refine Zd (Za ?_)
    refine Lo u77 (rfl) ?_
    refine Lo u77 (W13 rfl rfl rfl rfl rfl rfl rfl) ?_
    refine Lo u77 (Zg (VVal.int .i64 1) (.inr rfl) rfl) ?_
    refine Ze (Zc ?_)
    refine ZY (Gh.cellNilL 1 1 (es' := 1) rfl rfl) ?_
    refine ZY (Gh.cellNilL 1 2 (es' := 1) rfl rfl) ?_
    refine ZY (Gh.cellNilL 1 3 (es' := 3) rfl rfl) ?_
    refine Zl (Zn ?_)
    refine W5y (.inr rfl) (YB rfl rfl rfl rfl XH13 XH6 rfl) ?_
    exact W5z
   ·try simp only [qB, qN] at hc3
    exfalso
    first | exact he (woE_ok.2 ⟨pck_good.1 (by assumption), by simpa using hg2, by simpa using hc3⟩) | simp_all
theorem Without_F {x : SW} (H : Zf) (p : Pb) (rv sv : VVal) (rs ss : List Int) (hp : PbL p) (hr : RD H rv rs) (hs : RD H sv ss) (hrl : rs.length ≤ 1000000) (hsl : ss.length ≤ 1000000) (he : woE p rs ss = 0) (hne : 0 < p.who.length) : F (psys x) 27 [.agg (pbB p), rv, sv] H fun v G => v = .tuple [.agg (pbB (woP p rs ss)), iI (woE p rs ss)] ∧ G = H := by
 obtain ⟨g, hlr, hls⟩ := woE_ok.1 he
 have g5 := g.fx; have h4 := g.r32; have h6 := g.n12
 refine Zt Tryd.func27 rfl u77 rfl ?_
 refine Zd (Za ?_)
 refine Lo u77 (ZH rfl rfl rfl) ?_
 refine Lo u77 (ZG rfl rfl) ?_
 refine Lo u77 (Zg (VVal.int .i64 0) (.inr rfl) rfl) ?_
 refine Ze (Zc (Zd (Zd ?_)))
 refine ZY (Gh.freezePtrL (cs := pbB p) 3 0 rfl rfl rfl) ?_
 refine Za ?_
 refine Lo u77 (W2p rfl rfl rfl rfl rfl) ?_
 refine Zs rfl rfl rfl (by exact YP _ p hp) ?_
 rintro _ _ ⟨rfl, rfl⟩
 refine Le u77 ?_
 refine Lo u77 (Zb (.inr rfl) rfl) ?_
 refine Ze (Zc (Zd (Za ?_)))
 refine Lo u77 (Zb (.inl rfl) rfl) ?_
 refine Lo u77 (v_is false rfl (by rw [pck_good.2 g]; rfl)) ?_
 refine Ze (Zc ?_)
 refine Z5 rfl rfl ?_
 refine Zj (Zc (Zd (Zd (Za ?_))))
 refine Lo u77 (Zb (.inl rfl) rfl) ?_
 refine Lo u77 (rfl) ?_
 refine Lo u77 (W2r rfl rfl rfl rfl) ?_
 refine Lo u77 (rfl) ?_
 refine Zs rfl rfl rfl XH19 ?_
 rintro v _ ⟨hv, rfl⟩; rw [hlr] at hv; subst hv
 refine Le u77 ?_
 refine Lo u77 (rfl) ?_
 refine Lo u77 (Zb (.inl rfl) rfl) ?_
 refine Lo u77 (Zb (.inl rfl) rfl) ?_
 refine Lo u77 (rfl) ?_
 refine Lo u77 (W2r rfl rfl rfl rfl) ?_
 refine Lo u77 (rfl) ?_
 refine Zs rfl rfl rfl XH20 ?_
 rintro v _ ⟨hv, rfl⟩; rw [hls] at hv; subst hv
 refine Le u77 ?_
 refine Lo u77 (rfl) ?_
 refine Lo u77 (ZX rfl rfl rfl) ?_
 refine Ze (Zc ?_)
 refine Z5 rfl rfl ?_
 refine Zj (Zc (Zd (Za ?_)))
 refine Lo u77 (W2p rfl rfl rfl rfl rfl) ?_
 refine Zs rfl rfl rfl (by exact Copy_L _ p hp (fun e => by rw [e] at hne; cases hne) (fun e => by rw [e] at g5; simp at g5; omega)) ?_
 rintro _ _ ⟨Y, j, k, rfl, rfl, hY1, hY2, hjk⟩
 refine Le u77 ?_
 refine Lo u77 (ZG rfl rfl) ?_
 refine Lo u77 (W13 rfl rfl rfl rfl rfl rfl rfl) ?_
 refine Ze (Zc (Zd (Za ?_)))
 refine Lo u77 (rfl) ?_
 refine Lo u77 (Yk (VVal.slice none 0 0 true 0) rfl rfl rfl rfl rfl rfl rfl XH0 XH5 XH1) ?_
 refine Ze (Zc (Zd (Zd (Za ?_))))
 refine Lo u77 (W2p rfl rfl rfl rfl rfl) ?_
 refine Zs rfl rfl rfl (by exact Copy_F _ p hp) ?_
 rintro _ _ ⟨rfl, rfl⟩
 refine Le u77 ?_
 refine Lo u77 (rfl) ?_
 refine Lo u77 (rfl) ?_
 refine Lo u77 (Zg (VVal.int .i64 0) (.inl rfl) rfl) ?_
 refine Ze (Zc (Zi ?_))
 refine Zu (mk 77 151115727444132065443249) (env' := u77) rfl ?_
 refine Zx (fun (i : Nat) => p.rules.length - i) (fun (i : Nat) => [(42, iI (i : Nat))]) (fun (i : Nat) G => (i ≤ p.rules.length) ∧ ∃ lv X, G = ((H ++ [.dead, t6c]) ++ (Y ++ [.cells [iI p.users, .slice (some ((H ++ [.dead, t6c]).length + j, 0)) p.who.length p.who.length false 1, .slice (some ((H ++ [.dead, t6c]).length + k, 0)) p.fixed.length p.fixed.length false 1, lv] true])) ++ X ∧ LV (H.length + 2 + (Y.length + 1)) 3 X lv ((mpR p rs i).flatMap rlB) (mpR p rs i).length) 0 rfl ?_ ?_
 ·refine ⟨?_, ⟨_, [], by rw [List.append_nil]; rfl, LV.nil _ _ _⟩⟩
  exact Nat.zero_le _
 rintro i _ ⟨hi, ⟨lv, X, rfl, hl⟩⟩
 refine ZO (env' := u77) rfl ?_
 refine Zd (Za ?_)
 refine Lo u77 (rfl) ?_
 refine Ze (Zc (Zd ?_))
 refine Zk _ rfl (fun hc1 => ?_) (fun hc1 => ?_)
 ·try simp only [qB, qN] at hc1
  refine Zj (Zc (Zd (Zi (Zd (Za ?_)))))
  refine Lo u77 (Zb (.inl rfl) rfl) ?_
  refine Lo u77 (W18 rfl rfl rfl rfl rfl rfl rfl) ?_
  refine Lo u77 (W2p rfl rfl rfl rfl rfl) ?_
  refine Lo u77 (ZG rfl rfl) ?_
  refine Lo u77 (Zb (.inr rfl) rfl) ?_
  refine Lo u77 (W13 rfl rfl rfl rfl rfl rfl rfl) ?_
  refine Ze (Zc (Zd (Za ?_)))
  refine Lo u77 (Zb (.inl rfl) rfl) ?_
  refine Lo u77 (Zb (.inl rfl) rfl) ?_
  refine Zs rfl rfl rfl (by exact Contains_spec _ _ rs i (by first | exact hr | exact hr.app _ | exact (hr.app _).app _ | exact ((hr.app _).app _).app _) hrl) ?_
  rintro _ _ ⟨rfl, rfl⟩
  refine Le u77 ?_
  refine Lo u77 (rfl) ?_
  refine Ze (Zc ?_)
  refine Zk _ rfl (fun hc2 => ?_) (fun hc2 => ?_)
  ·try simp only [qB, qN] at hc2
   refine Za ?_
   refine Lo u77 (rfl) ?_
   refine Lo u77 (W62 rfl rfl rfl rfl) ?_
   refine Lo u77 (W2p rfl rfl rfl rfl rfl) ?_
   refine Lo u77 (Zr rfl rfl (by decide) rfl) ?_
   refine Yt rfl rfl (Ys rfl rfl rfl rfl rfl rfl rfl (by simp; omega) (hl.app _) rfl rfl (by decide) (by have := @mpR_len p rs i; show (_ + 1) * 40 ≤ _ ∧ _ + 1 ≤ _; omega) (by decide)) ?_
   rintro _ _ ⟨Y1, rfl, rfl, hX1, hX2, hX3⟩
   refine Le u77 ?_
   refine Lo u77 (rfl) ?_
   refine Lo u77 (W63 rfl rfl rfl rfl rfl rfl rfl) ?_
   refine Ze (Zy (Zc (Za ?_)))
   refine Lo u77 (W14 rfl rfl rfl) ?_
   refine Lo u77 (Zb (.inl rfl) rfl) ?_
   refine Ze ?_
   refine Zw (mk 77 151115727444132065443249) (env' := u77) rfl ⟨i + 1, ?_, rfl, ?_⟩
   ·first | omega | (simp only []; omega)
   ·first | exact ⟨by omega, _, _, rfl, by rw [mpR_step, if_neg (by simp_all)]; exact LV.pushF hX3⟩ | exact ⟨by omega, _, _, rfl, by rw [mpR_step, if_pos (by simp_all), List.append_nil]; exact hl.app _⟩
  ·try simp only [qB, qN] at hc2
   refine Zj (Zy (Zc (Za ?_)))
   refine Lo u77 (W14 rfl rfl rfl) ?_
   refine Lo u77 (Zb (.inl rfl) rfl) ?_
   refine Ze ?_
   refine Zw (mk 77 151115727444132065443249) (env' := u77) rfl ⟨i + 1, ?_, rfl, ?_⟩
   ·first | omega | (simp only []; omega)
   ·first | exact ⟨by omega, _, _, rfl, by rw [mpR_step, if_neg (by simp_all)]; exact LV.pushF hX3⟩ | exact ⟨by omega, _, _, rfl, by rw [mpR_step, if_pos (by simp_all), List.append_nil]; exact hl.app _⟩
 ·try simp only [qB, qN] at hc1
  refine ZD (ZB (Zv (ZC (Zc (Zd (Zd ?_))))))
  obtain rfl : i = p.rules.length := by omega
  refine YD (H := (H ++ [.dead, t6c])) (L := Y ++ [.cells [iI p.users, .slice (some ((H ++ [.dead, t6c]).length + j, 0)) p.who.length p.who.length false 1, .slice (some ((H ++ [.dead, t6c]).length + k, 0)) p.fixed.length p.fixed.length false 1, lv] true]) Y.length 3 hl YL rfl (by simp; omega) fun X5 _ _ => ?_
  rw [set_end]
  refine Ym (List.append_assoc _ _ _) ?_
  refine Za ?_
  refine Lo u77 (Zb (.inl rfl) rfl) ?_
  refine Lo u77 (v_lenD rfl rfl rfl rfl hs) ?_
  refine Lo u77 (Zg (VVal.int .i64 0) (.inl rfl) rfl) ?_
  refine Ze (Zc (Zi ?_))
  refine Zu (mk 77 151113709839195584855479) (env' := u77) rfl ?_
  refine Zx (fun (s : Nat) => ss.length - s) (fun (s : Nat) => [(60, iI (s : Nat))]) (fun (s : Nat) G => (s ≤ ss.length) ∧ ∃ Z, G = (H ++ [.dead, t6c]) ++ ((Z ++ [.cells [iI p.users, .slice (some ((H ++ [.dead, t6c]).length + j, 0)) p.who.length p.who.length false 1, .slice (some ((H ++ [.dead, t6c]).length + k, 0)) p.fixed.length p.fixed.length false 1, fzR (mpR p rs p.rules.length)] true]) ++ X5) ∧ Z.length = Y.length ∧ Z[j]? = some (.cells ((mpW p (inB (ss.take s))).map iW) true) ∧ Z[k]? = some (.cells ((mpF p (inB (ss.take s))).map iI) true)) 0 rfl ?_ ?_
  ·refine ⟨?_, ⟨Y, rfl, rfl, by rw [show inB (ss.take 0) = fun _ => false from rfl, mpW_no]; exact hY1, by rw [show inB (ss.take 0) = fun _ => false from rfl, mpF_no g5]; exact hY2⟩⟩
   exact Nat.zero_le _
  rintro s _ ⟨hs9, ⟨Z, rfl, hZl, hZ1, hZ2⟩⟩
  refine ZO (env' := u77) rfl ?_
  refine Zd (Za ?_)
  refine Lo u77 (rfl) ?_
  refine Ze (Zc (Zd ?_))
  refine Zk _ rfl (fun hc3 => ?_) (fun hc3 => ?_)
  ·try simp only [qB, qN] at hc3
   refine Zj (Zc (Zd (Zi (Zd (Za ?_)))))
   refine Yt rfl rfl (v_ixD rfl rfl rfl rfl rfl rfl rfl (hs.app _) (by omega) _) ?_
   rintro w _ ⟨rfl, hw⟩
   refine Le u77 ?_
   refine Lo u77 (Yu rfl rfl rfl rfl hw.app) ?_
   refine Lo u77 (Zb (.inr rfl) rfl) ?_
   refine Ze (Zc ?_)
   obtain ⟨i, hi1, hi2⟩ := ltB_at hls (show s < ss.length by omega)
   rw [hi1]
   refine ZW [0, 1, 2, 3, 4, 5, 6, 7, 8, 9, 10, 11, 12] #[0, 1, 0, 0, 8, 0, 0, 64, 192, 455, 967, 2047, 4095] XH3 XH3 XH3 ?_
   refine Oo u77 .calm rfl (rfl) ?_
   refine Yg (env' := u77) (x := .look _ _) rfl rfl rfl (W65 rfl rfl rfl rfl) rfl rfl rfl ?_
   refine Oo u77 .calm rfl (Zb (.inl rfl) rfl) ?_
   refine Oo u77 .calm rfl (rfl) ?_
   refine Yg (env' := u77) (x := .look _ _) rfl rfl rfl (W65 rfl rfl rfl rfl) rfl rfl rfl ?_
   refine Oo u77 .calm rfl (Zb (.inl rfl) rfl) ?_
   refine Oo u77 .calm rfl (rfl) ?_
   refine Oo u77 .look rfl (W2r rfl rfl rfl rfl) ?_
   refine Yb (env' := u77) rfl rfl rfl rfl rfl (by exact every_spec _ _ g.u0) XH7 rfl rfl ?_
   refine Oo u77 .calm rfl (W18 rfl rfl rfl rfl rfl rfl rfl) ?_
   refine Yg (env' := u77) (x := .turn _ _) rfl rfl rfl (W66 rfl rfl rfl rfl rfl rfl rfl) rfl rfl rfl ?_
   refine Oo u77 .calm rfl (W18 rfl rfl rfl rfl rfl rfl rfl) ?_
   refine Oo u77 .turn rfl (Yk (VVal.int .i64 (-1)) rfl rfl rfl rfl rfl rfl rfl (by exact ZJ rfl (Zo (Zo (by rw [List.getElem?_set_ne hjk]; exact hZ2)))) (by show 0 + ((i : Nat) : Int).toNat * 1 + 1 ≤ _; rw [List.length_map, YX]; omega) (by exact (ZP rfl).trans (by rw [Ya (by simp; have := ZF hZ2; omega), Ya XH28]))) ?_
   refine O_nilP [(1, 8), (4, 8), (4, 10)] XH3 (And.intro ⟨_, _, _, _, ⟨(gA (gA (gA (gA (gA (gA (gA (gA (gA (gA (gA (gL XH3)))))))))))), (gA (gA (gA (gA (gL XH3))))), And.intro (W65 rfl rfl rfl rfl) (W65 rfl rfl rfl rfl)⟩⟩ (And.intro ⟨_, _, _, _, ⟨(gA (gA (gA (gA (gA (gA (gA (gA (gL XH3))))))))), (gA (gA (gA (gA (gL XH3))))), And.intro (W65 rfl rfl rfl rfl) (W65 rfl rfl rfl rfl)⟩⟩ (And.intro ⟨_, _, _, _, ⟨(gA (gA (gA (gA (gA (gA (gA (gA (gL XH3))))))))), (gA (gA (gL XH3))), And.intro (W65 rfl rfl rfl rfl) (W65 rfl rfl rfl rfl)⟩⟩ (trivial)))) ?_
   refine Zy (Zc (Za ?_))
   refine Lo u77 (W14 rfl rfl rfl) ?_
   refine Lo u77 (Zb (.inl rfl) rfl) ?_
   refine Ze ?_
   refine Zw (mk 77 151113709839195584855479) (env' := u77) rfl ⟨s + 1, ?_, rfl, ?_⟩
   ·first | omega | (simp only []; omega)
   ·exact ⟨by omega, _, rfl, by rw [List.length_set, List.length_set]; exact hZl, by rw [List.getElem?_set_ne (Ne.symm hjk), List.getElem?_set_self (ZF hZ1)]; exact congrArg (fun l => some (VBlk.cells l true)) (stepW hi2 (by omega) hi1), by rw [List.getElem?_set_self XH28]; exact congrArg (fun l => some (VBlk.cells l true)) (stepF hi2 (by omega) hi1)⟩
  ·try simp only [qB, qN] at hc3
   refine ZD (ZB (Zv (ZC (Zc (Zd ?_)))))
   obtain rfl : s = ss.length := by omega
   rw [List.take_length] at hZ1 hZ2
   have hjl := ZF hZ1; have hkl := ZF hZ2
   refine ZY (Gh.cellL (H := (H ++ [.dead, t6c])) (l := (mpW p (inB ss)).map iW) Y.length 1 j (Zo (get_endE hZl)) rfl (by omega) (Zo (Zo hZ1)) (Yf (by rw [List.length_map, YW])) (Nat.le_refl _)) ?_
   refine ZY (Gh.cellL (H := (H ++ [.dead, t6c])) (l := (mpF p (inB ss)).map iI) Y.length 2 k (List.getElem?_set_self (by simp; omega)) rfl (by omega) (by rw [List.getElem?_set_ne (by omega), List.getElem?_set_ne hjk]; exact Zo (Zo hZ2)) (Yf (by rw [List.length_map, YX, g5])) (Nat.le_refl _)) ?_
   refine Za ?_
   refine Lo u77 (W67 rfl rfl rfl rfl rfl) ?_
   refine Lo u77 (W68 rfl rfl rfl rfl rfl rfl rfl) ?_
   refine Lo u77 (Zg (VVal.int .i64 0) (.inr rfl) rfl) ?_
   refine Ze (Zc ?_)
   refine Ym (List.append_assoc _ _ _) ?_
   refine Zl ?_
   refine W69 (.inr rfl) (YB rfl rfl rfl rfl XH13 XH6 rfl) ?_
   exact ⟨by rw [he, woP_ok he]; show _ = VVal.tuple [.agg [iI p.users, .fsl ((mpW p (inB ss)).map iW) (mpW p (inB ss)).length 1 false, .fsl ((mpF p (inB ss)).map iI) (mpF p (inB ss)).length 1 false, fzR (mpR p rs p.rules.length)], iI 0]; rw [YW, YX, g5]; rfl, rfl⟩
theorem Without_0 {x : SW} (H : Zf) (p : Pb) (rv sv : VVal) (rs ss : List Int) (hp : PbL p) (hr : RD H rv rs) (hs : RD H sv ss) (hrl : rs.length ≤ 1000000) (hsl : ss.length ≤ 1000000) (he : woE p rs ss = 0) (h0 : p.who = []) : F (psys x) 27 [.agg (pbB p), rv, sv] H fun v G => v = .tuple [.agg (pbB (woP p rs ss)), iI (woE p rs ss)] ∧ G = H := by
 obtain ⟨g, hlr, hls⟩ := woE_ok.1 he
 obtain ⟨h1, h2⟩ := woP_0 g h0
 have h3 : ss = [] := ltB_0 (by rw [h0] at hls; exact hls)
 refine Zt Tryd.func27 rfl u77 rfl ?_
 refine Zd (Za ?_)
 refine Lo u77 (ZH rfl rfl rfl) ?_
 refine Lo u77 (ZG rfl rfl) ?_
 refine Lo u77 (Zg (VVal.int .i64 0) (.inr rfl) rfl) ?_
 refine Ze (Zc (Zd (Zd ?_)))
 refine ZY (Gh.freezePtrL (cs := pbB p) 3 0 rfl rfl rfl) ?_
 refine Za ?_
 refine Lo u77 (W2p rfl rfl rfl rfl rfl) ?_
 refine Zs rfl rfl rfl (by exact YP _ p hp) ?_
 rintro _ _ ⟨rfl, rfl⟩
 refine Le u77 ?_
 refine Lo u77 (Zb (.inr rfl) rfl) ?_
 refine Ze (Zc (Zd (Za ?_)))
 refine Lo u77 (Zb (.inl rfl) rfl) ?_
 refine Lo u77 (v_is false rfl (by rw [pck_good.2 g]; rfl)) ?_
 refine Ze (Zc ?_)
 refine Z5 rfl rfl ?_
 refine Zj (Zc (Zd (Zd (Za ?_))))
 refine Lo u77 (Zb (.inl rfl) rfl) ?_
 refine Lo u77 (rfl) ?_
 refine Lo u77 (W2r rfl rfl rfl rfl) ?_
 refine Lo u77 (rfl) ?_
 refine Zs rfl rfl rfl XH19 ?_
 rintro v _ ⟨hv, rfl⟩; rw [hlr] at hv; subst hv
 refine Le u77 ?_
 refine Lo u77 (rfl) ?_
 refine Lo u77 (Zb (.inl rfl) rfl) ?_
 refine Lo u77 (Zb (.inl rfl) rfl) ?_
 refine Lo u77 (rfl) ?_
 refine Lo u77 (W2r rfl rfl rfl rfl) ?_
 refine Lo u77 (rfl) ?_
 refine Zs rfl rfl rfl XH20 ?_
 rintro v _ ⟨hv, rfl⟩; rw [hls] at hv; subst hv
 refine Le u77 ?_
 refine Lo u77 (rfl) ?_
 refine Lo u77 (ZX rfl rfl rfl) ?_
 refine Ze (Zc ?_)
 refine Z5 rfl rfl ?_
 refine Zj (Zc (Zd (Za ?_)))
 refine Lo u77 (W2p rfl rfl rfl rfl rfl) ?_
 refine Zs rfl rfl rfl (by exact Copy_F _ p hp) ?_
 rintro _ _ ⟨rfl, rfl⟩
 refine Le u77 ?_
 refine Lo u77 (ZG rfl rfl) ?_
 refine Lo u77 (W13 rfl rfl rfl rfl rfl rfl rfl) ?_
 refine Ze (Zc (Zd (Za ?_)))
 refine Lo u77 (rfl) ?_
 refine Lo u77 (Yk (VVal.slice none 0 0 true 0) rfl rfl rfl rfl rfl rfl rfl XH0 XH5 XH1) ?_
 refine Ze (Zc (Zd (Zd ?_)))
 refine ZY (Gh.cellNilL 2 3 (es' := 3) rfl rfl) ?_
 refine Za ?_
 refine Lo u77 (W2p rfl rfl rfl rfl rfl) ?_
 refine Zs rfl rfl rfl (by exact Copy_F _ p hp) ?_
 rintro _ _ ⟨rfl, rfl⟩
 refine Le u77 ?_
 refine Lo u77 (rfl) ?_
 refine Lo u77 (rfl) ?_
 refine Lo u77 (Zg (VVal.int .i64 0) (.inl rfl) rfl) ?_
 refine Ze (Zc (Zi ?_))
 refine Zu (mk 77 151115727444132065443249) (env' := u77) rfl ?_
 refine Zx (fun (i : Nat) => p.rules.length - i) (fun (i : Nat) => [(42, iI (i : Nat))]) (fun (i : Nat) G => (i ≤ p.rules.length) ∧ G = H ++ [.dead, t6c, .cells [iI p.users, fzW p.who, fzI p.fixed, .fsl [] 0 3 false] true]) 0 rfl ?_ ?_
 ·refine ⟨?_, rfl⟩
  exact Nat.zero_le _
 rintro i _ ⟨hi, rfl⟩
 refine ZO (env' := u77) rfl ?_
 refine Zd (Za ?_)
 refine Lo u77 (rfl) ?_
 refine Ze (Zc (Zd ?_))
 refine Zk _ rfl (fun hc1 => ?_) (fun hc1 => ?_)
 ·try simp only [qB, qN] at hc1
  exfalso
  rw [h2] at hc1; simp at hc1; omega
 ·try simp only [qB, qN] at hc1
  refine ZD (ZB (Zv (ZC (Zc (Zd (Zd (Za ?_)))))))
  refine Lo u77 (Zb (.inl rfl) rfl) ?_
  refine Lo u77 (v_lenD rfl rfl rfl rfl hs) ?_
  refine Lo u77 (Zg (VVal.int .i64 0) (.inl rfl) rfl) ?_
  refine Ze (Zc (Zi ?_))
  refine Zu (mk 77 151113709839195584855479) (env' := u77) rfl ?_
  refine Zx (fun (s : Nat) => ss.length - s) (fun (s : Nat) => [(60, iI (s : Nat))]) (fun (s : Nat) G => (s ≤ ss.length) ∧ G = H ++ [.dead, t6c, .cells [iI p.users, fzW p.who, fzI p.fixed, .fsl [] 0 3 false] true]) 0 rfl ?_ ?_
  ·refine ⟨?_, rfl⟩
   exact Nat.zero_le _
  rintro s _ ⟨hs9, rfl⟩
  refine ZO (env' := u77) rfl ?_
  refine Zd (Za ?_)
  refine Lo u77 (rfl) ?_
  refine Ze (Zc (Zd ?_))
  refine Zk _ rfl (fun hc2 => ?_) (fun hc2 => ?_)
  ·try simp only [qB, qN] at hc2
   exfalso
   rw [h3] at hc2; simp at hc2; omega
  ·try simp only [qB, qN] at hc2
   refine ZD (ZB (Zv (ZC (Zc (Zd (Za ?_))))))
   refine Lo u77 (W2p rfl rfl rfl rfl rfl) ?_
   refine Lo u77 (W13 rfl rfl rfl rfl rfl rfl rfl) ?_
   refine Lo u77 (Zg (VVal.int .i64 0) (.inr rfl) rfl) ?_
   refine Ze (Zc (Zl ?_))
   refine W6a (.inr rfl) (YB rfl rfl rfl rfl XH13 XH6 rfl) ?_
   exact ⟨by rw [he, woP_ok he, woQ_0 g h0]; rfl, rfl⟩
theorem Without_spec {x : SW} (H : Zf) (p : Pb) (rv sv : VVal) (rs ss : List Int) (hp : PbL p) (hr : RD H rv rs) (hs : RD H sv ss) (hrl : rs.length ≤ 1000000) (hsl : ss.length ≤ 1000000) : F (psys x) 27 [.agg (pbB p), rv, sv] H fun v G => v = .tuple [.agg (pbB (woP p rs ss)), iI (woE p rs ss)] ∧ G = H := by
  by_cases he : woE p rs ss = 0
  · by_cases h0 : p.who.length = 0
    · exact Without_0 H p rv sv rs ss hp hr hs hrl hsl he (List.eq_nil_of_length_eq_zero h0)
    · exact Without_F H p rv sv rs ss hp hr hs hrl hsl he (by omega)
  · exact Without_e H p rv sv rs ss hp hr hs hrl hsl he
abbrev u56 {a0 a1 a2 a3 a4 a5 a6 a7 a8 a9 a10 a11 a12 a13 a14 a15 a16 a17 a18 a19 a20 a21 a22 a23 a24 a25 a26 a27 a28 a29 a30 a31 a32 a33 a34 a35 a36 a37 a38 a39 a40 a41 a42 a43 a44 a45 a46 a47 a48 a49 a50 a51 a52 a53 a54 a55 : VVal} : VEnv := a0 :: a1 :: a2 :: a3 :: a4 :: a5 :: a6 :: a7 :: a8 :: a9 :: a10 :: a11 :: a12 :: a13 :: a14 :: a15 :: a16 :: a17 :: a18 :: a19 :: a20 :: a21 :: a22 :: a23 :: a24 :: a25 :: a26 :: a27 :: a28 :: a29 :: a30 :: a31 :: a32 :: a33 :: a34 :: a35 :: a36 :: a37 :: a38 :: a39 :: a40 :: a41 :: a42 :: a43 :: a44 :: a45 :: a46 :: a47 :: a48 :: a49 :: a50 :: a51 :: a52 :: a53 :: a54 :: a55 :: []
theorem W6h {S : V.Sys} {H : Zf} {fn : Func} {ex : Exit} {env : VEnv} {B L : Zf} {v : VVal} {R : VVal → Zf → Prop} (hx : ex = .normal ∨ ex = .ret) (hv : ZT S.C.T env (B ++ L) fn.results = some v) (h : R v B) (hB : BaseOk H B := by exact XH42) (hu : v.under H.length = true := by exact pb_under (p := (a1, [], [], [], ()))) : fnK S fn H R ex env (B ++ L) := YZ hx hv hB hu h
theorem Twin_L {x : SW} (H : Zf) (p : Pb) (hp : PbL p) (hne : 0 < p.fixed.length) (hnw : 0 < p.who.length) (hst : ∀ r, r ∈ p.rules → 0 < r.steps.length) : F (psys x) 72 [.agg (pbB p)] H (CwR H p) := by
 have h1 := hp.w; have h2 := hp.f; have h3 := hp.r; have h4 := hp.s
 refine Zt Tryd.func72 rfl u56 rfl ?_
 refine Zd (Za ?_)
 refine Lo u56 (ZH rfl rfl rfl) ?_
 refine Lo u56 (ZG rfl rfl) ?_
 refine Ze (Zc (Zd ?_))
 refine ZY (Gh.freezePtrL (cs := pbB p) 1 0 rfl rfl rfl) ?_
 refine Za ?_
 refine Lo u56 (rfl) ?_
 refine Lo u56 (W2r rfl rfl rfl rfl) ?_
 refine Lo u56 (rfl) ?_
 refine Lo u56 (ZG rfl rfl) ?_
 refine Lo u56 (W13 rfl rfl rfl rfl rfl rfl rfl) ?_
 refine Ze (Zc (Zd (Za ?_)))
 refine Lo u56 (rfl) ?_
 refine Lo u56 (W2r rfl rfl rfl rfl) ?_
 refine Lo u56 (rfl) ?_
 refine Lo u56 (W2r rfl rfl rfl rfl) ?_
 refine Lo u56 (v_appNF rfl rfl rfl rfl rfl rfl rfl XH15 (mapW_one _) (by decide) hnw (by show p.who.length * 8 ≤ _ ∧ _; omega)) ?_
 refine Lo u56 (rfl) ?_
 refine Lo u56 (W13 rfl rfl rfl rfl rfl rfl rfl) ?_
 refine Ze (Zc (Zd (Za ?_)))
 refine Lo u56 (rfl) ?_
 refine Lo u56 (W2r rfl rfl rfl rfl) ?_
 refine Lo u56 (rfl) ?_
 refine Lo u56 (W2r rfl rfl rfl rfl) ?_
 refine Lo u56 (v_appNF rfl rfl rfl rfl rfl rfl rfl XH15 (mapI_one _) (by decide) hne (by show p.fixed.length * 8 ≤ _ ∧ _; omega)) ?_
 refine Lo u56 (rfl) ?_
 refine Lo u56 (W13 rfl rfl rfl rfl rfl rfl rfl) ?_
 refine Ze (Zc (Zd (Zd (Za ?_))))
 refine Lo u56 (Zg (VVal.int .i64 0) (.inr rfl) rfl) ?_
 refine Ze (Zc (Zi ?_))
 refine Zu (mk 56 72057594037927905) (env' := u56) rfl ?_
 refine Zx (fun (k : Nat) => p.rules.length - k) (fun (k : Nat) => [(4, iI (k : Nat))]) (fun (k : Nat) G => (k ≤ p.rules.length) ∧ ∃ lv X, G = (H ++ [.dead, pqB 0 Yn Yn Yn, .cells [iI p.users, .slice (some (H.length + 3, 0)) p.who.length p.who.length false 1, .slice (some (H.length + 4, 0)) p.fixed.length p.fixed.length false 1, lv] true, .cells (p.who.map iW) true, .cells (p.fixed.map iI) true]) ++ X ∧ LV (H.length + 5) 3 X lv ((p.rules.take k).flatMap rlB) (p.rules.take k).length) 0 rfl ?_ ?_
 ·refine ⟨?_, ⟨_, [], by rw [List.append_nil]; rfl, LV.nil _ _ _⟩⟩
  exact Nat.zero_le _
 rintro k _ ⟨hk, ⟨lv, X, rfl, hl⟩⟩
 refine ZO (env' := u56) rfl ?_
 refine Zd (Zd (Za ?_))
 refine Lo u56 (Zb (.inl rfl) rfl) ?_
 refine Lo u56 (rfl) ?_
 refine Lo u56 (W2r rfl rfl rfl rfl) ?_
 refine Lo u56 (rfl) ?_
 refine Lo u56 (rfl) ?_
 refine Ze (Zc ?_)
 refine Zk _ rfl (fun hc1 => ?_) (fun hc1 => ?_)
 ·try simp only [qB, qN] at hc1
  refine Zj (Zc (Zd (Zi (Zd (Za ?_)))))
  refine Lo u56 (Zg (VVal.slice none 0 0 true 0) (.inr rfl) rfl) ?_
  refine Ze (Zc (Zd ?_))
  have hr1 := Yy (l := p.rules) (k := k) (by omega)
  have hs1 := h4 _ hr1
  have hs2 := hst _ hr1
  refine Za ?_
  refine Lo u56 (Zb (.inl rfl) rfl) ?_
  refine Lo u56 (rfl) ?_
  refine Lo u56 (W2r rfl rfl rfl rfl) ?_
  refine Lo u56 (Zb (.inl rfl) rfl) ?_
  refine Lo u56 (W18 rfl rfl rfl rfl rfl rfl rfl) ?_
  refine Lo u56 (rfl) ?_
  refine Lo u56 (W2r rfl rfl rfl rfl) ?_
  refine Lo u56 (v_appNF rfl rfl rfl rfl rfl rfl rfl XH15 (mapI_one _) (by decide) hs2 (by show (p.rules.getD k r0).steps.length * 8 ≤ _ ∧ _; omega)) ?_
  refine Lo u56 (Zb (.inr rfl) rfl) ?_
  refine Ze (Zc ?_)
  refine ZY (Gh.freezeL (l := (p.rules.getD k r0).steps.map iI) 5 X.length rfl YL map_all (Nat.le_refl _) rfl) ?_
  rw [set_end]
  refine ZW [0, 1, 2, 3, 4, 5, 6, 7, 8, 9, 10, 11, 12, 13, 14, 15, 16, 17, 18, 19] #[0, 1, 0, 4, 0, 28, 60, 124, 0, 256, 0, 1792, 3840, 7936, 0, 32764, 65532, 131071, 262143, 524287] XH3 XH3 XH3 ?_
  refine Oo u56 .calm rfl (rfl) ?_
  refine Oo u56 .look rfl (W2r rfl rfl rfl rfl) ?_
  refine Oo u56 .calm rfl (rfl) ?_
  refine Oo u56 .look rfl (W2r rfl rfl rfl rfl) ?_
  refine Oo u56 .calm rfl (Zb (.inl rfl) rfl) ?_
  refine Oo u56 .calm rfl (W18 rfl rfl rfl rfl rfl rfl rfl) ?_
  refine Oo u56 .calm rfl (rfl) ?_
  refine Oo u56 .look rfl (W2r rfl rfl rfl rfl) ?_
  refine Oo u56 .calm rfl (rfl) ?_
  refine Oo u56 .look rfl (W2r rfl rfl rfl rfl) ?_
  refine Oo u56 .calm rfl (Zb (.inl rfl) rfl) ?_
  refine Oo u56 .calm rfl (W18 rfl rfl rfl rfl rfl rfl rfl) ?_
  refine Oo u56 .calm rfl (rfl) ?_
  refine Oo u56 .look rfl (W2r rfl rfl rfl rfl) ?_
  refine Oo u56 .calm rfl (Zb (.inl rfl) rfl) ?_
  refine Oo u56 .calm rfl (rfl) ?_
  refine Oo u56 .grow rfl (Zr rfl rfl (by decide) rfl) ?_
  refine O_opX .turn rfl rfl rfl (Ys rfl rfl rfl rfl rfl rfl rfl (by simp) (hl.app _) rfl rfl (by decide) XH26 (by decide)) rfl rfl ?_
  rintro _ _ ⟨Y1, rfl, rfl, hY1, hY2, hY3⟩
  refine O_env (env' := u56) rfl ?_
  refine Oo u56 .calm rfl (rfl) ?_
  refine Oo u56 .turn rfl (W13 rfl rfl rfl rfl rfl rfl rfl) ?_
  refine ZQ [] XH3 (trivial) ?_
  refine Zy (Zc (Za ?_))
  refine Lo u56 (Zb (.inl rfl) rfl) ?_
  refine Lo u56 (W14 rfl rfl rfl) ?_
  refine Lo u56 (Zb (.inr rfl) rfl) ?_
  refine Ze ?_
  refine Zw (mk 56 72057594037927905) (env' := u56) rfl ⟨k + 1, ?_, rfl, ?_⟩
  ·first | omega | (simp only []; omega)
  ·exact ⟨by omega, _, _, rfl, by rw [Yc (d := r0) (by omega)]; exact LV.pushF hY3⟩
 ·try simp only [qB, qN] at hc1
  refine ZD (ZB (Zv (ZC (Zc (Zd ?_)))))
  obtain rfl : k = p.rules.length := by omega
  rw [List.take_length] at hl
  refine YD 2 3 hl rfl rfl (by simp) fun X5 _ _ => ?_
  refine Ym (List.append_assoc _ _ _) ?_
  refine Za ?_
  refine Lo u56 (W2p rfl rfl rfl rfl rfl) ?_
  refine Lo u56 (W13 rfl rfl rfl rfl rfl rfl rfl) ?_
  refine Ze (Zc (Zl ?_))
  refine YV (.inr rfl) (Yr rfl rfl rfl rfl XH0 XH6) ?_
  exact ⟨_, 3, 4, rfl, rfl, rfl, rfl, by decide⟩
theorem Twin_F {x : SW} (H : Zf) (p : Pb) (hp : PbL p) (hne : 0 < p.fixed.length) (hnw : 0 < p.who.length) (hst : ∀ r, r ∈ p.rules → 0 < r.steps.length) : F (psys x) 72 [.agg (pbB p)] H fun v G => v = .agg (pbB p) ∧ G = H := by
 have h1 := hp.w; have h2 := hp.f; have h3 := hp.r; have h4 := hp.s
 refine Zt Tryd.func72 rfl u56 rfl ?_
 refine Zd (Za ?_)
 refine Lo u56 (ZH rfl rfl rfl) ?_
 refine Lo u56 (ZG rfl rfl) ?_
 refine Ze (Zc (Zd ?_))
 refine ZY (Gh.freezePtrL (cs := pbB p) 1 0 rfl rfl rfl) ?_
 refine Za ?_
 refine Lo u56 (rfl) ?_
 refine Lo u56 (W2r rfl rfl rfl rfl) ?_
 refine Lo u56 (rfl) ?_
 refine Lo u56 (ZG rfl rfl) ?_
 refine Lo u56 (W13 rfl rfl rfl rfl rfl rfl rfl) ?_
 refine Ze (Zc (Zd (Za ?_)))
 refine Lo u56 (rfl) ?_
 refine Lo u56 (W2r rfl rfl rfl rfl) ?_
 refine Lo u56 (rfl) ?_
 refine Lo u56 (W2r rfl rfl rfl rfl) ?_
 refine Lo u56 (v_appNF rfl rfl rfl rfl rfl rfl rfl XH15 (mapW_one _) (by decide) hnw (by show p.who.length * 8 ≤ _ ∧ _; omega)) ?_
 refine Lo u56 (rfl) ?_
 refine Lo u56 (W13 rfl rfl rfl rfl rfl rfl rfl) ?_
 refine Ze (Zc (Zd ?_))
 refine ZY (Gh.cellL (l := p.who.map iW) 2 1 3 rfl rfl (by decide) rfl wApp_c (Nat.le_refl _)) ?_
 refine Za ?_
 refine Lo u56 (rfl) ?_
 refine Lo u56 (W2r rfl rfl rfl rfl) ?_
 refine Lo u56 (rfl) ?_
 refine Lo u56 (W2r rfl rfl rfl rfl) ?_
 refine Lo u56 (v_appNF rfl rfl rfl rfl rfl rfl rfl XH15 (mapI_one _) (by decide) hne (by show p.fixed.length * 8 ≤ _ ∧ _; omega)) ?_
 refine Lo u56 (rfl) ?_
 refine Lo u56 (W13 rfl rfl rfl rfl rfl rfl rfl) ?_
 refine Ze (Zc (Zd (Zd ?_)))
 refine ZY (Gh.cellL (l := p.fixed.map iI) 2 2 4 rfl rfl (by decide) rfl map_all (Nat.le_refl _)) ?_
 refine Za ?_
 refine Lo u56 (Zg (VVal.int .i64 0) (.inr rfl) rfl) ?_
 refine Ze (Zc (Zi ?_))
 refine Zu (mk 56 72057594037927905) (env' := u56) rfl ?_
 refine Zx (fun (k : Nat) => p.rules.length - k) (fun (k : Nat) => [(4, iI (k : Nat))]) (fun (k : Nat) G => (k ≤ p.rules.length) ∧ ∃ lv X, G = (H ++ [.dead, pqB 0 Yn Yn Yn, .cells [iI p.users, fzW p.who, fzI p.fixed, lv] true, .dead, .dead]) ++ X ∧ LV (H.length + 5) 3 X lv ((p.rules.take k).flatMap rlB) (p.rules.take k).length) 0 rfl ?_ ?_
 ·refine ⟨?_, ⟨_, [], by rw [List.append_nil]; rfl, LV.nil _ _ _⟩⟩
  exact Nat.zero_le _
 rintro k _ ⟨hk, ⟨lv, X, rfl, hl⟩⟩
 refine ZO (env' := u56) rfl ?_
 refine Zd (Zd (Za ?_))
 refine Lo u56 (Zb (.inl rfl) rfl) ?_
 refine Lo u56 (rfl) ?_
 refine Lo u56 (W2r rfl rfl rfl rfl) ?_
 refine Lo u56 (rfl) ?_
 refine Lo u56 (rfl) ?_
 refine Ze (Zc ?_)
 refine Zk _ rfl (fun hc1 => ?_) (fun hc1 => ?_)
 ·try simp only [qB, qN] at hc1
  refine Zj (Zc (Zd (Zi (Zd (Za ?_)))))
  refine Lo u56 (Zg (VVal.slice none 0 0 true 0) (.inr rfl) rfl) ?_
  refine Ze (Zc (Zd ?_))
  have hr1 := Yy (l := p.rules) (k := k) (by omega)
  have hs1 := h4 _ hr1
  have hs2 := hst _ hr1
  refine Za ?_
  refine Lo u56 (Zb (.inl rfl) rfl) ?_
  refine Lo u56 (rfl) ?_
  refine Lo u56 (W2r rfl rfl rfl rfl) ?_
  refine Lo u56 (Zb (.inl rfl) rfl) ?_
  refine Lo u56 (W18 rfl rfl rfl rfl rfl rfl rfl) ?_
  refine Lo u56 (rfl) ?_
  refine Lo u56 (W2r rfl rfl rfl rfl) ?_
  refine Lo u56 (v_appNF rfl rfl rfl rfl rfl rfl rfl XH15 (mapI_one _) (by decide) hs2 (by show (p.rules.getD k r0).steps.length * 8 ≤ _ ∧ _; omega)) ?_
  refine Lo u56 (Zb (.inr rfl) rfl) ?_
  refine Ze (Zc ?_)
  refine ZY (Gh.freezeL (l := (p.rules.getD k r0).steps.map iI) 5 X.length rfl YL map_all (Nat.le_refl _) rfl) ?_
  rw [set_end]
  refine ZW [0, 1, 2, 3, 4, 5, 6, 7, 8, 9, 10, 11, 12, 13, 14, 15, 16, 17, 18, 19] #[0, 1, 0, 4, 0, 28, 60, 124, 0, 256, 0, 1792, 3840, 7936, 0, 32764, 65532, 131071, 262143, 524287] XH3 XH3 XH3 ?_
  refine Oo u56 .calm rfl (rfl) ?_
  refine Oo u56 .look rfl (W2r rfl rfl rfl rfl) ?_
  refine Oo u56 .calm rfl (rfl) ?_
  refine Oo u56 .look rfl (W2r rfl rfl rfl rfl) ?_
  refine Oo u56 .calm rfl (Zb (.inl rfl) rfl) ?_
  refine Oo u56 .calm rfl (W18 rfl rfl rfl rfl rfl rfl rfl) ?_
  refine Oo u56 .calm rfl (rfl) ?_
  refine Oo u56 .look rfl (W2r rfl rfl rfl rfl) ?_
  refine Oo u56 .calm rfl (rfl) ?_
  refine Oo u56 .look rfl (W2r rfl rfl rfl rfl) ?_
  refine Oo u56 .calm rfl (Zb (.inl rfl) rfl) ?_
  refine Oo u56 .calm rfl (W18 rfl rfl rfl rfl rfl rfl rfl) ?_
  refine Oo u56 .calm rfl (rfl) ?_
  refine Oo u56 .look rfl (W2r rfl rfl rfl rfl) ?_
  refine Oo u56 .calm rfl (Zb (.inl rfl) rfl) ?_
  refine Oo u56 .calm rfl (rfl) ?_
  refine Oo u56 .grow rfl (Zr rfl rfl (by decide) rfl) ?_
  refine O_opX .turn rfl rfl rfl (Ys rfl rfl rfl rfl rfl rfl rfl (by simp) (hl.app _) rfl rfl (by decide) XH26 (by decide)) rfl rfl ?_
  rintro _ _ ⟨Y1, rfl, rfl, hY1, hY2, hY3⟩
  refine O_env (env' := u56) rfl ?_
  refine Oo u56 .calm rfl (rfl) ?_
  refine Oo u56 .turn rfl (W13 rfl rfl rfl rfl rfl rfl rfl) ?_
  refine ZQ [] XH3 (trivial) ?_
  refine Zy (Zc (Za ?_))
  refine Lo u56 (Zb (.inl rfl) rfl) ?_
  refine Lo u56 (W14 rfl rfl rfl) ?_
  refine Lo u56 (Zb (.inr rfl) rfl) ?_
  refine Ze ?_
  refine Zw (mk 56 72057594037927905) (env' := u56) rfl ⟨k + 1, ?_, rfl, ?_⟩
  ·first | omega | (simp only []; omega)
  ·exact ⟨by omega, _, _, rfl, by rw [Yc (d := r0) (by omega)]; exact LV.pushF hY3⟩
 ·try simp only [qB, qN] at hc1
  refine ZD (ZB (Zv (ZC (Zc (Zd ?_)))))
  obtain rfl : k = p.rules.length := by omega
  rw [List.take_length] at hl
  refine YD 2 3 hl rfl rfl (by simp) fun X5 _ _ => ?_
  refine Ym (List.append_assoc _ _ _) ?_
  refine Za ?_
  refine Lo u56 (W2p rfl rfl rfl rfl rfl) ?_
  refine Lo u56 (W13 rfl rfl rfl rfl rfl rfl rfl) ?_
  refine Ze (Zc (Zl ?_))
  refine W5m (.inr rfl) (Yr rfl rfl rfl rfl XH0 XH6) ?_
  exact ⟨rfl, rfl⟩
theorem Twin_0 {x : SW} (H : Zf) (p : Pb) (e1 : p.who = []) (e2 : p.fixed = []) (e3 : p.rules = []) : F (psys x) 72 [.agg (pbB p)] H fun v G => v = .agg (pbB p) ∧ G = H := by
 obtain ⟨a1, a2, a3, a4, ⟨⟩⟩ := p
 have e1 : a2 = [] := e1
 have e2 : a3 = [] := e2
 have e3 : a4 = [] := e3
 subst e1 e2 e3
 refine Zt Tryd.func72 rfl u56 rfl ?_
 refine Zd (Za ?_)
 refine Lo u56 (ZH rfl rfl rfl) ?_
 refine Lo u56 (ZG rfl rfl) ?_
 refine Ze (Zc (Zd ?_))
 refine ZY (Gh.freezePtrL (cs := pbB (a1, [], [], [], ())) 1 0 rfl rfl rfl) ?_
 refine Za ?_
 refine Lo u56 (rfl) ?_
 refine Lo u56 (W2r rfl rfl rfl rfl) ?_
 refine Lo u56 (rfl) ?_
 refine Lo u56 (ZG rfl rfl) ?_
 refine Lo u56 (W13 rfl rfl rfl rfl rfl rfl rfl) ?_
 refine Ze (Zc (Zd (Za ?_)))
 refine Lo u56 (rfl) ?_
 refine Lo u56 (W2r rfl rfl rfl rfl) ?_
 refine Lo u56 (rfl) ?_
 refine Lo u56 (W2r rfl rfl rfl rfl) ?_
 refine Lo u56 (v_appN0 rfl rfl rfl rfl rfl rfl rfl (by decide)) ?_
 refine Lo u56 (rfl) ?_
 refine Lo u56 (W13 rfl rfl rfl rfl rfl rfl rfl) ?_
 refine Ze (Zc (Zd (Za ?_)))
 refine Lo u56 (rfl) ?_
 refine Lo u56 (W2r rfl rfl rfl rfl) ?_
 refine Lo u56 (rfl) ?_
 refine Lo u56 (W2r rfl rfl rfl rfl) ?_
 refine Lo u56 (v_appN0 rfl rfl rfl rfl rfl rfl rfl (by decide)) ?_
 refine Lo u56 (rfl) ?_
 refine Lo u56 (W13 rfl rfl rfl rfl rfl rfl rfl) ?_
 refine Ze (Zc (Zd (Zd (Za ?_))))
 refine Lo u56 (Zg (VVal.int .i64 0) (.inr rfl) rfl) ?_
 refine Ze (Zc (Zi ?_))
 refine Zu (mk 56 72057594037927905) (env' := u56) rfl ?_
 refine Zx (fun (k : Nat) => 0 - k) (fun (k : Nat) => [(4, iI (k : Nat))]) (fun (k : Nat) G => (k ≤ 0) ∧ G = H ++ [.dead, pqB 0 Yn Yn Yn, .cells [iI a1, .slice none 0 0 true 1, .slice none 0 0 true 1, Yn] true]) 0 rfl ?_ ?_
 ·refine ⟨?_, rfl⟩
  exact Nat.zero_le _
 rintro k _ ⟨hk, rfl⟩
 refine ZO (env' := u56) rfl ?_
 refine Zd (Zd (Za ?_))
 refine Lo u56 (Zb (.inl rfl) rfl) ?_
 refine Lo u56 (rfl) ?_
 refine Lo u56 (W2r rfl rfl rfl rfl) ?_
 refine Lo u56 (rfl) ?_
 refine Lo u56 (rfl) ?_
 refine Ze (Zc ?_)
 refine Zk _ rfl (fun hc1 => ?_) (fun hc1 => ?_)
 ·try simp only [qB, qN] at hc1
  exact absurd (Int.ofNat_lt.1 hc1) (Nat.not_lt_zero k)
 ·try simp only [qB, qN] at hc1
  refine ZD (ZB (Zv (ZC (Zc (Zd ?_)))))
  refine ZY (Gh.cellNilL 2 1 (es' := 1) rfl rfl) ?_
  refine ZY (Gh.cellNilL 2 2 (es' := 1) rfl rfl) ?_
  refine ZY (Gh.cellNilL 2 3 (es' := 3) rfl rfl) ?_
  refine Za ?_
  refine Lo u56 (W2p rfl rfl rfl rfl rfl) ?_
  refine Lo u56 (W13 rfl rfl rfl rfl rfl rfl rfl) ?_
  refine Ze (Zc (Zl ?_))
  refine W6h (.inr rfl) (Yr rfl rfl rfl rfl XH0 XH6) ?_
  exact ⟨rfl, rfl⟩
abbrev Zq {a0 a1 a2 a3 a4 a5 a6 a7 a8 a9 a10 a11 a12 a13 a14 a15 a16 a17 a18 a19 a20 a21 a22 a23 a24 a25 a26 a27 a28 a29 a30 a31 a32 a33 a34 a35 a36 a37 a38 a39 a40 a41 a42 a43 a44 a45 a46 a47 a48 a49 a50 a51 a52 a53 a54 a55 a56 a57 a58 a59 a60 a61 a62 a63 a64 a65 a66 a67 a68 a69 a70 a71 a72 a73 a74 a75 a76 a77 a78 a79 a80 a81 a82 a83 a84 a85 a86 a87 a88 a89 a90 a91 a92 a93 a94 a95 a96 a97 a98 a99 a100 a101 a102 a103 a104 a105 a106 a107 a108 a109 a110 a111 a112 a113 a114 a115 a116 a117 a118 a119 a120 a121 a122 : VVal} : VEnv := a0 :: a1 :: a2 :: a3 :: a4 :: a5 :: a6 :: a7 :: a8 :: a9 :: a10 :: a11 :: a12 :: a13 :: a14 :: a15 :: a16 :: a17 :: a18 :: a19 :: a20 :: a21 :: a22 :: a23 :: a24 :: a25 :: a26 :: a27 :: a28 :: a29 :: a30 :: a31 :: a32 :: a33 :: a34 :: a35 :: a36 :: a37 :: a38 :: a39 :: a40 :: a41 :: a42 :: a43 :: a44 :: a45 :: a46 :: a47 :: a48 :: a49 :: a50 :: a51 :: a52 :: a53 :: a54 :: a55 :: a56 :: a57 :: a58 :: a59 :: a60 :: a61 :: a62 :: a63 :: a64 :: a65 :: a66 :: a67 :: a68 :: a69 :: a70 :: a71 :: a72 :: a73 :: a74 :: a75 :: a76 :: a77 :: a78 :: a79 :: a80 :: a81 :: a82 :: a83 :: a84 :: a85 :: a86 :: a87 :: a88 :: a89 :: a90 :: a91 :: a92 :: a93 :: a94 :: a95 :: a96 :: a97 :: a98 :: a99 :: a100 :: a101 :: a102 :: a103 :: a104 :: a105 :: a106 :: a107 :: a108 :: a109 :: a110 :: a111 :: a112 :: a113 :: a114 :: a115 :: a116 :: a117 :: a118 :: a119 :: a120 :: a121 :: a122 :: []
theorem W6p {T : TypeId → Option VTy} {H : Zf} {op : Op} {ρ : Operand → VVal} {t : TypeId} {a : Operand} {y : VTy} {p v : VVal} (ho : op = .load t a) (ha : ρ a = p) (hy : T t = some y) (hd : Zm y.desc = false) (h : LdOk H p v := by first | exact .inl ⟨_, _, rfl, XH41⟩ | exact .inr ⟨_, _, _, _, rfl, by exact getQ rfl, XH41⟩) : vop T ρ H op = some (v, H) := Yu ho ha hy hd h
theorem W6r {T : TypeId → Option VTy} {H : Zf} {op : Op} {ρ : Operand → VVal} {t : TypeId} {a : Operand} {y : VTy} {p v : VVal} (ho : op = .load t a) (ha : ρ a = p) (hy : T t = some y) (hd : Zm y.desc = false) (h : LdOk H p v := by first | exact .inl ⟨_, _, rfl, XH41⟩ | exact .inr ⟨_, _, _, _, rfl, by exact ZJ rfl (Zo (get_endE hZl)), XH41⟩) : vop T ρ H op = some (v, H) := Yu ho ha hy hd h
theorem W6s {T : TypeId → Option VTy} {H : Zf} {op : Op} {ρ : VEnv} {H' : Zf} {t : TypeId} {a : Operand} {i : Nat} {v : VVal} {y : VTy} {b off : Nat} {cs new : List VVal} (ho : op = .store t a (.tmp i)) (hv : ρ[i]? = some v) (ha : ρ.eval a = .ptr (some (b, off))) (hy : T t = some y) (hx : v.cells = some new) (hn : new.length = y.size) (h1 : new.all VVal.one = true) (hb : H[b]? = some (.cells cs true) := by exact ZJ rfl (Zo (Zo hZ1))) (hl : off + new.length ≤ cs.length := by show 0 + ((s : Nat) : Int).toNat * 1 + 1 ≤ _; rw [List.length_map, YW]; omega) (hH : H.set b (.cells (ZE cs off new) true) = H' := by exact (ZP rfl).trans (by rw [Ya (by simp; have := ZF hZ1; omega), Ya (ZF hZ1)])) : vop T ρ.eval H op = some (.skip, H') := ZZ ho hv ha hy hx hn h1 hb hl hH
theorem W6t {T : TypeId → Option VTy} {H : Zf} {op : Op} {ρ : Operand → VVal} {t : TypeId} {a : Operand} {y : VTy} {p v : VVal} (ho : op = .load t a) (ha : ρ a = p) (hy : T t = some y) (hd : Zm y.desc = false) (h : LdOk H p v := by first | exact .inl ⟨_, _, rfl, XH41⟩ | exact .inr ⟨_, _, _, _, rfl, by exact ZJ rfl (Zo (get_endE (by rw [List.length_set]; exact hZl))), XH41⟩) : vop T ρ H op = some (v, H) := Yu ho ha hy hd h
theorem W6u {T : TypeId → Option VTy} {H : Zf} {op : Op} {ρ : Operand → VVal} {t : TypeId} {a : Operand} {y : VTy} {p : VVal} {n : Nat} {vs : List VVal} (ho : op = .load t a) (ha : ρ a = p) (hy : T t = some y) (hd : Zm y.desc = true) (hn : y.size = n) (h : LdOkA H p n vs := by first | exact .inl ⟨_, _, rfl, XH41⟩ | exact .inr ⟨_, _, _, _, rfl, by exact ZJ rfl (List.getElem?_set_self (by simp; omega)), XH41⟩) : vop T ρ H op = some (.agg vs, H) := v_ldA ho ha hy hd hn h
theorem fWithout_e {x : SW} (H : Zf) (p : Pb) (rs ss : List Int) (hp : PbL p) (hrl : rs.length ≤ 1000000) (hsl : ss.length ≤ 1000000) (he : ¬ woE p rs ss = 0) : F (psys x) 29 [.agg (pbB p), fzI rs, fzI ss] H fun v G => v = .tuple [.agg (pbB (woP p rs ss)), iI (woE p rs ss)] ∧ G = H := by
 have h2 := hp.w; have h3 := hp.r
 refine Zt Tryd.func29 rfl Zq rfl ?_
 refine Zd (Za ?_)
 refine Lo Zq (ZH rfl rfl rfl) ?_
 refine Lo Zq (ZG rfl rfl) ?_
 refine Lo Zq (Zg (VVal.int .i64 0) (.inr rfl) rfl) ?_
 refine Ze (Zc (Zd ?_))
 refine ZY (Gh.freezePtrL (cs := pbB p) 3 0 rfl rfl rfl) ?_
 refine Za ?_
 refine Lo Zq (W1t rfl rfl rfl rfl rfl) ?_
 refine Zs rfl rfl rfl (by exact fpCheck_spec _ p hp) ?_
 rintro _ _ ⟨rfl, rfl⟩
 refine Le Zq ?_
 refine Lo Zq (Zb (.inr rfl) rfl) ?_
 refine Ze (Zc (Zd (Zd (Za ?_))))
 refine Lo Zq (Zb (.inl rfl) rfl) ?_
 refine Lo Zq (rfl) ?_
 refine Ze (Zc ?_)
 refine Zk _ rfl (fun hc1 => ?_) (fun hc1 => ?_)
 ·try simp only [qB, qN] at hc1
  refine Zd (Za ?_)
  refine Lo Zq (rfl) ?_
  refine Lo Zq (Zb (.inl rfl) rfl) ?_
  refine Lo Zq (W13 rfl rfl rfl rfl rfl rfl rfl) ?_
  refine Lo Zq (Zb (.inr rfl) rfl) ?_
  refine Ze (Zc ?_)
  refine ZY (Gh.cellNilL 1 1 (es' := 1) rfl rfl) ?_
  refine ZY (Gh.cellNilL 1 2 (es' := 1) rfl rfl) ?_
  refine ZY (Gh.cellNilL 1 3 (es' := 3) rfl rfl) ?_
  refine Zl (Zn ?_)
  refine W5y (.inr rfl) (YB rfl rfl rfl rfl XH13 XH8 rfl) ?_
  exact W5z
 ·try simp only [qB, qN] at hc1
  refine Zj (Zc (Zd (Zd (Za ?_))))
  refine Lo Zq (Zg (VVal.int .i64 0) (.inr rfl) rfl) ?_
  refine Ze (Zc (Zi ?_))
  refine Zu (mk 123 10633823966279326983230456482242756017) (env' := Zq) rfl ?_
  refine Zx (fun (i : Nat) => rs.length - i) (fun (i : Nat) => [(9, iI (i : Nat))]) (fun (i : Nat) G => (i ≤ rs.length ∧ ltB (rs.take i) p.rules.length = true) ∧ G = H ++ [.dead, t6c]) 0 rfl ?_ ?_
  ·refine ⟨?_, rfl⟩
   exact ⟨Nat.zero_le _, rfl⟩
  rintro i _ ⟨⟨hi, hii⟩, rfl⟩
  refine ZO (env' := Zq) rfl ?_
  refine Zd (Zd (Za ?_))
  refine Lo Zq (Zb (.inl rfl) rfl) ?_
  refine Lo Zq (Zb (.inl rfl) rfl) ?_
  refine Lo Zq (rfl) ?_
  refine Lo Zq (rfl) ?_
  refine Ze (Zc ?_)
  refine Zk _ rfl (fun hc2 => ?_) (fun hc2 => ?_)
  ·try simp only [qB, qN] at hc2
   refine Zj (Zc (Zd (Zi (Zd ?_))))
   refine ZW [0, 1, 2, 3, 4, 5, 6, 7, 8, 9, 10, 11, 12, 13, 14] #[0, 0, 3, 7, 15, 31, 63, 63, 255, 511, 63, 1087, 3135, 8191, 16383] XH3 XH3 XH3 ?_
   refine Oo Zq .calm rfl (Zb (.inl rfl) rfl) ?_
   refine Oo Zq .calm rfl (Zb (.inl rfl) rfl) ?_
   refine Oo Zq .calm rfl (W18 rfl rfl rfl rfl rfl rfl rfl) ?_
   refine Oo Zq .look rfl (W1p rfl rfl rfl rfl) ?_
   refine Oo Zq .calm rfl (rfl) ?_
   refine Oo Zq .calm rfl (Zb (.inl rfl) rfl) ?_
   refine Y8 34 (env1 := Zq) (env2 := Zq) rfl rfl rfl (fun hg3 => ?_) (fun hg3 => ?_)
   ·try simp only [qB, qN] at hg3
    refine Of Zq rfl ?_
    refine Of Zq rfl ?_
    refine Of Zq rfl ?_
    refine Of Zq rfl ?_
    refine Of Zq rfl ?_
    refine Of Zq rfl ?_
    refine Of Zq rfl ?_
    refine Of Zq rfl ?_
    refine Oo Zq .calm rfl (ZN (VVal.bool true) rfl rfl rfl) ?_
    refine ZQ [] XH3 (trivial) ?_
    refine Zc ?_
    refine ZU rfl rfl ?_
    refine Zd (Za ?_)
    refine Lo Zq (rfl) ?_
    refine Lo Zq (W13 rfl rfl rfl rfl rfl rfl rfl) ?_
    refine Lo Zq (Zg (VVal.int .i64 1) (.inr rfl) rfl) ?_
    refine Ze (Zc ?_)
    refine ZY (Gh.cellNilL 1 1 (es' := 1) rfl rfl) ?_
    refine ZY (Gh.cellNilL 1 2 (es' := 1) rfl rfl) ?_
    refine ZY (Gh.cellNilL 1 3 (es' := 3) rfl rfl) ?_
    refine Zl (ZA (Zn (Z3 (ZA (Zn ?_)))))
    refine W5y (.inr rfl) (YB rfl rfl rfl rfl XH13 XH8 rfl) ?_
    exact W5z
   ·try simp only [qB, qN] at hg3
    refine Oo Zq .calm rfl (Zb (.inl rfl) rfl) ?_
    refine Oo Zq .calm rfl (Zb (.inl rfl) rfl) ?_
    refine Oo Zq .calm rfl (W18 rfl rfl rfl rfl rfl rfl rfl) ?_
    refine Oo Zq .look rfl (W1p rfl rfl rfl rfl) ?_
    refine Oo Zq .calm rfl (rfl) ?_
    refine Oo Zq .look rfl (W1p rfl rfl rfl rfl) ?_
    refine Oo Zq .look rfl (rfl) ?_
    refine Oo Zq .calm rfl (rfl) ?_
    refine Oo Zq .calm rfl (ZX rfl rfl rfl) ?_
    refine ZQ [] XH3 (trivial) ?_
    refine Zc ?_
    refine Zk _ rfl (fun hc4 => ?_) (fun hc4 => ?_)
    ·try simp only [qB, qN] at hc4
     refine Zd (Za ?_)
     refine Lo Zq (rfl) ?_
     refine Lo Zq (W13 rfl rfl rfl rfl rfl rfl rfl) ?_
     refine Lo Zq (Zg (VVal.int .i64 1) (.inr rfl) rfl) ?_
     refine Ze (Zc ?_)
     refine ZY (Gh.cellNilL 1 1 (es' := 1) rfl rfl) ?_
     refine ZY (Gh.cellNilL 1 2 (es' := 1) rfl rfl) ?_
     refine ZY (Gh.cellNilL 1 3 (es' := 3) rfl rfl) ?_
     refine Zl (ZA (Zn (Z3 (ZA (Zn ?_)))))
     refine W5y (.inr rfl) (YB rfl rfl rfl rfl XH13 XH8 rfl) ?_
     exact W5z
    ·try simp only [qB, qN] at hc4
     refine Zj (Zy (Zc (Za ?_)))
     refine Lo Zq (Zb (.inl rfl) rfl) ?_
     refine Lo Zq (W14 rfl rfl rfl) ?_
     refine Lo Zq (Zb (.inr rfl) rfl) ?_
     refine Ze ?_
     refine Zw (mk 123 10633823966279326983230456482242756017) (env' := Zq) rfl ⟨i + 1, ?_, rfl, ?_⟩
     ·first | omega | (simp only []; omega)
     ·exact ⟨⟨by omega, by rw [ltB_step (by omega), hii, decide_eq_true (by omega)]; rfl⟩, rfl⟩
  ·try simp only [qB, qN] at hc2
   refine ZD (ZB (Zv (ZC (Zc (Zd (Zd (Za ?_)))))))
   refine Lo Zq (Zg (VVal.int .i64 0) (.inr rfl) rfl) ?_
   refine Ze (Zc (Zi ?_))
   refine Zu (mk 123 10633823966279326983230456482242755505) (env' := Zq) rfl ?_
   refine Zx (fun (j : Nat) => ss.length - j) (fun (j : Nat) => [(10, iI (j : Nat))]) (fun (j : Nat) G => (j ≤ ss.length ∧ ltB (ss.take j) p.who.length = true) ∧ G = H ++ [.dead, t6c]) 0 rfl ?_ ?_
   ·refine ⟨?_, rfl⟩
    exact ⟨Nat.zero_le _, rfl⟩
   rintro j _ ⟨⟨hj, hij⟩, rfl⟩
   refine ZO (env' := Zq) rfl ?_
   refine Zd (Zd (Za ?_))
   refine Lo Zq (Zb (.inl rfl) rfl) ?_
   refine Lo Zq (Zb (.inl rfl) rfl) ?_
   refine Lo Zq (rfl) ?_
   refine Lo Zq (rfl) ?_
   refine Ze (Zc ?_)
   refine Zk _ rfl (fun hc5 => ?_) (fun hc5 => ?_)
   ·try simp only [qB, qN] at hc5
    refine Zj (Zc (Zd (Zi (Zd ?_))))
    refine ZW [0, 1, 2, 3, 4, 5, 6, 7, 8, 9, 10, 11, 12, 13, 14] #[0, 0, 3, 7, 15, 31, 63, 63, 255, 511, 63, 1087, 3135, 8191, 16383] XH3 XH3 XH3 ?_
    refine Oo Zq .calm rfl (Zb (.inl rfl) rfl) ?_
    refine Oo Zq .calm rfl (Zb (.inl rfl) rfl) ?_
    refine Oo Zq .calm rfl (W18 rfl rfl rfl rfl rfl rfl rfl) ?_
    refine Oo Zq .look rfl (W1p rfl rfl rfl rfl) ?_
    refine Oo Zq .calm rfl (rfl) ?_
    refine Oo Zq .calm rfl (Zb (.inl rfl) rfl) ?_
    refine Y8 56 (env1 := Zq) (env2 := Zq) rfl rfl rfl (fun hg6 => ?_) (fun hg6 => ?_)
    ·try simp only [qB, qN] at hg6
     refine Of Zq rfl ?_
     refine Of Zq rfl ?_
     refine Of Zq rfl ?_
     refine Of Zq rfl ?_
     refine Of Zq rfl ?_
     refine Of Zq rfl ?_
     refine Of Zq rfl ?_
     refine Of Zq rfl ?_
     refine Oo Zq .calm rfl (ZN (VVal.bool true) rfl rfl rfl) ?_
     refine ZQ [] XH3 (trivial) ?_
     refine Zc ?_
     refine ZU rfl rfl ?_
     refine Zd (Za ?_)
     refine Lo Zq (rfl) ?_
     refine Lo Zq (W13 rfl rfl rfl rfl rfl rfl rfl) ?_
     refine Lo Zq (Zg (VVal.int .i64 1) (.inr rfl) rfl) ?_
     refine Ze (Zc ?_)
     refine ZY (Gh.cellNilL 1 1 (es' := 1) rfl rfl) ?_
     refine ZY (Gh.cellNilL 1 2 (es' := 1) rfl rfl) ?_
     refine ZY (Gh.cellNilL 1 3 (es' := 3) rfl rfl) ?_
     refine Zl (ZA (Zn (Z3 (ZA (Zn ?_)))))
     refine W5y (.inr rfl) (YB rfl rfl rfl rfl XH13 XH8 rfl) ?_
     exact W5z
    ·try simp only [qB, qN] at hg6
     refine Oo Zq .calm rfl (Zb (.inl rfl) rfl) ?_
     refine Oo Zq .calm rfl (Zb (.inl rfl) rfl) ?_
     refine Oo Zq .calm rfl (W18 rfl rfl rfl rfl rfl rfl rfl) ?_
     refine Oo Zq .look rfl (W1p rfl rfl rfl rfl) ?_
     refine Oo Zq .calm rfl (rfl) ?_
     refine Oo Zq .look rfl (W1p rfl rfl rfl rfl) ?_
     refine Oo Zq .look rfl (rfl) ?_
     refine Oo Zq .calm rfl (rfl) ?_
     refine Oo Zq .calm rfl (ZX rfl rfl rfl) ?_
     refine ZQ [] XH3 (trivial) ?_
     refine Zc ?_
     refine Zk _ rfl (fun hc7 => ?_) (fun hc7 => ?_)
     ·try simp only [qB, qN] at hc7
      refine Zd (Za ?_)
      refine Lo Zq (rfl) ?_
      refine Lo Zq (W13 rfl rfl rfl rfl rfl rfl rfl) ?_
      refine Lo Zq (Zg (VVal.int .i64 1) (.inr rfl) rfl) ?_
      refine Ze (Zc ?_)
      refine ZY (Gh.cellNilL 1 1 (es' := 1) rfl rfl) ?_
      refine ZY (Gh.cellNilL 1 2 (es' := 1) rfl rfl) ?_
      refine ZY (Gh.cellNilL 1 3 (es' := 3) rfl rfl) ?_
      refine Zl (ZA (Zn (Z3 (ZA (Zn ?_)))))
      refine W5y (.inr rfl) (YB rfl rfl rfl rfl XH13 XH8 rfl) ?_
      exact W5z
     ·try simp only [qB, qN] at hc7
      refine Zj (Zy (Zc (Za ?_)))
      refine Lo Zq (Zb (.inl rfl) rfl) ?_
      refine Lo Zq (W14 rfl rfl rfl) ?_
      refine Lo Zq (Zb (.inr rfl) rfl) ?_
      refine Ze ?_
      refine Zw (mk 123 10633823966279326983230456482242755505) (env' := Zq) rfl ⟨j + 1, ?_, rfl, ?_⟩
      ·first | omega | (simp only []; omega)
      ·exact ⟨⟨by omega, by rw [ltB_step (by omega), hij, decide_eq_true (by omega)]; rfl⟩, rfl⟩
   ·try simp only [qB, qN] at hc5
    exfalso
    rw [List.take_of_length_le (by omega)] at hii hij
    exact he (woE_ok.2 ⟨pck_good.1 (by assumption), hii, hij⟩)
theorem fWithout_F {x : SW} (H : Zf) (p : Pb) (rs ss : List Int) (hp : PbL p) (hrl : rs.length ≤ 1000000) (hsl : ss.length ≤ 1000000) (he : woE p rs ss = 0) (hne : 0 < p.who.length) : F (psys x) 29 [.agg (pbB p), fzI rs, fzI ss] H fun v G => v = .tuple [.agg (pbB (woP p rs ss)), iI (woE p rs ss)] ∧ G = H := by
 obtain ⟨g, hlr, hls⟩ := woE_ok.1 he
 have g5 := g.fx; have h4 := g.r32; have h6 := g.n12; have h7 := g.u64; have h8 := g.u0
 refine Zt Tryd.func29 rfl Zq rfl ?_
 refine Zd (Za ?_)
 refine Lo Zq (ZH rfl rfl rfl) ?_
 refine Lo Zq (ZG rfl rfl) ?_
 refine Lo Zq (Zg (VVal.int .i64 0) (.inr rfl) rfl) ?_
 refine Ze (Zc (Zd ?_))
 refine ZY (Gh.freezePtrL (cs := pbB p) 3 0 rfl rfl rfl) ?_
 refine Za ?_
 refine Lo Zq (W1t rfl rfl rfl rfl rfl) ?_
 refine Zs rfl rfl rfl (by exact fpCheck_spec _ p hp) ?_
 rintro _ _ ⟨rfl, rfl⟩
 refine Le Zq ?_
 refine Lo Zq (Zb (.inr rfl) rfl) ?_
 refine Ze (Zc (Zd (Zd (Za ?_))))
 refine Lo Zq (Zb (.inl rfl) rfl) ?_
 refine Lo Zq (v_is false rfl (by rw [pck_good.2 g]; rfl)) ?_
 refine Ze (Zc ?_)
 refine Z5 rfl rfl ?_
 refine Zj (Zc (Zd (Zd (Za ?_))))
 refine Lo Zq (Zg (VVal.int .i64 0) (.inr rfl) rfl) ?_
 refine Ze (Zc (Zi ?_))
 refine Zu (mk 123 10633823966279326983230456482242756017) (env' := Zq) rfl ?_
 refine Zx (fun (i : Nat) => rs.length - i) (fun (i : Nat) => [(9, iI (i : Nat))]) (fun (i : Nat) G => (i ≤ rs.length) ∧ G = H ++ [.dead, t6c]) 0 rfl ?_ ?_
 ·refine ⟨?_, rfl⟩
  exact Nat.zero_le _
 rintro i _ ⟨hi, rfl⟩
 refine ZO (env' := Zq) rfl ?_
 refine Zd (Zd (Za ?_))
 refine Lo Zq (Zb (.inl rfl) rfl) ?_
 refine Lo Zq (Zb (.inl rfl) rfl) ?_
 refine Lo Zq (rfl) ?_
 refine Lo Zq (rfl) ?_
 refine Ze (Zc ?_)
 refine Zk _ rfl (fun hc1 => ?_) (fun hc1 => ?_)
 ·try simp only [qB, qN] at hc1
  refine Zj (Zc (Zd (Zi (Zd ?_))))
  obtain ⟨i9, hx1, hx2⟩ := ltB_at hlr (show i < rs.length by omega)
  refine ZW [0, 1, 2, 3, 4, 5, 6, 7, 8, 9, 10, 11, 12, 13, 14] #[0, 0, 3, 7, 15, 31, 63, 63, 255, 511, 63, 1087, 3135, 8191, 16383] XH3 XH3 XH3 ?_
  refine Oo Zq .calm rfl (Zb (.inl rfl) rfl) ?_
  refine Oo Zq .calm rfl (Zb (.inl rfl) rfl) ?_
  refine Oo Zq .calm rfl (W18 rfl rfl rfl rfl rfl rfl rfl) ?_
  refine Oo Zq .look rfl (W1p rfl rfl rfl rfl) ?_
  refine Oo Zq .calm rfl (v_is false rfl (decide_eq_false (by omega))) ?_
  refine Oo Zq .calm rfl (Zb (.inl rfl) rfl) ?_
  refine Oo Zq .calm rfl (Zb (.inl rfl) rfl) ?_
  refine Oo Zq .calm rfl (Zb (.inl rfl) rfl) ?_
  refine Oo Zq .calm rfl (W18 rfl rfl rfl rfl rfl rfl rfl) ?_
  refine Oo Zq .look rfl (W1p rfl rfl rfl rfl) ?_
  refine Oo Zq .calm rfl (rfl) ?_
  refine Oo Zq .look rfl (W1p rfl rfl rfl rfl) ?_
  refine Oo Zq .look rfl (rfl) ?_
  refine Oo Zq .calm rfl (v_is false rfl (decide_eq_false (by omega))) ?_
  refine Oo Zq .calm rfl (ZX rfl rfl rfl) ?_
  refine ZQ [] XH3 (trivial) ?_
  refine Zc ?_
  refine Z5 rfl rfl ?_
  refine Zj (Zy (Zc (Za ?_)))
  refine Lo Zq (Zb (.inl rfl) rfl) ?_
  refine Lo Zq (W14 rfl rfl rfl) ?_
  refine Lo Zq (Zb (.inr rfl) rfl) ?_
  refine Ze ?_
  refine Zw (mk 123 10633823966279326983230456482242756017) (env' := Zq) rfl ⟨i + 1, ?_, rfl, ?_⟩
  ·first | omega | (simp only []; omega)
  ·exact ⟨by omega, rfl⟩
 ·try simp only [qB, qN] at hc1
  refine ZD (ZB (Zv (ZC (Zc (Zd (Zd (Za ?_)))))))
  refine Lo Zq (Zg (VVal.int .i64 0) (.inr rfl) rfl) ?_
  refine Ze (Zc (Zi ?_))
  refine Zu (mk 123 10633823966279326983230456482242755505) (env' := Zq) rfl ?_
  refine Zx (fun (j : Nat) => ss.length - j) (fun (j : Nat) => [(10, iI (j : Nat))]) (fun (j : Nat) G => (j ≤ ss.length) ∧ G = H ++ [.dead, t6c]) 0 rfl ?_ ?_
  ·refine ⟨?_, rfl⟩
   exact Nat.zero_le _
  rintro j _ ⟨hj, rfl⟩
  refine ZO (env' := Zq) rfl ?_
  refine Zd (Zd (Za ?_))
  refine Lo Zq (Zb (.inl rfl) rfl) ?_
  refine Lo Zq (Zb (.inl rfl) rfl) ?_
  refine Lo Zq (rfl) ?_
  refine Lo Zq (rfl) ?_
  refine Ze (Zc ?_)
  refine Zk _ rfl (fun hc2 => ?_) (fun hc2 => ?_)
  ·try simp only [qB, qN] at hc2
   refine Zj (Zc (Zd (Zi (Zd ?_))))
   obtain ⟨i9, hx1, hx2⟩ := ltB_at hls (show j < ss.length by omega)
   refine ZW [0, 1, 2, 3, 4, 5, 6, 7, 8, 9, 10, 11, 12, 13, 14] #[0, 0, 3, 7, 15, 31, 63, 63, 255, 511, 63, 1087, 3135, 8191, 16383] XH3 XH3 XH3 ?_
   refine Oo Zq .calm rfl (Zb (.inl rfl) rfl) ?_
   refine Oo Zq .calm rfl (Zb (.inl rfl) rfl) ?_
   refine Oo Zq .calm rfl (W18 rfl rfl rfl rfl rfl rfl rfl) ?_
   refine Oo Zq .look rfl (W1p rfl rfl rfl rfl) ?_
   refine Oo Zq .calm rfl (v_is false rfl (decide_eq_false (by omega))) ?_
   refine Oo Zq .calm rfl (Zb (.inl rfl) rfl) ?_
   refine Oo Zq .calm rfl (Zb (.inl rfl) rfl) ?_
   refine Oo Zq .calm rfl (Zb (.inl rfl) rfl) ?_
   refine Oo Zq .calm rfl (W18 rfl rfl rfl rfl rfl rfl rfl) ?_
   refine Oo Zq .look rfl (W1p rfl rfl rfl rfl) ?_
   refine Oo Zq .calm rfl (rfl) ?_
   refine Oo Zq .look rfl (W1p rfl rfl rfl rfl) ?_
   refine Oo Zq .look rfl (rfl) ?_
   refine Oo Zq .calm rfl (v_is false rfl (decide_eq_false (by omega))) ?_
   refine Oo Zq .calm rfl (ZX rfl rfl rfl) ?_
   refine ZQ [] XH3 (trivial) ?_
   refine Zc ?_
   refine Z5 rfl rfl ?_
   refine Zj (Zy (Zc (Za ?_)))
   refine Lo Zq (Zb (.inl rfl) rfl) ?_
   refine Lo Zq (W14 rfl rfl rfl) ?_
   refine Lo Zq (Zb (.inr rfl) rfl) ?_
   refine Ze ?_
   refine Zw (mk 123 10633823966279326983230456482242755505) (env' := Zq) rfl ⟨j + 1, ?_, rfl, ?_⟩
   ·first | omega | (simp only []; omega)
   ·exact ⟨by omega, rfl⟩
  ·try simp only [qB, qN] at hc2
   refine ZD (ZB (Zv (ZC (Zc (Zd (Za ?_))))))
   refine Lo Zq (Zg (VVal.int .u64 0) (.inr rfl) rfl) ?_
   refine Ze (Zc (Zd (Zd (Za ?_))))
   refine Lo Zq (Zg (VVal.int .i64 0) (.inr rfl) rfl) ?_
   refine Ze (Zc (Zi ?_))
   refine Zu (mk 123 10633823966279326983230456482242750385) (env' := Zq) rfl ?_
   refine Zx (fun (u : Nat) => p.users.toNat - u) (fun (u : Nat) => [(11, iW (allW ((u : Nat) : Int))), (12, iI (u : Nat))]) (fun (u : Nat) G => (u ≤ p.users.toNat) ∧ G = H ++ [.dead, t6c]) 0 rfl ?_ ?_
   ·refine ⟨?_, rfl⟩
    exact Nat.zero_le _
   rintro u _ ⟨hu9, rfl⟩
   refine ZO (env' := Zq) rfl ?_
   refine Zd (Zd (Za ?_))
   refine Lo Zq (Zb (.inl rfl) rfl) ?_
   refine Lo Zq (rfl) ?_
   refine Lo Zq (W1p rfl rfl rfl rfl) ?_
   refine Lo Zq (rfl) ?_
   refine Ze (Zc ?_)
   refine Zk _ rfl (fun hc3 => ?_) (fun hc3 => ?_)
   ·try simp only [qB, qN] at hc3
    refine Zj (Zc (Zd (Zi (Za ?_))))
    refine Lo Zq (Zb (.inl rfl) rfl) ?_
    refine Lo Zq (Zb (.inl rfl) rfl) ?_
    refine Lo Zq (v_shl1 rfl rfl rfl XH4) ?_
    refine Lo Zq (v_val (v_orW rfl rfl rfl) (congrArg iW (allW_snoc (by omega)))) ?_
    refine Lo Zq (Zb (.inr rfl) rfl) ?_
    refine Ze (Zy (Zc (Za ?_)))
    refine Lo Zq (Zb (.inl rfl) rfl) ?_
    refine Lo Zq (W14 rfl rfl rfl) ?_
    refine Lo Zq (Zb (.inr rfl) rfl) ?_
    refine Ze ?_
    refine Zw (mk 123 10633823966279326983230456482242750385) (env' := Zq) rfl ⟨u + 1, ?_, rfl, ?_⟩
    ·first | omega | (simp only []; omega)
    ·exact ⟨by omega, rfl⟩
   ·try simp only [qB, qN] at hc3
    refine ZD (ZB (Zv (ZC (Zc (Zd ?_)))))
    obtain rfl : u = p.users.toNat := by omega
    rw [Int.toNat_of_nonneg g.u0]
    refine Za ?_
    refine Lo Zq (W1t rfl rfl rfl rfl rfl) ?_
    refine Zs rfl rfl rfl (by exact Twin_L _ p hp (by omega) hne (fun r hr => List.length_pos_iff.2 (rck_steps (g.ru r hr)).1)) ?_
    rintro _ _ ⟨Y, j, k, rfl, rfl, hY1, hY2, hjk⟩
    refine Le Zq ?_
    refine Lo Zq (ZG rfl rfl) ?_
    refine Lo Zq (W13 rfl rfl rfl rfl rfl rfl rfl) ?_
    refine Ze (Zc (Zd (Za ?_)))
    refine Lo Zq (rfl) ?_
    refine Lo Zq (Yk (VVal.slice none 0 0 true 0) rfl rfl rfl rfl rfl rfl rfl XH0 XH5 XH1) ?_
    refine Ze (Zc (Zd (Zd (Za ?_))))
    refine Lo Zq (Zg (VVal.int .i64 0) (.inr rfl) rfl) ?_
    refine Ze (Zc (Zi ?_))
    refine Zu (mk 123 10633823966279326983230456482242729905) (env' := Zq) rfl ?_
    refine Zx (fun (i : Nat) => p.rules.length - i) (fun (i : Nat) => [(14, iI (i : Nat))]) (fun (i : Nat) G => (i ≤ p.rules.length) ∧ ∃ lv X, G = ((H ++ [.dead, t6c]) ++ (Y ++ [.cells [iI p.users, .slice (some ((H ++ [.dead, t6c]).length + j, 0)) p.who.length p.who.length false 1, .slice (some ((H ++ [.dead, t6c]).length + k, 0)) p.fixed.length p.fixed.length false 1, lv] true])) ++ X ∧ LV (H.length + 2 + (Y.length + 1)) 3 X lv ((mpR p rs i).flatMap rlB) (mpR p rs i).length) 0 rfl ?_ ?_
    ·refine ⟨?_, ⟨_, [], by rw [List.append_nil]; rfl, LV.nil _ _ _⟩⟩
     exact Nat.zero_le _
    rintro i _ ⟨hi, ⟨lv, X, rfl, hl⟩⟩
    refine ZO (env' := Zq) rfl ?_
    refine Zd (Zd (Za ?_))
    refine Lo Zq (Zb (.inl rfl) rfl) ?_
    refine Lo Zq (rfl) ?_
    refine Lo Zq (W1p rfl rfl rfl rfl) ?_
    refine Lo Zq (rfl) ?_
    refine Lo Zq (rfl) ?_
    refine Ze (Zc ?_)
    refine Zk _ rfl (fun hc4 => ?_) (fun hc4 => ?_)
    ·try simp only [qB, qN] at hc4
     refine Zj (Zc (Zd (Zi (Zd (Za ?_)))))
     refine Lo Zq (Zb (.inl rfl) rfl) ?_
     refine Lo Zq (Zb (.inl rfl) rfl) ?_
     refine Zs rfl rfl rfl (by exact fin_spec _ rs i hrl) ?_
     rintro _ _ ⟨rfl, rfl⟩
     refine Le Zq ?_
     refine Lo Zq (rfl) ?_
     refine Ze (Zc ?_)
     refine Zk _ rfl (fun hc5 => ?_) (fun hc5 => ?_)
     ·try simp only [qB, qN] at hc5
      refine Zd (Za ?_)
      refine Lo Zq (W1t rfl rfl rfl rfl rfl) ?_
      refine Zs rfl rfl rfl (by exact Twin_F _ p hp (by omega) hne (fun r hr => List.length_pos_iff.2 (rck_steps (g.ru r hr)).1)) ?_
      rintro _ _ ⟨rfl, rfl⟩
      refine Le Zq ?_
      refine Lo Zq (ZG rfl rfl) ?_
      refine Lo Zq (W13 rfl rfl rfl rfl rfl rfl rfl) ?_
      refine Ze (Zc ?_)
      refine ZW [0, 1, 2, 3, 4, 5, 6, 7, 8, 9, 10] #[0, 1, 0, 4, 0, 28, 60, 124, 255, 511, 1023] XH3 XH3 XH3 ?_
      refine Oo Zq .calm rfl (rfl) ?_
      refine Oo Zq .look rfl (W6p rfl rfl rfl rfl) ?_
      refine Oo Zq .calm rfl (rfl) ?_
      refine Oo Zq .look rfl (W1p rfl rfl rfl rfl) ?_
      refine Oo Zq .calm rfl (Zb (.inl rfl) rfl) ?_
      refine Oo Zq .calm rfl (W18 rfl rfl rfl rfl rfl rfl rfl) ?_
      refine Oo Zq .look rfl (W1t rfl rfl rfl rfl rfl) ?_
      refine Oo Zq .grow rfl (Zr rfl rfl (by decide) rfl) ?_
      refine O_opX .turn rfl rfl rfl (Ys rfl rfl rfl rfl rfl rfl rfl (by simp; omega) (hl.app _) rfl rfl (by decide) (by have := @mpR_len p rs i; show (_ + 1) * 40 ≤ _ ∧ _ + 1 ≤ _; omega) (by decide)) rfl rfl ?_
      rintro _ _ ⟨Y1, rfl, rfl, hX1, hX2, hX3⟩
      refine O_env (env' := Zq) rfl ?_
      refine Oo Zq .calm rfl (rfl) ?_
      refine Oo Zq .turn rfl (W63 rfl rfl rfl rfl rfl rfl rfl) ?_
      refine ZQ [] XH3 (trivial) ?_
      refine Zy (Zc (Za ?_))
      refine Lo Zq (Zb (.inl rfl) rfl) ?_
      refine Lo Zq (W14 rfl rfl rfl) ?_
      refine Lo Zq (Zb (.inr rfl) rfl) ?_
      refine Ze ?_
      refine Zw (mk 123 10633823966279326983230456482242729905) (env' := Zq) rfl ⟨i + 1, ?_, rfl, ?_⟩
      ·first | omega | (simp only []; omega)
      ·first | exact ⟨by omega, _, _, rfl, by rw [mpR_step, if_neg (by simp_all)]; exact LV.pushF hX3⟩ | exact ⟨by omega, _, _, rfl, by rw [mpR_step, if_pos (by simp_all), List.append_nil]; exact hl⟩
     ·try simp only [qB, qN] at hc5
      refine Zj (Zy (Zc (Za ?_)))
      refine Lo Zq (Zb (.inl rfl) rfl) ?_
      refine Lo Zq (W14 rfl rfl rfl) ?_
      refine Lo Zq (Zb (.inr rfl) rfl) ?_
      refine Ze ?_
      refine Zw (mk 123 10633823966279326983230456482242729905) (env' := Zq) rfl ⟨i + 1, ?_, rfl, ?_⟩
      ·first | omega | (simp only []; omega)
      ·first | exact ⟨by omega, _, _, rfl, by rw [mpR_step, if_neg (by simp_all)]; exact LV.pushF hX3⟩ | exact ⟨by omega, _, _, rfl, by rw [mpR_step, if_pos (by simp_all), List.append_nil]; exact hl⟩
    ·try simp only [qB, qN] at hc4
     refine ZD (ZB (Zv (ZC (Zc (Zd (Zd ?_))))))
     obtain rfl : i = p.rules.length := by omega
     refine YD (H := (H ++ [.dead, t6c])) (L := Y ++ [.cells [iI p.users, .slice (some ((H ++ [.dead, t6c]).length + j, 0)) p.who.length p.who.length false 1, .slice (some ((H ++ [.dead, t6c]).length + k, 0)) p.fixed.length p.fixed.length false 1, lv] true]) Y.length 3 hl YL rfl (by simp; omega) fun X5 _ _ => ?_
     rw [set_end]
     refine Ym (List.append_assoc _ _ _) ?_
     refine Za ?_
     refine Lo Zq (Zg (VVal.int .i64 0) (.inr rfl) rfl) ?_
     refine Ze (Zc (Zi ?_))
     refine Zu (mk 123 10633823966279326983230456482242680755) (env' := Zq) rfl ?_
     refine Zx (fun (s : Nat) => p.who.length - s) (fun (s : Nat) => [(16, iI (s : Nat))]) (fun (s : Nat) G => (s ≤ p.who.length) ∧ ∃ Z, G = (H ++ [.dead, t6c]) ++ ((Z ++ [.cells [iI p.users, .slice (some ((H ++ [.dead, t6c]).length + j, 0)) p.who.length p.who.length false 1, .slice (some ((H ++ [.dead, t6c]).length + k, 0)) p.fixed.length p.fixed.length false 1, fzR (mpR p rs p.rules.length)] true]) ++ X5) ∧ Z.length = Y.length ∧ Z[j]? = some (.cells ((mpW p (fun m => decide (m < s) && inB ss m)).map iW) true) ∧ Z[k]? = some (.cells ((mpF p (fun m => decide (m < s) && inB ss m)).map iI) true)) 0 rfl ?_ ?_
     ·refine ⟨?_, ⟨Y, rfl, rfl, by rw [beg_f, mpW_no]; exact hY1, by rw [beg_f, mpF_no g5]; exact hY2⟩⟩
      exact Nat.zero_le _
     rintro s _ ⟨hs9, ⟨Z, rfl, hZl, hZ1, hZ2⟩⟩
     refine ZO (env' := Zq) rfl ?_
     refine Zd (Zd (Za ?_))
     refine Lo Zq (Zb (.inl rfl) rfl) ?_
     refine Lo Zq (rfl) ?_
     refine Lo Zq (W1p rfl rfl rfl rfl) ?_
     refine Lo Zq (rfl) ?_
     refine Lo Zq (rfl) ?_
     refine Ze (Zc ?_)
     refine Zk _ rfl (fun hc6 => ?_) (fun hc6 => ?_)
     ·try simp only [qB, qN] at hc6
      refine Zj (Zc (Zd (Zi (Zd (Za ?_)))))
      refine Lo Zq (Zb (.inl rfl) rfl) ?_
      refine Lo Zq (Zb (.inl rfl) rfl) ?_
      refine Zs rfl rfl rfl (by exact fin_spec _ ss s hsl) ?_
      rintro _ _ ⟨rfl, rfl⟩
      refine Le Zq ?_
      refine Ze (Zc ?_)
      refine Zk _ rfl (fun hc7 => ?_) (fun hc7 => ?_)
      ·try simp only [qB, qN] at hc7
       refine Zd ?_
       have hin : inB ss s = true := by assumption
       refine Za ?_
       refine Lo Zq (rfl) ?_
       refine Lo Zq (W6r rfl rfl rfl rfl) ?_
       refine Lo Zq (Zb (.inl rfl) rfl) ?_
       refine Lo Zq (Zb (.inl rfl) rfl) ?_
       refine Lo Zq (W18 rfl rfl rfl rfl rfl rfl rfl) ?_
       refine Lo Zq (W6s rfl rfl rfl rfl rfl rfl rfl) ?_
       refine Ze (Zc (Za ?_))
       refine Lo Zq (rfl) ?_
       refine Lo Zq (W6t rfl rfl rfl rfl) ?_
       refine Lo Zq (Zb (.inl rfl) rfl) ?_
       refine Lo Zq (W18 rfl rfl rfl rfl rfl rfl rfl) ?_
       refine Lo Zq (Yk (VVal.int .i64 (-1)) rfl rfl rfl rfl rfl rfl rfl (by exact ZJ rfl (Zo (Zo (by rw [List.getElem?_set_ne hjk]; exact hZ2)))) (by show 0 + ((s : Nat) : Int).toNat * 1 + 1 ≤ _; rw [List.length_map, YX]; omega) (by exact (ZP rfl).trans (by rw [Ya (by simp; have := ZF hZ2; omega), Ya XH28]))) ?_
       refine Ze (Zy (Zc (Za ?_)))
       refine Lo Zq (Zb (.inl rfl) rfl) ?_
       refine Lo Zq (W14 rfl rfl rfl) ?_
       refine Lo Zq (Zb (.inr rfl) rfl) ?_
       refine Ze ?_
       refine Zw (mk 123 10633823966279326983230456482242680755) (env' := Zq) rfl ⟨s + 1, ?_, rfl, ?_⟩
       ·first | omega | (simp only []; omega)
       ·first | exact ⟨by omega, _, rfl, by rw [List.length_set, List.length_set]; exact hZl, by rw [List.getElem?_set_ne (Ne.symm hjk), List.getElem?_set_self (ZF hZ1)]; exact congrArg (fun l => some (VBlk.cells l true)) (stepWr (by omega) hin), by rw [List.getElem?_set_self XH28]; exact congrArg (fun l => some (VBlk.cells l true)) (stepFr (by omega) hin)⟩ | exact ⟨by omega, _, rfl, hZl, by rw [← stp_no (by assumption)]; exact hZ1, by rw [← stp_no (by assumption)]; exact hZ2⟩
      ·try simp only [qB, qN] at hc7
       refine Zj (Zy (Zc (Za ?_)))
       refine Lo Zq (Zb (.inl rfl) rfl) ?_
       refine Lo Zq (W14 rfl rfl rfl) ?_
       refine Lo Zq (Zb (.inr rfl) rfl) ?_
       refine Ze ?_
       refine Zw (mk 123 10633823966279326983230456482242680755) (env' := Zq) rfl ⟨s + 1, ?_, rfl, ?_⟩
       ·first | omega | (simp only []; omega)
       ·first | exact ⟨by omega, _, rfl, by rw [List.length_set, List.length_set]; exact hZl, by rw [List.getElem?_set_ne (Ne.symm hjk), List.getElem?_set_self (ZF hZ1)]; exact congrArg (fun l => some (VBlk.cells l true)) (stepWr (by omega) hin), by rw [List.getElem?_set_self XH28]; exact congrArg (fun l => some (VBlk.cells l true)) (stepFr (by omega) hin)⟩ | exact ⟨by omega, _, rfl, hZl, by rw [← stp_no (by assumption)]; exact hZ1, by rw [← stp_no (by assumption)]; exact hZ2⟩
     ·try simp only [qB, qN] at hc6
      refine ZD (ZB (Zv (ZC (Zc (Zd ?_)))))
      obtain rfl : s = p.who.length := by omega
      rw [endW] at hZ1
      rw [endF] at hZ2
      have hjl := ZF hZ1; have hkl := ZF hZ2
      refine ZY (Gh.cellL (H := (H ++ [.dead, t6c])) (l := (mpW p (inB ss)).map iW) Y.length 1 j (Zo (get_endE hZl)) rfl (by omega) (Zo (Zo hZ1)) (Yf (by rw [List.length_map, YW])) (Nat.le_refl _)) ?_
      refine ZY (Gh.cellL (H := (H ++ [.dead, t6c])) (l := (mpF p (inB ss)).map iI) Y.length 2 k (List.getElem?_set_self (by simp; omega)) rfl (by omega) (by rw [List.getElem?_set_ne (by omega), List.getElem?_set_ne hjk]; exact Zo (Zo hZ2)) (Yf (by rw [List.length_map, YX, g5])) (Nat.le_refl _)) ?_
      refine Za ?_
      refine Lo Zq (W6u rfl rfl rfl rfl rfl) ?_
      refine Lo Zq (W68 rfl rfl rfl rfl rfl rfl rfl) ?_
      refine Lo Zq (Zg (VVal.int .i64 0) (.inr rfl) rfl) ?_
      refine Ze (Zc ?_)
      refine Ym (List.append_assoc _ _ _) ?_
      refine Zl ?_
      refine W69 (.inr rfl) (YB rfl rfl rfl rfl XH13 XH8 rfl) ?_
      exact ⟨by rw [he, woP_ok he]; show _ = VVal.tuple [.agg [iI p.users, .fsl ((mpW p (inB ss)).map iW) (mpW p (inB ss)).length 1 false, .fsl ((mpF p (inB ss)).map iI) (mpF p (inB ss)).length 1 false, fzR (mpR p rs p.rules.length)], iI 0]; rw [YW, YX, g5]; rfl, rfl⟩
theorem fWithout_0 {x : SW} (H : Zf) (p : Pb) (rs ss : List Int) (hp : PbL p) (hrl : rs.length ≤ 1000000) (hsl : ss.length ≤ 1000000) (he : woE p rs ss = 0) (h0 : p.who = []) : F (psys x) 29 [.agg (pbB p), fzI rs, fzI ss] H fun v G => v = .tuple [.agg (pbB (woP p rs ss)), iI (woE p rs ss)] ∧ G = H := by
 obtain ⟨g, hlr, hls⟩ := woE_ok.1 he
 obtain ⟨h1, h2⟩ := woP_0 g h0
 have h3 : ss = [] := ltB_0 (by rw [h0] at hls; exact hls)
 have h5 : rs = [] := ltB_0 (by rw [h2] at hlr; exact hlr)
 have h7 := g.u64; have h8 := g.u0
 refine Zt Tryd.func29 rfl Zq rfl ?_
 refine Zd (Za ?_)
 refine Lo Zq (ZH rfl rfl rfl) ?_
 refine Lo Zq (ZG rfl rfl) ?_
 refine Lo Zq (Zg (VVal.int .i64 0) (.inr rfl) rfl) ?_
 refine Ze (Zc (Zd ?_))
 refine ZY (Gh.freezePtrL (cs := pbB p) 3 0 rfl rfl rfl) ?_
 refine Za ?_
 refine Lo Zq (W1t rfl rfl rfl rfl rfl) ?_
 refine Zs rfl rfl rfl (by exact fpCheck_spec _ p hp) ?_
 rintro _ _ ⟨rfl, rfl⟩
 refine Le Zq ?_
 refine Lo Zq (Zb (.inr rfl) rfl) ?_
 refine Ze (Zc (Zd (Zd (Za ?_))))
 refine Lo Zq (Zb (.inl rfl) rfl) ?_
 refine Lo Zq (v_is false rfl (by rw [pck_good.2 g]; rfl)) ?_
 refine Ze (Zc ?_)
 refine Z5 rfl rfl ?_
 refine Zj (Zc (Zd (Zd (Za ?_))))
 refine Lo Zq (Zg (VVal.int .i64 0) (.inr rfl) rfl) ?_
 refine Ze (Zc (Zi ?_))
 refine Zu (mk 123 10633823966279326983230456482242756017) (env' := Zq) rfl ?_
 refine Zx (fun (i : Nat) => rs.length - i) (fun (i : Nat) => [(9, iI (i : Nat))]) (fun (i : Nat) G => (i ≤ rs.length) ∧ G = H ++ [.dead, t6c]) 0 rfl ?_ ?_
 ·refine ⟨?_, rfl⟩
  exact Nat.zero_le _
 rintro i _ ⟨hi, rfl⟩
 refine ZO (env' := Zq) rfl ?_
 refine Zd (Zd (Za ?_))
 refine Lo Zq (Zb (.inl rfl) rfl) ?_
 refine Lo Zq (Zb (.inl rfl) rfl) ?_
 refine Lo Zq (rfl) ?_
 refine Lo Zq (rfl) ?_
 refine Ze (Zc ?_)
 refine Zk _ rfl (fun hc1 => ?_) (fun hc1 => ?_)
 ·try simp only [qB, qN] at hc1
  exfalso
  rw [h5] at hc1; simp at hc1; omega
 ·try simp only [qB, qN] at hc1
  refine ZD (ZB (Zv (ZC (Zc (Zd (Zd (Za ?_)))))))
  refine Lo Zq (Zg (VVal.int .i64 0) (.inr rfl) rfl) ?_
  refine Ze (Zc (Zi ?_))
  refine Zu (mk 123 10633823966279326983230456482242755505) (env' := Zq) rfl ?_
  refine Zx (fun (j : Nat) => ss.length - j) (fun (j : Nat) => [(10, iI (j : Nat))]) (fun (j : Nat) G => (j ≤ ss.length) ∧ G = H ++ [.dead, t6c]) 0 rfl ?_ ?_
  ·refine ⟨?_, rfl⟩
   exact Nat.zero_le _
  rintro j _ ⟨hj, rfl⟩
  refine ZO (env' := Zq) rfl ?_
  refine Zd (Zd (Za ?_))
  refine Lo Zq (Zb (.inl rfl) rfl) ?_
  refine Lo Zq (Zb (.inl rfl) rfl) ?_
  refine Lo Zq (rfl) ?_
  refine Lo Zq (rfl) ?_
  refine Ze (Zc ?_)
  refine Zk _ rfl (fun hc2 => ?_) (fun hc2 => ?_)
  ·try simp only [qB, qN] at hc2
   exfalso
   rw [h3] at hc2; simp at hc2; omega
  ·try simp only [qB, qN] at hc2
   refine ZD (ZB (Zv (ZC (Zc (Zd (Za ?_))))))
   refine Lo Zq (Zg (VVal.int .u64 0) (.inr rfl) rfl) ?_
   refine Ze (Zc (Zd (Zd (Za ?_))))
   refine Lo Zq (Zg (VVal.int .i64 0) (.inr rfl) rfl) ?_
   refine Ze (Zc (Zi ?_))
   refine Zu (mk 123 10633823966279326983230456482242750385) (env' := Zq) rfl ?_
   refine Zx (fun (u : Nat) => p.users.toNat - u) (fun (u : Nat) => [(11, iW (allW ((u : Nat) : Int))), (12, iI (u : Nat))]) (fun (u : Nat) G => (u ≤ p.users.toNat) ∧ G = H ++ [.dead, t6c]) 0 rfl ?_ ?_
   ·refine ⟨?_, rfl⟩
    exact Nat.zero_le _
   rintro u _ ⟨hu9, rfl⟩
   refine ZO (env' := Zq) rfl ?_
   refine Zd (Zd (Za ?_))
   refine Lo Zq (Zb (.inl rfl) rfl) ?_
   refine Lo Zq (rfl) ?_
   refine Lo Zq (W1p rfl rfl rfl rfl) ?_
   refine Lo Zq (rfl) ?_
   refine Ze (Zc ?_)
   refine Zk _ rfl (fun hc3 => ?_) (fun hc3 => ?_)
   ·try simp only [qB, qN] at hc3
    refine Zj (Zc (Zd (Zi (Za ?_))))
    refine Lo Zq (Zb (.inl rfl) rfl) ?_
    refine Lo Zq (Zb (.inl rfl) rfl) ?_
    refine Lo Zq (v_shl1 rfl rfl rfl XH4) ?_
    refine Lo Zq (v_val (v_orW rfl rfl rfl) (congrArg iW (allW_snoc (by omega)))) ?_
    refine Lo Zq (Zb (.inr rfl) rfl) ?_
    refine Ze (Zy (Zc (Za ?_)))
    refine Lo Zq (Zb (.inl rfl) rfl) ?_
    refine Lo Zq (W14 rfl rfl rfl) ?_
    refine Lo Zq (Zb (.inr rfl) rfl) ?_
    refine Ze ?_
    refine Zw (mk 123 10633823966279326983230456482242750385) (env' := Zq) rfl ⟨u + 1, ?_, rfl, ?_⟩
    ·first | omega | (simp only []; omega)
    ·exact ⟨by omega, rfl⟩
   ·try simp only [qB, qN] at hc3
    refine ZD (ZB (Zv (ZC (Zc (Zd ?_)))))
    obtain rfl : u = p.users.toNat := by omega
    rw [Int.toNat_of_nonneg g.u0]
    refine Za ?_
    refine Lo Zq (W1t rfl rfl rfl rfl rfl) ?_
    refine Zs rfl rfl rfl (by exact Twin_0 _ p h0 h1 h2) ?_
    rintro _ _ ⟨rfl, rfl⟩
    refine Le Zq ?_
    refine Lo Zq (ZG rfl rfl) ?_
    refine Lo Zq (W13 rfl rfl rfl rfl rfl rfl rfl) ?_
    refine Ze (Zc (Zd (Za ?_)))
    refine Lo Zq (rfl) ?_
    refine Lo Zq (Yk (VVal.slice none 0 0 true 0) rfl rfl rfl rfl rfl rfl rfl XH0 XH5 XH1) ?_
    refine Ze (Zc (Zd (Zd ?_)))
    refine ZY (Gh.cellNilL 2 3 (es' := 3) rfl rfl) ?_
    refine Za ?_
    refine Lo Zq (Zg (VVal.int .i64 0) (.inr rfl) rfl) ?_
    refine Ze (Zc (Zi ?_))
    refine Zu (mk 123 10633823966279326983230456482242729905) (env' := Zq) rfl ?_
    refine Zx (fun (i : Nat) => p.rules.length - i) (fun (i : Nat) => [(14, iI (i : Nat))]) (fun (i : Nat) G => (i ≤ p.rules.length) ∧ G = H ++ [.dead, t6c, .cells [iI p.users, fzW p.who, fzI p.fixed, .fsl [] 0 3 false] true]) 0 rfl ?_ ?_
    ·refine ⟨?_, rfl⟩
     exact Nat.zero_le _
    rintro i _ ⟨hi, rfl⟩
    refine ZO (env' := Zq) rfl ?_
    refine Zd (Zd (Za ?_))
    refine Lo Zq (Zb (.inl rfl) rfl) ?_
    refine Lo Zq (rfl) ?_
    refine Lo Zq (W1p rfl rfl rfl rfl) ?_
    refine Lo Zq (rfl) ?_
    refine Lo Zq (rfl) ?_
    refine Ze (Zc ?_)
    refine Zk _ rfl (fun hc4 => ?_) (fun hc4 => ?_)
    ·try simp only [qB, qN] at hc4
     exfalso
     rw [h2] at hc4; simp at hc4; omega
    ·try simp only [qB, qN] at hc4
     refine ZD (ZB (Zv (ZC (Zc (Zd (Zd (Za ?_)))))))
     refine Lo Zq (Zg (VVal.int .i64 0) (.inr rfl) rfl) ?_
     refine Ze (Zc (Zi ?_))
     refine Zu (mk 123 10633823966279326983230456482242680755) (env' := Zq) rfl ?_
     refine Zx (fun (s : Nat) => p.who.length - s) (fun (s : Nat) => [(16, iI (s : Nat))]) (fun (s : Nat) G => (s ≤ p.who.length) ∧ G = H ++ [.dead, t6c, .cells [iI p.users, fzW p.who, fzI p.fixed, .fsl [] 0 3 false] true]) 0 rfl ?_ ?_
     ·refine ⟨?_, rfl⟩
      exact Nat.zero_le _
     rintro s _ ⟨hs9, rfl⟩
     refine ZO (env' := Zq) rfl ?_
     refine Zd (Zd (Za ?_))
     refine Lo Zq (Zb (.inl rfl) rfl) ?_
     refine Lo Zq (rfl) ?_
     refine Lo Zq (W1p rfl rfl rfl rfl) ?_
     refine Lo Zq (rfl) ?_
     refine Lo Zq (rfl) ?_
     refine Ze (Zc ?_)
     refine Zk _ rfl (fun hc5 => ?_) (fun hc5 => ?_)
     ·try simp only [qB, qN] at hc5
      exfalso
      rw [h0] at hc5; simp at hc5; omega
     ·try simp only [qB, qN] at hc5
      refine ZD (ZB (Zv (ZC (Zc (Zd (Za ?_))))))
      refine Lo Zq (W1t rfl rfl rfl rfl rfl) ?_
      refine Lo Zq (W13 rfl rfl rfl rfl rfl rfl rfl) ?_
      refine Lo Zq (Zg (VVal.int .i64 0) (.inr rfl) rfl) ?_
      refine Ze (Zc (Zl ?_))
      refine W6a (.inr rfl) (YB rfl rfl rfl rfl XH13 XH8 rfl) ?_
      exact ⟨by rw [he, woP_ok he, woQ_0 g h0]; rfl, rfl⟩
theorem fWithout_spec {x : SW} (H : Zf) (p : Pb) (rs ss : List Int) (hp : PbL p) (hrl : rs.length ≤ 1000000) (hsl : ss.length ≤ 1000000) : F (psys x) 29 [.agg (pbB p), fzI rs, fzI ss] H fun v G => v = .tuple [.agg (pbB (woP p rs ss)), iI (woE p rs ss)] ∧ G = H := by
  by_cases he : woE p rs ss = 0
  · by_cases h0 : p.who.length = 0
    · exact fWithout_0 H p rs ss hp hrl hsl he (List.eq_nil_of_length_eq_zero h0)
    · exact fWithout_F H p rs ss hp hrl hsl he (by omega)
  · exact fWithout_e H p rs ss hp hrl hsl he
end Go.Proofs.YtgbahioegcpjiaaDoor.VT
