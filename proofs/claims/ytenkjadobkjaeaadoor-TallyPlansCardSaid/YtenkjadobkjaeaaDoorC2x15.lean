/- Proved: Rows.TallyPlansCardSaid, the statement TallyPlans with its card, of the given program at the commit; no conditions beyond those in the statement. -/
import Derived.Test.YtenkjadobkjaeaaDoorC2x14
set_option autoImplicit false
set_option linter.unusedVariables false
set_option linter.unusedSimpArgs false
set_option maxHeartbeats 4000000
set_option maxRecDepth 100000
namespace Go.Proofs.YtenkjadobkjaeaaDoor.VT
open Go Go.V Go.RowKit
abbrev u26 {a0 a1 a2 a3 a4 a5 a6 a7 a8 a9 a10 a11 a12 a13 a14 a15 a16 a17 a18 a19 a20 a21 a22 a23 a24 a25 : VVal} : VEnv := a0 :: a1 :: a2 :: a3 :: a4 :: a5 :: a6 :: a7 :: a8 :: a9 :: a10 :: a11 :: a12 :: a13 :: a14 :: a15 :: a16 :: a17 :: a18 :: a19 :: a20 :: a21 :: a22 :: a23 :: a24 :: a25 :: []
theorem W5x {T : TypeId → Option VTy} {H : Zf} {op : Op} {ρ : Operand → VVal} {t : TypeId} {a : Operand} {y : VTy} {p v : VVal} (ho : op = .load t a) (ha : ρ a = p) (hy : T t = some y) (hd : Zp y.desc = false) (h : LdOk H p v := by first | exact .inl ⟨_, _, rfl, by first | exact fget (α := BitVec 64) 0 (by omega) | exact fget0 (α := BitVec 64) 0 (by omega) | exact YP (α := BitVec 64) 0 (by omega)⟩ | exact .inr ⟨_, _, _, _, rfl, by exact Zw hb, by first | exact fget (α := BitVec 64) 0 (by omega) | exact fget0 (α := BitVec 64) 0 (by omega) | exact YP (α := BitVec 64) 0 (by omega)⟩) : vop T ρ H op = some (v, H) := v_ld ho ha hy hd h
theorem W5z {T : TypeId → Option VTy} {H : Zf} {op : Op} {ρ : Operand → VVal} {t : TypeId} {a : Operand} {y : VTy} {p : VVal} {n : Nat} {vs : List VVal} (ho : op = .load t a) (ha : ρ a = p) (hy : T t = some y) (hd : Zp y.desc = true) (hn : y.size = n) (h : LdOkA H p n vs := by first | exact .inl ⟨_, _, rfl, XH42⟩ | exact .inr ⟨_, _, _, _, rfl, XH40, XH42⟩) : vop T ρ H op = some (.agg vs, H) := v_ldA ho ha hy hd hn h
theorem W60 {S : V.Sys} {H : Zf} {fn : Func} {ex : Exit} {env : VEnv} {B L : Zf} {v : VVal} {R : VVal → Zf → Prop} (hx : ex = .normal ∨ ex = .ret) (hv : Yb S.C.T env (B ++ L) fn.results = some v) (h : R v B) (hB : BaseOk H B := by exact XH48) (hu : v.under H.length = true := by first | rfl | exact Yt _ _) : fnK S fn H R ex env (B ++ L) := Yp hx hv hB hu h
theorem W61 {P : Prop} (h : P := by first | exact ⟨by rw [liA_no (by assumption)]; rfl, rfl⟩ | exact ⟨by rw [liA_0 (by omega)]; rfl, rfl⟩ | exact ⟨by rw [liA_in h0, hE]; show _ = VVal.fsl _ s9.length 1 false; rw [hsl], rfl⟩) : P := h
theorem W62 {T : TypeId → Option VTy} {H : Zf} {op : Op} {ρ : Operand → VVal} {t : TypeId} {a : Operand} {y : VTy} {p v : VVal} (ho : op = .load t a) (ha : ρ a = p) (hy : T t = some y) (hd : Zp y.desc = false) (h : LdOk H p v := by first | exact .inl ⟨_, _, rfl, XH42⟩ | exact .inr ⟨_, _, _, _, rfl, XH40, XH42⟩) : vop T ρ H op = some (v, H) := v_ld ho ha hy hd h
theorem W64 {T : TypeId → Option VTy} {H : Zf} {op : Op} {ρ : Operand → VVal} {t e : TypeId} {x i : Operand} {y z : VTy} {k : IntKind} {n : Int} {p v : VVal} {es : Nat} (ho : op = .indexAddr t x i) (hx : ρ x = p) (hi : ρ i = .int k n) (hy : T t = some y) (hd : y.desc = .slice e) (hz : T e = some z) (hs : z.size = es) (h : IxOk p es n v := by first | exact .inl ⟨_, _, _, rfl, by constructor <;> omega, rfl⟩ | exact .inr ⟨_, _, _, _, _, rfl, by constructor <;> omega, rfl⟩) : vop T ρ H op = some (v, H) := v_ix ho hx hi hy hd hz hs h
theorem W65 {T : TypeId → Option VTy} {H : Zf} {op : Op} {ρ : VEnv} {H' : Zf} {t : TypeId} {a : Operand} {i : Nat} {v : VVal} {y : VTy} {b off : Nat} {cs new : List VVal} (ho : op = .store t a (.tmp i)) (hv : ρ[i]? = some v) (ha : ρ.eval a = .ptr (some (b, off))) (hy : T t = some y) (hx : v.cells = some new) (hn : new.length = y.size) (h1 : new.all VVal.one = true) (hb : H[b]? = some (.cells cs true) := by exact XH40) (hl : off + new.length ≤ cs.length := by show 0 + ((k : Nat) : Int).toNat * 1 + 1 ≤ _; rw [List.length_map, wsK_len]; omega) (hH : H.set b (.cells (ZJ cs off new) true) = H' := by exact (ZR rfl).trans (congrArg (fun z => H ++ [VBlk.dead, _, VBlk.cells z true, _, _]) (wsK_set (by omega)))) : vop T ρ.eval H op = some (.skip, H') := Yc ho hv ha hy hx hn h1 hb hl hH
theorem W66 {T : TypeId → Option VTy} {H : Zf} {op : Op} {ρ : Operand → VVal} {t : TypeId} {a : Operand} {y : VTy} {p v : VVal} (ho : op = .load t a) (ha : ρ a = p) (hy : T t = some y) (hd : Zp y.desc = false) (h : LdOk H p v := by first | exact .inl ⟨_, _, rfl, XH42⟩ | exact .inr ⟨_, _, _, _, rfl, by exact getB rfl rfl, XH42⟩) : vop T ρ H op = some (v, H) := v_ld ho ha hy hd h
theorem W67 {T : TypeId → Option VTy} {H : Zf} {op : Op} {ρ : VEnv} {H' : Zf} {t : TypeId} {a : Operand} {i : Nat} {v : VVal} {y : VTy} {b off : Nat} {cs new : List VVal} (ho : op = .store t a (.tmp i)) (hv : ρ[i]? = some v) (ha : ρ.eval a = .ptr (some (b, off))) (hy : T t = some y) (hx : v.cells = some new) (hn : new.length = y.size) (h1 : new.all VVal.one = true) (hb : H[b]? = some (.cells cs true) := by exact getB rfl rfl) (hl : off + new.length ≤ cs.length := by show 0 + ((k : Nat) : Int).toNat * 1 + 1 ≤ _; rw [List.length_map, Yz]; omega) (hH : H.set b (.cells (ZJ cs off new) true) = H' := by exact (setB rfl (show 1 < 6 by decide)).trans (congrArg (fun z => (H ++ [VBlk.dead, VBlk.cells z true, _, _, _, _]) ++ _) (liK_st (by omega) (by omega)))) : vop T ρ.eval H op = some (.skip, H') := Yc ho hv ha hy hx hn h1 hb hl hH
theorem W68 {T : TypeId → Option VTy} {H : Zf} {op : Op} {ρ : Operand → VVal} {t : TypeId} {a : Operand} {y : VTy} {p v : VVal} (ho : op = .load t a) (ha : ρ a = p) (hy : T t = some y) (hd : Zp y.desc = false) (h : LdOk H p v := by first | exact .inl ⟨_, _, rfl, XH42⟩ | exact .inr ⟨_, _, _, _, rfl, by exact ZN rfl rfl, XH42⟩) : vop T ρ H op = some (v, H) := v_ld ho ha hy hd h
def liA (p : Pb) : List (BitVec 64) := if pck p = 0 then liF (wsP p) (ptP p) (List.replicate p.who.length 0#64) else []
theorem liA_no {p : Pb} (h : ¬ pck p = 0) : liA p = [] := if_neg h
theorem liA_in {p : Pb} (h : pck p = 0) : liA p = liF (wsP p) (ptP p) (List.replicate p.who.length 0#64) := if_pos h
theorem liA_len {p : Pb} (h : pck p = 0) : (liA p).length = p.who.length := by rw [liA_in h, liF_len (by rw [List.length_replicate, Yv]), Yv]
theorem liA_0 {p : Pb} (h : p.who.length = 0) : liA p = [] := by
  by_cases e : pck p = 0
  · exact List.eq_nil_of_length_eq_zero ((liA_len e).trans h)
  · exact liA_no e
def wsK (p : Pb) (k : Nat) : List (BitVec 64) := (List.range p.who.length).map fun i => if i < k then wrd p i else 0#64
theorem wsK_len {p : Pb} {k : Nat} : (wsK p k).length = p.who.length := by unfold wsK; simp
theorem wsK_0 {p : Pb} : wsK p 0 = List.replicate p.who.length 0#64 := by
  apply List.ext_getElem (by rw [wsK_len, List.length_replicate])
  intro i h1 h2
  unfold wsK; simp
theorem wsK_all {p : Pb} : wsK p p.who.length = wsP p := by
  apply List.ext_getElem (by rw [wsK_len, Yv])
  intro i h1 h2
  simp only [wsK_len] at h1
  simp [wsK, wsP, h1]
theorem wsK_set {p : Pb} {k : Nat} (h : k < p.who.length) : ZJ ((wsK p k).map iW) (0 + ((k : Nat) : Int).toNat * 1) [iW (wrd p k)] = (wsK p (k + 1)).map iW := by
  rw [Int.toNat_natCast, spl_W (by rw [wsK_len]; exact h)]
  congr 1
  apply List.ext_getElem (by rw [List.length_set, wsK_len, wsK_len])
  intro i h1 h2
  have h3 : i < p.who.length := by rw [wsK_len] at h2; exact h2
  rw [List.getElem_set]
  by_cases e : k = i
  · subst e; simp [wsK]
  · have e3 : i < k ↔ i < k + 1 := by omega
    simp [wsK, e, e3]
theorem liK_st {ws : List (BitVec 64)} {a : List Nat} {l : List (BitVec 64)} {b k : Nat} (hk : k < l.length) (h : a.getD k 0 = b) : ZJ ((liK ws a l b k).map iW) (0 + ((k : Nat) : Int).toNat * 1) [iW ((liK ws a l b k).getD ((k : Nat) : Int).toNat 0 ||| frW (Yh ws a a.length) b)] = (liK ws a l b (k + 1)).map iW := by
  rw [Int.toNat_natCast, spl_W (by rw [Yz]; exact hk), liK_set hk h]
theorem fv_is {l : List (BitVec 64)} {b : Nat} (h1 : l.length ≤ 12) (h2 : b < l.length) : MM.freeV l ((b : Nat) : Int) = frW l b := by
  unfold MM.freeV; rw [if_pos ⟨h1, by omega, by omega⟩, Int.toNat_natCast]
theorem EqualW_spec {x : SW} (H : Zf) (b : Nat) (e : Bool) (l m : List (BitVec 64)) (hb : H[b]? = some (.cells (l.map iW) true)) (h1 : l.length ≤ 1000000) : F (psys x) 62 [.slice (some (b, 0)) l.length l.length e 1, fzW m] H fun v G => v = .bool (decide (l = m)) ∧ G = H := by
 refine Zq Tryd.func62 rfl u26 rfl ?_
 refine Zd (Za ?_)
 refine Lo u26 (Zg (VVal.bool false) (.inr rfl) rfl) ?_
 refine Ze (Zc (Zd (Zd (Za ?_))))
 refine Lo u26 (Zb (.inl rfl) rfl) ?_
 refine Lo u26 (rfl) ?_
 refine Lo u26 (Zb (.inl rfl) rfl) ?_
 refine Lo u26 (rfl) ?_
 refine Lo u26 (rfl) ?_
 refine Ze (Zc ?_)
 refine Zk _ rfl (fun hc1 => ?_) (fun hc1 => ?_)
 ·try simp only [qB, qN] at hc1
  refine Zd (Za ?_)
  refine Lo u26 (Zg (VVal.bool false) (.inr rfl) rfl) ?_
  refine Ze (Zc (Zi (Zn ?_)))
  refine W10 (.inr rfl) (Zh rfl rfl) ?_
  exact ⟨by rw [decide_eq_false (fun e => by rw [e] at hc1; omega)], rfl⟩
 ·try simp only [qB, qN] at hc1
  refine Zj (Zc (Zd (Zd (Za ?_))))
  refine Lo u26 (Zb (.inl rfl) rfl) ?_
  refine Lo u26 (rfl) ?_
  refine Lo u26 (Zg (VVal.int .i64 0) (.inl rfl) rfl) ?_
  refine Ze (Zc (Zl ?_))
  refine Zz (mk 26 67096572) (env' := u26) rfl ?_
  refine ZE (fun (k : Nat) => l.length - k) (fun (k : Nat) => [(13, iI (k : Nat))]) (fun (k : Nat) G => (k ≤ l.length ∧ ∀ j, j < k → l.getD j 0 = m.getD j 0) ∧ G = H ++ []) 0 rfl ?_ ?_
  ·refine ⟨?_, rfl⟩
   exact ⟨Nat.zero_le _, fun j h => by omega⟩
  rintro k _ ⟨⟨hk, hall⟩, rfl⟩
  refine ZV (env' := u26) rfl ?_
  refine Zd (Za ?_)
  refine Lo u26 (rfl) ?_
  refine Ze (Zc (Zd ?_))
  refine Zk _ rfl (fun hc2 => ?_) (fun hc2 => ?_)
  ·try simp only [qB, qN] at hc2
   refine Zj (Zc (Zd (Zl (Zd (Za ?_)))))
   refine Lo u26 (Zb (.inl rfl) rfl) ?_
   refine Lo u26 (Zb (.inr rfl) rfl) ?_
   refine Ze (Zc (Zd ?_))
   refine ZU [0, 1, 2, 3, 4, 5, 6, 7, 8] #[0, 0, 3, 7, 0, 0, 48, 112, 255] XH5 XH5 XH5 ?_
   refine Oo u26 .calm rfl (Zb (.inl rfl) rfl) ?_
   refine Oo u26 .calm rfl (Zb (.inl rfl) rfl) ?_
   refine Oo u26 .calm rfl (W18 rfl rfl rfl rfl rfl rfl rfl) ?_
   refine Oo u26 .look rfl (W5x rfl rfl rfl rfl) ?_
   refine Oo u26 .calm rfl (Zb (.inl rfl) rfl) ?_
   refine Oo u26 .calm rfl (Zb (.inl rfl) rfl) ?_
   refine Oo u26 .calm rfl (W18 rfl rfl rfl rfl rfl rfl rfl) ?_
   refine Oo u26 .look rfl (W5x rfl rfl rfl rfl) ?_
   refine Oo u26 .calm rfl (rfl) ?_
   refine Z3 [] XH5 (trivial) ?_
   refine Zc ?_
   refine Zk _ rfl (fun hc3 => ?_) (fun hc3 => ?_)
   ·try simp only [qB, qN] at hc3
    refine Zd (Za ?_)
    refine Lo u26 (Zg (VVal.bool false) (.inr rfl) rfl) ?_
    refine Ze (Zc (Zi (ZD (Zn (Yd (ZD (Zn ?_)))))))
    refine W10 (.inr rfl) (Zh rfl rfl) ?_
    exact ⟨by rw [decide_eq_false (fun e => by subst e; exact hc3 rfl)], rfl⟩
   ·try simp only [qB, qN] at hc3
    refine Zj (Zr (Zc (Za ?_)))
    refine Lo u26 (W14 rfl rfl rfl) ?_
    refine Lo u26 (Zb (.inl rfl) rfl) ?_
    refine Ze ?_
    refine Zt (mk 26 67096572) (env' := u26) rfl ⟨k + 1, ?_, rfl, ?_⟩
    ·first | omega | (simp only []; omega)
    ·exact ⟨⟨by omega, fun j hj => by by_cases e : j = k; (subst e; assumption); exact hall j (by omega)⟩, rfl⟩
  ·try simp only [qB, qN] at hc2
   refine ZG (ZH (Zx (ZF (Zc (Zd (Za ?_))))))
   refine Lo u26 (Zg (VVal.bool true) (.inr rfl) rfl) ?_
   refine Ze (Zc (Zi ?_))
   refine W10 (.inr rfl) (Zh rfl rfl) ?_
   have e := eq_getD (d := 0) (by omega) (fun j hj => hall j (by omega))
   exact ⟨by rw [decide_eq_true e], rfl⟩
theorem EqualW_n {x : SW} (H : Zf) (b n n2 : Nat) (e : Bool) (l m : List (BitVec 64)) (hb : H[b]? = some (.cells (l.map iW) true)) (h1 : n ≤ 1000000) (hn : l.length = n) (hm : m.length = n2) : F (psys x) 62 [.slice (some (b, 0)) n n e 1, .fsl (m.map iW) n2 1 false] H fun v G => v = .bool (decide (l = m)) ∧ G = H := by
  subst hn; subst hm
  exact EqualW_spec H b e l m hb h1
theorem tLive_spec {x : SW} (H : Zf) (p : Pb) (hp : PbL p) : F (psys x) 33 [.agg (pbB p)] H fun v G => v = fzW (liA p) ∧ G = H := by
 refine Zq Tryd.func33 rfl u76 rfl ?_
 refine Zd (Za ?_)
 refine Lo u76 (ZQ rfl rfl rfl) ?_
 refine Lo u76 (Zg (VVal.slice none 0 0 true 0) (.inr rfl) rfl) ?_
 refine Ze (Zc (Zd (Zd ?_)))
 refine B_gh (Gh.freezePtrL (cs := pbB p) 1 0 rfl rfl rfl) ?_
 refine Za ?_
 refine Lo u76 (W5z rfl rfl rfl rfl rfl) ?_
 refine Zy rfl rfl rfl (by exact sCheck_spec _ p hp) ?_
 rintro _ _ ⟨rfl, rfl⟩
 refine Le u76 ?_
 refine Lo u76 (rfl) ?_
 refine Lo u76 (Zb (.inl rfl) rfl) ?_
 refine Zu 15 (env1 := u76) (env2 := u76) rfl rfl rfl (fun hg1 => ?_) (fun hg1 => ?_)
 ·try simp only [qB, qN] at hg1
  refine Lf u76 ?_
  refine Lf u76 ?_
  refine Lf u76 ?_
  refine Lf u76 ?_
  refine Lo u76 (ZB (VVal.bool true) rfl rfl rfl) ?_
  refine Ze (Zc ?_)
  refine ZL rfl rfl ?_
  refine Zd (Za ?_)
  refine Lo u76 (Zg (VVal.slice none 0 0 true 0) (.inr rfl) rfl) ?_
  refine Ze (Zc ?_)
  refine B_gh (Gh.freezeNil 2 (es' := 1) rfl rfl) ?_
  refine Zi (Zn ?_)
  refine W60 (.inr rfl) (Zh rfl rfl) ?_
  exact W61
 ·try simp only [qB, qN] at hg1
  refine Lo u76 (rfl) ?_
  refine Lo u76 (W62 rfl rfl rfl rfl) ?_
  refine Lo u76 (rfl) ?_
  refine Lo u76 (rfl) ?_
  refine Lo u76 (ZW rfl rfl rfl) ?_
  refine Ze (Zc ?_)
  refine Zk _ rfl (fun hc2 => ?_) (fun hc2 => ?_)
  ·try simp only [qB, qN] at hc2
   refine Zd (Za ?_)
   refine Lo u76 (Zg (VVal.slice none 0 0 true 0) (.inr rfl) rfl) ?_
   refine Ze (Zc ?_)
   refine B_gh (Gh.freezeNil 2 (es' := 1) rfl rfl) ?_
   refine Zi (Zn ?_)
   refine W60 (.inr rfl) (Zh rfl rfl) ?_
   exact W61
  ·try simp only [qB, qN] at hc2
   refine Zj (Zc (Zd ?_))
   have h0 : pck p = 0 := by first | assumption | simp_all
   have g := pck_good.1 h0
   have g1 := g.n12; have g5 := g.fx
   have hne : ¬ p.who.length = 0 := by first | (have h9 := hc2; simp at h9; omega) | omega | simp_all
   have hwl := Yv (p := p)
   refine ZU [0, 1, 2, 3, 4, 5, 6, 7, 8, 9, 10, 11] #[0, 1, 3, 7, 0, 16, 48, 112, 0, 0, 783, 2047] XH5 XH5 XH5 ?_
   refine Oo u76 .calm rfl (rfl) ?_
   refine Oo u76 .look rfl (W62 rfl rfl rfl rfl) ?_
   refine Oo u76 .look rfl (rfl) ?_
   refine Oo u76 .grow rfl (v_makeSlice rfl rfl rfl rfl rfl (by decide) ⟨by omega, Int.le_refl _, by show (p.who.length : Int) * (8 : Nat) ≤ _; omega, by omega⟩) ?_
   refine Oo u76 .calm rfl (rfl) ?_
   refine Yo (env' := u76) (x := .look _ _) rfl rfl rfl (W62 rfl rfl rfl rfl) rfl rfl rfl ?_
   refine Yo (env' := u76) (x := .look _ _) rfl rfl rfl (rfl) rfl rfl rfl ?_
   refine Yo (env' := u76) (x := .grow _) rfl rfl rfl (v_makeSlice rfl rfl rfl rfl rfl (by decide) ⟨by omega, Int.le_refl _, by show (p.who.length : Int) * (8 : Nat) ≤ _; omega, by omega⟩) rfl rfl rfl ?_
   refine Oo u76 .grow rfl (Z4 rfl rfl) ?_
   refine Oo u76 .grow rfl (Z4 rfl rfl) ?_
   refine Yo (env' := u76) (x := .turn _ _) rfl rfl rfl (W13 rfl rfl rfl rfl rfl rfl rfl) rfl rfl rfl ?_
   refine Oo u76 .turn rfl (W13 rfl rfl rfl rfl rfl rfl rfl) ?_
   refine O_nilP [(5, 10), (6, 10), (7, 10)] XH5 (And.intro ⟨_, _, _, _, ⟨(gA (gA (gA (gA (gA (gA (gL XH5))))))), (gA (gL XH5)), And.intro (W62 rfl rfl rfl rfl) (W62 rfl rfl rfl rfl)⟩⟩ (And.intro ⟨_, _, _, _, ⟨(gA (gA (gA (gA (gA (gL XH5)))))), (gA (gL XH5)), And.intro (rfl) (rfl)⟩⟩ (And.intro ⟨_, _, _, _, ⟨(gA (gA (gA (gA (gL XH5))))), (gA (gL XH5)), (by simp [V.fine])⟩⟩ (trivial)))) ?_
   refine Zc (Zd (Zd ?_))
   refine B_heap (H' := H ++ [.dead, .cells ((List.replicate p.who.length 0#64).map iW) true, .cells ((wsK p 0).map iW) true, .cells [.slice (some (H.length + 1, 0)) p.who.length p.who.length true 1] true, .cells [.slice (some (H.length + 2, 0)) p.who.length p.who.length true 1] true]) (by rw [wsK_0, ← MM.rep_w]; rfl) ?_
   refine Za ?_
   refine Lo u76 (W62 rfl rfl rfl rfl) ?_
   refine Lo u76 (rfl) ?_
   refine Lo u76 (Zg (VVal.int .i64 0) (.inl rfl) rfl) ?_
   refine Ze (Zc (Zl ?_))
   refine Zz (mk 76 75557863725911102193637) (env' := u76) rfl ?_
   refine ZE (fun (k : Nat) => p.who.length - k) (fun (k : Nat) => [(31, iI (k : Nat))]) (fun (k : Nat) G => (k ≤ p.who.length) ∧ G = H ++ [.dead, .cells ((List.replicate p.who.length 0#64).map iW) true, .cells ((wsK p k).map iW) true, .cells [.slice (some (H.length + 1, 0)) p.who.length p.who.length true 1] true, .cells [.slice (some (H.length + 2, 0)) p.who.length p.who.length true 1] true]) 0 rfl ?_ ?_
   ·refine ⟨?_, rfl⟩
    exact Nat.zero_le _
   rintro k _ ⟨hk, rfl⟩
   refine ZV (env' := u76) rfl ?_
   refine Zd (Za ?_)
   refine Lo u76 (rfl) ?_
   refine Ze (Zc (Zd ?_))
   refine Zk _ rfl (fun hc3 => ?_) (fun hc3 => ?_)
   ·try simp only [qB, qN] at hc3
    refine Zj (Zc (Zd (Zl (Zd (Za ?_)))))
    refine Lo u76 (Zb (.inl rfl) rfl) ?_
    refine Lo u76 (Zb (.inr rfl) rfl) ?_
    refine Ze (Zc ?_)
    refine ZU [0, 1, 2, 3, 4, 5, 6] #[0, 0, 0, 0, 12, 31, 63] XH5 XH5 XH5 ?_
    refine Yo (env' := u76) (x := .look _ _) rfl rfl rfl (W62 rfl rfl rfl rfl) rfl rfl rfl ?_
    refine Oo u76 .calm rfl (Zb (.inl rfl) rfl) ?_
    refine Oo u76 .look rfl (W5z rfl rfl rfl rfl rfl) ?_
    refine Oo u76 .calm rfl (Zb (.inl rfl) rfl) ?_
    refine Z8 (env' := u76) rfl rfl rfl rfl rfl (by exact Word_spec _ p k (by omega) (by omega)) XH10 rfl rfl ?_
    refine Oo u76 .calm rfl (W64 rfl rfl rfl rfl rfl rfl rfl) ?_
    refine Oo u76 .turn rfl (W65 rfl rfl rfl rfl rfl rfl rfl) ?_
    refine O_nilP [(0, 4)] XH5 (And.intro ⟨_, _, _, _, ⟨(gA (gA (gA (gA (gA (gA (gL XH5))))))), (gA (gA (gL XH5))), And.intro (W62 rfl rfl rfl rfl) (W62 rfl rfl rfl rfl)⟩⟩ (trivial)) ?_
    refine Zr (Zc (Za ?_))
    refine Lo u76 (W14 rfl rfl rfl) ?_
    refine Lo u76 (Zb (.inl rfl) rfl) ?_
    refine Ze ?_
    refine Zt (mk 76 75557863725911102193637) (env' := u76) rfl ⟨k + 1, ?_, rfl, ?_⟩
    ·first | omega | (simp only []; omega)
    ·exact ⟨by omega, rfl⟩
   ·try simp only [qB, qN] at hc3
    refine ZG (ZH (Zx (ZF (Zc (Zd (Zd ?_))))))
    obtain rfl : k = p.who.length := by omega
    rw [wsK_all]
    refine B_gh (Gh.cellL (l := (wsP p).map iW) 4 0 2 rfl rfl (by decide) rfl (Yx (by simp [hwl])) (Nat.le_refl _)) ?_
    refine Za ?_
    refine Lo u76 (W5z rfl rfl rfl rfl rfl) ?_
    refine Zy rfl rfl rfl (by exact tpat_spec _ p) ?_
    rintro _ _ ⟨rfl, rfl⟩
    refine Le u76 ?_
    refine Ze (Zc (Zl ?_))
    refine Zz (mk 76 75557863721516276908007) (env' := u76) rfl ?_
    refine B_rangeJ (fvP p) 2 (fun _ => rfl) (ptP p) (fun l0 h => by cases h) rfl (fun l9 G9 K9 hI9 => tpat1_spec l9 p hp G9 K9 hI9) (σ := {q : List (BitVec 64) // q.length = p.who.length}) (fun k s => H ++ [.dead, .cells ((s.1).map iW) true, .dead, .cells [.slice (some (H.length + 1, 0)) p.who.length p.who.length true 1] true, .cells [.fsl ((wsP p).map iW) p.who.length 1 false] true, k]) ⟨(List.replicate p.who.length 0#64), List.length_replicate ..⟩ (fun k => by rw [List.append_assoc]; rfl) (fun k s => by simp) (fun k s => by rw [show (H ++ _ : Zf).length = H.length + 5 by simp]; exact ZN rfl rfl) (fun k k1 s => by rw [show (H ++ _ : Zf).length = H.length + 5 by simp]; exact ZR rfl) (fun pre s => ∀ z, ptP p = pre ++ z → liF (wsP p) (ptP p) (List.replicate p.who.length 0#64) = liF (wsP p) z s.1) ?_ (fun j pre c s => (j = Code.exit 2 ∧ (liF (wsP p) (ptP p) (List.replicate p.who.length 0#64) = s.1))) rfl ?_ ?_ ?_
    ·exact fun z hz => by rw [hz]; rfl
    ·intro pre c post s hx hI Lp kr kb hkr hkb
     obtain ⟨s9, hs9⟩ := s
     try dsimp only at hI ⊢
     have hs9 : s9.length = p.who.length := hs9
     have hc9 : c ∈ ptP p := by rw [hx]; simp
     obtain ⟨h0, hpc, hcl, _, _⟩ := ptP_mem hc9
     have hbl := @YD (wsP p) c c.length
     have hz := @szP_le c c.length
     have hI9 := hI _ hx
     refine ZV (env' := u76) rfl ?_
     refine Zd (Za ?_)
     refine Lo u76 (Zb (.inr rfl) rfl) ?_
     refine Ze (Zc (Za ?_))
     refine Lo u76 (Zb (.inr rfl) rfl) ?_
     refine Ze ?_
     refine ⟨rfl, ⟨s9, hs9⟩, rfl, ?_⟩
     try dsimp only
     refine Zl (Zd (Zd (Za ?_)))
     refine Lo u76 (Zb (.inl rfl) rfl) ?_
     refine Lo u76 (rfl) ?_
     refine Lo u76 (Zg (VVal.int .i64 0) (.inl rfl) rfl) ?_
     refine Ze (Zc (Zl ?_))
     refine Zz (mk 76 75557863514808090885927) (env' := u76) rfl ?_
     refine ZE (fun (b : Nat) => szP c c.length - b) (fun (b : Nat) => [(47, iI (b : Nat))]) (fun (b : Nat) G => (b ≤ szP c c.length) ∧ G = (H ++ [.dead, .cells (((liK (wsP p) c s9 b 0)).map iW) true, .dead, .cells [.slice (some (H.length + 1, 0)) p.who.length p.who.length true 1] true, .cells [.fsl ((wsP p).map iW) p.who.length 1 false] true, kb]) ++ Lp) 0 rfl ?_ ?_
     ·refine ⟨?_, (by rw [liK_0])⟩
      exact Nat.zero_le _
     rintro b _ ⟨hb9, rfl⟩
     refine ZV (env' := u76) rfl ?_
     refine Zd (Za ?_)
     refine Lo u76 (rfl) ?_
     refine Ze (Zc (Zd ?_))
     refine Zk _ rfl (fun hc4 => ?_) (fun hc4 => ?_)
     ·try simp only [qB, qN] at hc4
      refine Zj (Zc (Zd (Zl (Zd (Za ?_)))))
      refine Lo u76 (Zb (.inl rfl) rfl) ?_
      refine Lo u76 (Zb (.inr rfl) rfl) ?_
      refine Ze (Zc (Zd (Za ?_)))
      refine Lo u76 (Zb (.inl rfl) rfl) ?_
      refine Lo u76 (Zb (.inl rfl) rfl) ?_
      refine Zy rfl rfl rfl (by exact MM.Free_spec _ (Yh (wsP p) c c.length) ((b : Nat) : Int) (by omega)) ?_
      rintro _ _ ⟨rfl, rfl⟩; rw [fv_is (by omega) (by omega)]
      refine Le u76 ?_
      refine Lo u76 (Zb (.inr rfl) rfl) ?_
      refine Ze (Zc (Zd (Za ?_)))
      refine Lo u76 (Zb (.inl rfl) rfl) ?_
      refine Lo u76 (rfl) ?_
      refine Lo u76 (Zg (VVal.int .i64 0) (.inl rfl) rfl) ?_
      refine Ze (Zc (Zl ?_))
      refine Zz (mk 76 75557800464413307698215) (env' := u76) rfl ?_
      refine ZE (fun (k : Nat) => c.length - k) (fun (k : Nat) => [(55, iI (k : Nat))]) (fun (k : Nat) G => (k ≤ c.length) ∧ G = (H ++ [.dead, .cells (((liK (wsP p) c s9 b k)).map iW) true, .dead, .cells [.slice (some (H.length + 1, 0)) p.who.length p.who.length true 1] true, .cells [.fsl ((wsP p).map iW) p.who.length 1 false] true, kb]) ++ Lp) 0 rfl ?_ ?_
      ·refine ⟨?_, rfl⟩
       exact Nat.zero_le _
      rintro k _ ⟨hk9, rfl⟩
      refine ZV (env' := u76) rfl ?_
      refine Zd (Za ?_)
      refine Lo u76 (rfl) ?_
      refine Ze (Zc (Zd ?_))
      refine Zk _ rfl (fun hc5 => ?_) (fun hc5 => ?_)
      ·try simp only [qB, qN] at hc5
       refine Zj (Zc (Zd (Zl (Zd (Za ?_)))))
       refine Lo u76 (Zb (.inl rfl) rfl) ?_
       refine Lo u76 (W18 rfl rfl rfl rfl rfl rfl rfl) ?_
       refine Lo u76 (W62 rfl rfl rfl rfl) ?_
       refine Lo u76 (Zb (.inr rfl) rfl) ?_
       refine Lo u76 (Zb (.inr rfl) rfl) ?_
       refine Ze (Zc (Zd (Za ?_)))
       refine Lo u76 (Zb (.inl rfl) rfl) ?_
       refine Lo u76 (Zb (.inl rfl) rfl) ?_
       refine Lo u76 (rfl) ?_
       refine Ze (Zc ?_)
       refine Zk _ rfl (fun hc6 => ?_) (fun hc6 => ?_)
       ·try simp only [qB, qN] at hc6
        refine Za ?_
        refine Lo u76 (W66 rfl rfl rfl rfl) ?_
        refine Lo u76 (Zb (.inl rfl) rfl) ?_
        refine Lo u76 (W64 rfl rfl rfl rfl rfl rfl rfl) ?_
        refine Lo u76 (W66 rfl rfl rfl rfl) ?_
        refine Lo u76 (Zb (.inl rfl) rfl) ?_
        refine Lo u76 (v_orW rfl rfl rfl) ?_
        refine Lo u76 (W64 rfl rfl rfl rfl rfl rfl rfl) ?_
        refine Lo u76 (W67 rfl rfl rfl rfl rfl rfl rfl) ?_
        refine Ze (Zr (Zc (Za ?_)))
        refine Lo u76 (W14 rfl rfl rfl) ?_
        refine Lo u76 (Zb (.inl rfl) rfl) ?_
        refine Ze ?_
        refine Zt (mk 76 75557800464413307698215) (env' := u76) rfl ⟨k + 1, ?_, rfl, ?_⟩
        ·first | omega | (simp only []; omega)
        ·first | exact ⟨by omega, rfl⟩ | exact ⟨by omega, by rw [liK_same (by omega)]⟩
       ·try simp only [qB, qN] at hc6
        refine Zj (Zr (Zc (Za ?_)))
        refine Lo u76 (W14 rfl rfl rfl) ?_
        refine Lo u76 (Zb (.inl rfl) rfl) ?_
        refine Ze ?_
        refine Zt (mk 76 75557800464413307698215) (env' := u76) rfl ⟨k + 1, ?_, rfl, ?_⟩
        ·first | omega | (simp only []; omega)
        ·first | exact ⟨by omega, rfl⟩ | exact ⟨by omega, by rw [liK_same (by omega)]⟩
      ·try simp only [qB, qN] at hc5
       refine ZG (ZH (Zx (ZF (Zr (Zc (Za ?_))))))
       refine Lo u76 (W14 rfl rfl rfl) ?_
       refine Lo u76 (Zb (.inl rfl) rfl) ?_
       refine Ze ?_
       obtain rfl : k = c.length := by omega
       refine Zt (mk 76 75557863514808090885927) (env' := u76) rfl ⟨b + 1, ?_, rfl, ?_⟩
       ·first | omega | (simp only []; omega)
       ·exact ⟨by omega, by rw [liK_next (by omega)]⟩
     ·try simp only [qB, qN] at hc4
      refine ZG (ZH (Zx (ZF (Zc (Zd ?_)))))
      obtain rfl : b = szP c c.length := by omega
      refine Za ?_
      refine Lo u76 (W66 rfl rfl rfl rfl) ?_
      refine Lo u76 (W66 rfl rfl rfl rfl) ?_
      refine Zy rfl rfl rfl (by exact EqualW_n _ (H.length + 1) _ _ true (liU (wsP p) c s9) (wsP p) (getB rfl rfl) (by omega) (by rw [liU_len]; exact hs9) hwl) ?_
      rintro _ _ ⟨rfl, rfl⟩
      refine Le u76 ?_
      refine Ze (Zc ?_)
      refine Zk _ rfl (fun hc7 => ?_) (fun hc7 => ?_)
      ·try simp only [qB, qN] at hc7
       refine ZG ?_
       refine K_blkO rfl ?_
       refine ⟨⟨liU (wsP p) c s9, by rw [liU_len]; exact hs9⟩, [], (by simp [liU]), .inr ⟨Code.exit 2, rfl, ⟨rfl, ?_⟩⟩⟩
       exact hI9.trans ((liF_hit (by assumption)).trans (show wsP p = liU (wsP p) c s9 from (show liU (wsP p) c s9 = wsP p by assumption).symm))
      ·try simp only [qB, qN] at hc7
       refine Zj (Zr ?_)
       refine ⟨⟨liU (wsP p) c s9, by rw [liU_len]; exact hs9⟩, [], (by simp [liU]), .inl ⟨rfl, ?_⟩⟩
       exact fun z hz9 => by rw [hx, List.append_assoc] at hz9; obtain rfl : post = z := (by simpa using hz9); exact hI9.trans (liF_on (by assumption))
    ·intro s k hk hI J9
     obtain ⟨s9, hs9⟩ := s
     try dsimp only at hI ⊢
     have hE : liF (wsP p) (ptP p) (List.replicate p.who.length 0#64) = s9 := (hI [] (List.append_nil _).symm)
     refine Zr (Zc (Zd ?_))
     have hsl : s9.length = p.who.length := by first | exact hs9 | assumption
     refine B_heap (List.append_assoc _ _ _) ?_
     refine Za ?_
     refine Lo u76 (W68 rfl rfl rfl rfl) ?_
     refine Lo u76 (Zb (.inr rfl) rfl) ?_
     refine Ze (Zc ?_)
     refine B_gh (Gh.freezeL (l := s9.map iW) 2 1 rfl rfl (Yx (by simp [hsl])) (Nat.le_refl _) rfl) ?_
     refine Zi ?_
     refine W60 (.inr rfl) (Zh rfl rfl) ?_
     exact W61
    ·rintro j pre c post s k hk hx (⟨rfl, hE⟩) J9
     obtain ⟨s9, hs9⟩ := s
     try dsimp only
     refine J_exit ?_
     refine ZF (Zc (Zd ?_))
     have hsl : s9.length = p.who.length := by first | exact hs9 | assumption
     refine B_heap (List.append_assoc _ _ _) ?_
     refine Za ?_
     refine Lo u76 (W68 rfl rfl rfl rfl) ?_
     refine Lo u76 (Zb (.inr rfl) rfl) ?_
     refine Ze (Zc ?_)
     refine B_gh (Gh.freezeL (l := s9.map iW) 2 1 rfl rfl (Yx (by simp [hsl])) (Nat.le_refl _) rfl) ?_
     refine Zi ?_
     refine W60 (.inr rfl) (Zh rfl rfl) ?_
     exact W61
def pt : Pb := (2, [3#64, 3#64], [-1, -1], [], ())
theorem pt_L : PbL pt := ⟨by decide, by decide, by decide, by decide, fun r hr => by cases hr⟩
theorem pt_n : sumP pt = 4 := by decide +kernel
theorem pt_l : liA pt = [3#64, 3#64] := by decide +kernel
theorem twakes_spec {x : SW} (H : Zf) : F (psys x) 31 [] H fun v G => v = .bool true ∧ G = H := by
 refine Zq Tryd.func31 rfl u22 rfl ?_
 refine Zd (Za ?_)
 refine Lo u22 (Zg (VVal.bool false) (.inr rfl) rfl) ?_
 refine Ze (Zc (Zd (Za ?_)))
 refine Lo u22 (ZI rfl rfl (by decide) rfl) ?_
 refine Lo u22 (ZI rfl rfl (by decide) rfl) ?_
 refine Lo u22 (rfl) ?_
 refine Lo u22 (Z4 rfl rfl) ?_
 refine Lo u22 (W13 rfl rfl rfl rfl rfl rfl rfl) ?_
 refine Ze (Zc (Zd (Za ?_)))
 refine L_gh (Gh.cellL (l := [iW 3#64, iW 3#64]) 2 1 0 rfl rfl (by decide) rfl rfl (Nat.le_refl _)) ?_
 refine L_gh (Gh.cellL (l := [iI (-1), iI (-1)]) 2 2 1 rfl rfl (by decide) rfl rfl (Nat.le_refl _)) ?_
 refine L_gh (Gh.cellNilL 2 3 (es' := 3) rfl rfl) ?_
 refine Lo u22 (W11 rfl rfl rfl rfl rfl) ?_
 refine Zy rfl rfl rfl (by exact tLive_spec _ pt pt_L) ?_
 rintro v _ ⟨hv, rfl⟩; rw [pt_l] at hv; subst hv
 refine Le u22 ?_
 refine Lo u22 (Zb (.inr rfl) rfl) ?_
 refine Ze (Zc (Zd (Za ?_)))
 refine Lo u22 (W11 rfl rfl rfl rfl rfl) ?_
 refine Zy rfl rfl rfl (by exact tPlans_spec _ pt pt_L 9#64) ?_
 rintro v _ ⟨hv, rfl⟩; obtain rfl : v = iW 4#64 := hv.trans (congrArg iW (by rw [pt_n]; decide))
 refine Le u22 ?_
 refine Lo u22 (v_is true rfl rfl) ?_
 refine Lo u22 (Zb (.inl rfl) rfl) ?_
 refine Lo u22 (Zb (.inl rfl) rfl) ?_
 refine Lo u22 (rfl) ?_
 refine Lo u22 (v_is true rfl rfl) ?_
 refine Lo u22 (ZM rfl rfl rfl) ?_
 refine Lo u22 (Zb (.inl rfl) rfl) ?_
 refine Lo u22 (Zb (.inl rfl) rfl) ?_
 refine Lo u22 (W18 rfl rfl rfl rfl rfl rfl rfl) ?_
 refine Lo u22 (W12 rfl rfl rfl rfl) ?_
 refine Lo u22 (v_is true rfl rfl) ?_
 refine Lo u22 (ZM rfl rfl rfl) ?_
 refine Lo u22 (Zb (.inr rfl) rfl) ?_
 refine Ze (Zc (Zi ?_))
 refine W10 (.inr rfl) (Zh rfl rfl) ?_
 exact ⟨rfl, rfl⟩
end Go.Proofs.YtenkjadobkjaeaaDoor.VT
