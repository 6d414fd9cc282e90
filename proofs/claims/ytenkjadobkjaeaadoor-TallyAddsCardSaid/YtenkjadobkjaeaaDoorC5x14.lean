/- Proved: Rows.TallyAddsCardSaid, the statement TallyAdds with its card, of the given program at the commit; no conditions beyond those in the statement. -/
import Derived.Test.YtenkjadobkjaeaaDoorC5x13
set_option autoImplicit false
set_option linter.unusedVariables false
set_option linter.unusedSimpArgs false
set_option maxHeartbeats 4000000
set_option maxRecDepth 100000
namespace Go.Proofs.YtenkjadobkjaeaaDoor.VT
open Go Go.V Go.RowKit
abbrev u26 {a0 a1 a2 a3 a4 a5 a6 a7 a8 a9 a10 a11 a12 a13 a14 a15 a16 a17 a18 a19 a20 a21 a22 a23 a24 a25 : VVal} : VEnv := a0 :: a1 :: a2 :: a3 :: a4 :: a5 :: a6 :: a7 :: a8 :: a9 :: a10 :: a11 :: a12 :: a13 :: a14 :: a15 :: a16 :: a17 :: a18 :: a19 :: a20 :: a21 :: a22 :: a23 :: a24 :: a25 :: []
theorem W41 {T : TypeId → Option VTy} {H : Zd} {op : Op} {ρ : Operand → VVal} {t : TypeId} {a : Operand} {y : VTy} {p v : VVal} (ho : op = .load t a) (ha : ρ a = p) (hy : T t = some y) (hd : Zj y.desc = false) (h : LdOk H p v := by first | exact .inl ⟨_, _, rfl, by first | exact fget (α := BitVec 64) 0 (by omega) | exact fget0 (α := BitVec 64) 0 (by omega) | exact fgetN (α := BitVec 64) 0 (by omega)⟩ | exact .inr ⟨_, _, _, _, rfl, by exact Zr hb, by first | exact fget (α := BitVec 64) 0 (by omega) | exact fget0 (α := BitVec 64) 0 (by omega) | exact fgetN (α := BitVec 64) 0 (by omega)⟩) : vop T ρ H op = some (v, H) := v_ld ho ha hy hd h
theorem W43 {T : TypeId → Option VTy} {H : Zd} {op : Op} {ρ : Operand → VVal} {t : TypeId} {a : Operand} {y : VTy} {p : VVal} {n : Nat} {vs : List VVal} (ho : op = .load t a) (ha : ρ a = p) (hy : T t = some y) (hd : Zj y.desc = true) (hn : y.size = n) (h : LdOkA H p n vs := by first | exact .inl ⟨_, _, rfl, XH40⟩ | exact .inr ⟨_, _, _, _, rfl, XH36, XH40⟩) : vop T ρ H op = some (.agg vs, H) := v_ldA ho ha hy hd hn h
theorem W44 {S : V.Sys} {H : Zd} {fn : Func} {ex : Exit} {env : VEnv} {B L : Zd} {v : VVal} {R : VVal → Zd → Prop} (hx : ex = .normal ∨ ex = .ret) (hv : Z0 S.C.T env (B ++ L) fn.results = some v) (h : R v B) (hB : BaseOk H B := by exact XH45) (hu : v.under H.length = true := by first | rfl | exact Ys _ _) : fnK S fn H R ex env (B ++ L) := YE hx hv hB hu h
theorem W45 {P : Prop} (h : P := by first | exact ⟨by rw [liA_no (by assumption)]; rfl, rfl⟩ | exact ⟨by rw [liA_0 (by omega)]; rfl, rfl⟩ | exact ⟨by rw [liA_in h0, hE]; show _ = VVal.fsl _ s9.length 1 false; rw [hsl], rfl⟩) : P := h
theorem W46 {T : TypeId → Option VTy} {H : Zd} {op : Op} {ρ : Operand → VVal} {t : TypeId} {a : Operand} {y : VTy} {p v : VVal} (ho : op = .load t a) (ha : ρ a = p) (hy : T t = some y) (hd : Zj y.desc = false) (h : LdOk H p v := by first | exact .inl ⟨_, _, rfl, XH40⟩ | exact .inr ⟨_, _, _, _, rfl, XH36, XH40⟩) : vop T ρ H op = some (v, H) := v_ld ho ha hy hd h
theorem W48 {T : TypeId → Option VTy} {H : Zd} {op : Op} {ρ : Operand → VVal} {t e : TypeId} {x i : Operand} {y z : VTy} {k : IntKind} {n : Int} {p v : VVal} {es : Nat} (ho : op = .indexAddr t x i) (hx : ρ x = p) (hi : ρ i = .int k n) (hy : T t = some y) (hd : y.desc = .slice e) (hz : T e = some z) (hs : z.size = es) (h : IxOk p es n v := by first | exact .inl ⟨_, _, _, rfl, by constructor <;> omega, rfl⟩ | exact .inr ⟨_, _, _, _, _, rfl, by constructor <;> omega, rfl⟩) : vop T ρ H op = some (v, H) := v_ix ho hx hi hy hd hz hs h
theorem W49 {T : TypeId → Option VTy} {H : Zd} {op : Op} {ρ : VEnv} {H' : Zd} {t : TypeId} {a : Operand} {i : Nat} {v : VVal} {y : VTy} {b off : Nat} {cs new : List VVal} (ho : op = .store t a (.tmp i)) (hv : ρ[i]? = some v) (ha : ρ.eval a = .ptr (some (b, off))) (hy : T t = some y) (hx : v.cells = some new) (hn : new.length = y.size) (h1 : new.all VVal.one = true) (hb : H[b]? = some (.cells cs true) := by exact XH36) (hl : off + new.length ≤ cs.length := by show 0 + ((k : Nat) : Int).toNat * 1 + 1 ≤ _; rw [List.length_map, wsK_len]; omega) (hH : H.set b (.cells (Zu cs off new) true) = H' := by exact (ZG rfl).trans (congrArg (fun z => H ++ [VBlk.dead, _, VBlk.cells z true, _, _]) (wsK_set (by omega)))) : vop T ρ.eval H op = some (.skip, H') := Z4 ho hv ha hy hx hn h1 hb hl hH
theorem W4a {T : TypeId → Option VTy} {H : Zd} {op : Op} {ρ : Operand → VVal} {t : TypeId} {a : Operand} {y : VTy} {p v : VVal} (ho : op = .load t a) (ha : ρ a = p) (hy : T t = some y) (hd : Zj y.desc = false) (h : LdOk H p v := by first | exact .inl ⟨_, _, rfl, XH40⟩ | exact .inr ⟨_, _, _, _, rfl, by exact getB rfl rfl, XH40⟩) : vop T ρ H op = some (v, H) := v_ld ho ha hy hd h
theorem W4b {T : TypeId → Option VTy} {H : Zd} {op : Op} {ρ : VEnv} {H' : Zd} {t : TypeId} {a : Operand} {i : Nat} {v : VVal} {y : VTy} {b off : Nat} {cs new : List VVal} (ho : op = .store t a (.tmp i)) (hv : ρ[i]? = some v) (ha : ρ.eval a = .ptr (some (b, off))) (hy : T t = some y) (hx : v.cells = some new) (hn : new.length = y.size) (h1 : new.all VVal.one = true) (hb : H[b]? = some (.cells cs true) := by exact getB rfl rfl) (hl : off + new.length ≤ cs.length := by show 0 + ((k : Nat) : Int).toNat * 1 + 1 ≤ _; rw [List.length_map, Yt]; omega) (hH : H.set b (.cells (Zu cs off new) true) = H' := by exact (setB rfl (show 1 < 6 by decide)).trans (congrArg (fun z => (H ++ [VBlk.dead, VBlk.cells z true, _, _, _, _]) ++ _) (liK_st (by omega) (by omega)))) : vop T ρ.eval H op = some (.skip, H') := Z4 ho hv ha hy hx hn h1 hb hl hH
theorem W4c {T : TypeId → Option VTy} {H : Zd} {op : Op} {ρ : Operand → VVal} {t : TypeId} {a : Operand} {y : VTy} {p v : VVal} (ho : op = .load t a) (ha : ρ a = p) (hy : T t = some y) (hd : Zj y.desc = false) (h : LdOk H p v := by first | exact .inl ⟨_, _, rfl, XH40⟩ | exact .inr ⟨_, _, _, _, rfl, by exact Zz rfl rfl, XH40⟩) : vop T ρ H op = some (v, H) := v_ld ho ha hy hd h
def liA (p : Pb) : List (BitVec 64) := if pck p = 0 then liF (wsP p) (ptP p) (List.replicate p.who.length 0#64) else []
theorem liA_no {p : Pb} (h : ¬ pck p = 0) : liA p = [] := if_neg h
theorem liA_in {p : Pb} (h : pck p = 0) : liA p = liF (wsP p) (ptP p) (List.replicate p.who.length 0#64) := if_pos h
theorem liA_len {p : Pb} (h : pck p = 0) : (liA p).length = p.who.length := by rw [liA_in h, liF_len (by rw [List.length_replicate, Yi]), Yi]
theorem liA_0 {p : Pb} (h : p.who.length = 0) : liA p = [] := by
  by_cases e : pck p = 0
  · exact List.eq_nil_of_length_eq_zero ((liA_len e).trans h)
  · exact liA_no e
def wsK (p : Pb) (k : Nat) : List (BitVec 64) := (List.range p.who.length).map fun i => if i < k then wrd p i else 0#64
theorem wsK_len {p : Pb} {k : Nat} : (wsK p k).length = p.who.length := by unfold wsK; simp
theorem wsK_0 {p : Pb} : wsK p 0 = List.replicate p.who.length 0#64 := by
  apply List.ext_getElem (by rw [wsK_len, List.length_replicate])
  intro i h1 h2
  unfold wsK; simp
theorem wsK_all {p : Pb} : wsK p p.who.length = wsP p := by
  apply List.ext_getElem (by rw [wsK_len, Yi])
  intro i h1 h2
  simp only [wsK_len] at h1
  simp [wsK, wsP, h1]
theorem wsK_set {p : Pb} {k : Nat} (h : k < p.who.length) : Zu ((wsK p k).map iW) (0 + ((k : Nat) : Int).toNat * 1) [iW (wrd p k)] = (wsK p (k + 1)).map iW := by
  rw [Int.toNat_natCast, spl_W (by rw [wsK_len]; exact h)]
  congr 1
  apply List.ext_getElem (by rw [List.length_set, wsK_len, wsK_len])
  intro i h1 h2
  have h3 : i < p.who.length := by rw [wsK_len] at h2; exact h2
  rw [List.getElem_set]
  by_cases e : k = i
  · subst e; simp [wsK]
  · have e3 : i < k ↔ i < k + 1 := by omega
    simp [wsK, e, e3]
theorem liK_st {ws : List (BitVec 64)} {a : List Nat} {l : List (BitVec 64)} {b k : Nat} (hk : k < l.length) (h : a.getD k 0 = b) : Zu ((liK ws a l b k).map iW) (0 + ((k : Nat) : Int).toNat * 1) [iW ((liK ws a l b k).getD ((k : Nat) : Int).toNat 0 ||| frW (Z5 ws a a.length) b)] = (liK ws a l b (k + 1)).map iW := by
  rw [Int.toNat_natCast, spl_W (by rw [Yt]; exact hk), liK_set hk h]
theorem fv_is {l : List (BitVec 64)} {b : Nat} (h1 : l.length ≤ 12) (h2 : b < l.length) : MM.freeV l ((b : Nat) : Int) = frW l b := by
  unfold MM.freeV; rw [if_pos ⟨h1, by omega, by omega⟩, Int.toNat_natCast]
theorem EqualW_spec {x : SW} (H : Zd) (b : Nat) (e : Bool) (l m : List (BitVec 64)) (hb : H[b]? = some (.cells (l.map iW) true)) (h1 : l.length ≤ 1000000) : F (psys x) 62 [.slice (some (b, 0)) l.length l.length e 1, fzW m] H fun v G => v = .bool (decide (l = m)) ∧ G = H := by
 refine Zs Tryd.func62 rfl u26 rfl ?_
 refine Ze (Za ?_)
 refine Lo u26 (Zg (VVal.bool false) (.inr rfl) rfl) ?_
 refine Zf (Zc (Ze (Ze (Za ?_))))
 refine Lo u26 (Zb (.inl rfl) rfl) ?_
 refine Lo u26 (rfl) ?_
 refine Lo u26 (Zb (.inl rfl) rfl) ?_
 refine Lo u26 (rfl) ?_
 refine Lo u26 (rfl) ?_
 refine Zf (Zc ?_)
 refine Zk _ rfl (fun hc1 => ?_) (fun hc1 => ?_)
 ·try simp only [qB, qN] at hc1
  refine Ze (Za ?_)
  refine Lo u26 (Zg (VVal.bool false) (.inr rfl) rfl) ?_
  refine Zf (Zc (Zi (Zo ?_)))
  refine W10 (.inr rfl) (Zh rfl rfl) ?_
  exact ⟨by rw [decide_eq_false (fun e => by rw [e] at hc1; omega)], rfl⟩
 ·try simp only [qB, qN] at hc1
  refine Zl (Zc (Ze (Ze (Za ?_))))
  refine Lo u26 (Zb (.inl rfl) rfl) ?_
  refine Lo u26 (rfl) ?_
  refine Lo u26 (Zg (VVal.int .i64 0) (.inl rfl) rfl) ?_
  refine Zf (Zc (Zn ?_))
  refine ZB (mk 26 67096572) (env' := u26) rfl ?_
  refine ZO (fun (k : Nat) => l.length - k) (fun (k : Nat) => [(13, iI (k : Nat))]) (fun (k : Nat) G => (k ≤ l.length ∧ ∀ j, j < k → l.getD j 0 = m.getD j 0) ∧ G = H ++ []) 0 rfl ?_ ?_
  ·refine ⟨?_, rfl⟩
   exact ⟨Nat.zero_le _, fun j h => by omega⟩
  rintro k _ ⟨⟨hk, hall⟩, rfl⟩
  refine Z6 (env' := u26) rfl ?_
  refine Ze (Za ?_)
  refine Lo u26 (rfl) ?_
  refine Zf (Zc (Ze ?_))
  refine Zk _ rfl (fun hc2 => ?_) (fun hc2 => ?_)
  ·try simp only [qB, qN] at hc2
   refine Zl (Zc (Ze (Zn (Ze (Za ?_)))))
   refine Lo u26 (Zb (.inl rfl) rfl) ?_
   refine Lo u26 (Zb (.inr rfl) rfl) ?_
   refine Zf (Zc (Ze ?_))
   refine ZY [0, 1, 2, 3, 4, 5, 6, 7, 8] #[0, 0, 3, 7, 0, 0, 48, 112, 255] XH5 XH5 XH5 ?_
   refine Oo u26 .calm rfl (Zb (.inl rfl) rfl) ?_
   refine Oo u26 .calm rfl (Zb (.inl rfl) rfl) ?_
   refine Oo u26 .calm rfl (W18 rfl rfl rfl rfl rfl rfl rfl) ?_
   refine Oo u26 .look rfl (W41 rfl rfl rfl rfl) ?_
   refine Oo u26 .calm rfl (Zb (.inl rfl) rfl) ?_
   refine Oo u26 .calm rfl (Zb (.inl rfl) rfl) ?_
   refine Oo u26 .calm rfl (W18 rfl rfl rfl rfl rfl rfl rfl) ?_
   refine Oo u26 .look rfl (W41 rfl rfl rfl rfl) ?_
   refine Oo u26 .calm rfl (rfl) ?_
   refine Yf [] XH5 (trivial) ?_
   refine Zc ?_
   refine Zk _ rfl (fun hc3 => ?_) (fun hc3 => ?_)
   ·try simp only [qB, qN] at hc3
    refine Ze (Za ?_)
    refine Lo u26 (Zg (VVal.bool false) (.inr rfl) rfl) ?_
    refine Zf (Zc (Zi (ZW (Zo (K_loopR (ZW (Zo ?_)))))))
    refine W10 (.inr rfl) (Zh rfl rfl) ?_
    exact ⟨by rw [decide_eq_false (fun e => by subst e; exact hc3 rfl)], rfl⟩
   ·try simp only [qB, qN] at hc3
    refine Zl (Zx (Zc (Za ?_)))
    refine Lo u26 (W14 rfl rfl rfl) ?_
    refine Lo u26 (Zb (.inl rfl) rfl) ?_
    refine Zf ?_
    refine ZE (mk 26 67096572) (env' := u26) rfl ⟨k + 1, ?_, rfl, ?_⟩
    ·first | omega | (simp only []; omega)
    ·exact ⟨⟨by omega, fun j hj => by by_cases e : j = k; (subst e; assumption); exact hall j (by omega)⟩, rfl⟩
  ·try simp only [qB, qN] at hc2
   refine ZM (ZP (ZD (ZL (Zc (Ze (Za ?_))))))
   refine Lo u26 (Zg (VVal.bool true) (.inr rfl) rfl) ?_
   refine Zf (Zc (Zi ?_))
   refine W10 (.inr rfl) (Zh rfl rfl) ?_
   have e := eq_getD (d := 0) (by omega) (fun j hj => hall j (by omega))
   exact ⟨by rw [decide_eq_true e], rfl⟩
theorem EqualW_n {x : SW} (H : Zd) (b n n2 : Nat) (e : Bool) (l m : List (BitVec 64)) (hb : H[b]? = some (.cells (l.map iW) true)) (h1 : n ≤ 1000000) (hn : l.length = n) (hm : m.length = n2) : F (psys x) 62 [.slice (some (b, 0)) n n e 1, .fsl (m.map iW) n2 1 false] H fun v G => v = .bool (decide (l = m)) ∧ G = H := by
  subst hn; subst hm
  exact EqualW_spec H b e l m hb h1
theorem tLive_spec {x : SW} (H : Zd) (p : Pb) (hp : PbL p) : F (psys x) 33 [.agg (pbB p)] H fun v G => v = fzW (liA p) ∧ G = H := by
 refine Zs Tryd.func33 rfl u76 rfl ?_
 refine Ze (Za ?_)
 refine Lo u76 (ZI rfl rfl rfl) ?_
 refine Lo u76 (Zg (VVal.slice none 0 0 true 0) (.inr rfl) rfl) ?_
 refine Zf (Zc (Ze (Ze ?_)))
 refine Yv (Gh.freezePtrL (cs := pbB p) 1 0 rfl rfl rfl) ?_
 refine Za ?_
 refine Lo u76 (W43 rfl rfl rfl rfl rfl) ?_
 refine Zt rfl rfl rfl (by exact sCheck_spec _ p hp) ?_
 rintro _ _ ⟨rfl, rfl⟩
 refine Le u76 ?_
 refine Lo u76 (rfl) ?_
 refine Lo u76 (Zb (.inl rfl) rfl) ?_
 refine ZH 15 (env1 := u76) (env2 := u76) rfl rfl rfl (fun hg1 => ?_) (fun hg1 => ?_)
 ·try simp only [qB, qN] at hg1
  refine Lf u76 ?_
  refine Lf u76 ?_
  refine Lf u76 ?_
  refine Lf u76 ?_
  refine Lo u76 (Z8 (VVal.bool true) rfl rfl rfl) ?_
  refine Zf (Zc ?_)
  refine ZX rfl rfl ?_
  refine Ze (Za ?_)
  refine Lo u76 (Zg (VVal.slice none 0 0 true 0) (.inr rfl) rfl) ?_
  refine Zf (Zc ?_)
  refine Yv (Gh.freezeNil 2 (es' := 1) rfl rfl) ?_
  refine Zi (Zo ?_)
  refine W44 (.inr rfl) (Zh rfl rfl) ?_
  exact W45
 ·try simp only [qB, qN] at hg1
  refine Lo u76 (rfl) ?_
  refine Lo u76 (W46 rfl rfl rfl rfl) ?_
  refine Lo u76 (rfl) ?_
  refine Lo u76 (rfl) ?_
  refine Lo u76 (Yz rfl rfl rfl) ?_
  refine Zf (Zc ?_)
  refine Zk _ rfl (fun hc2 => ?_) (fun hc2 => ?_)
  ·try simp only [qB, qN] at hc2
   refine Ze (Za ?_)
   refine Lo u76 (Zg (VVal.slice none 0 0 true 0) (.inr rfl) rfl) ?_
   refine Zf (Zc ?_)
   refine Yv (Gh.freezeNil 2 (es' := 1) rfl rfl) ?_
   refine Zi (Zo ?_)
   refine W44 (.inr rfl) (Zh rfl rfl) ?_
   exact W45
  ·try simp only [qB, qN] at hc2
   refine Zl (Zc (Ze ?_))
   have h0 : pck p = 0 := by first | assumption | simp_all
   have g := pck_good.1 h0
   have g1 := g.n12; have g5 := g.fx
   have hne : ¬ p.who.length = 0 := by first | (have h9 := hc2; simp at h9; omega) | omega | simp_all
   have hwl := Yi (p := p)
   refine ZY [0, 1, 2, 3, 4, 5, 6, 7, 8, 9, 10, 11] #[0, 1, 3, 7, 0, 16, 48, 112, 0, 0, 783, 2047] XH5 XH5 XH5 ?_
   refine Oo u76 .calm rfl (rfl) ?_
   refine Oo u76 .look rfl (W46 rfl rfl rfl rfl) ?_
   refine Oo u76 .look rfl (rfl) ?_
   refine Oo u76 .grow rfl (v_makeSlice rfl rfl rfl rfl rfl (by decide) ⟨by omega, Int.le_refl _, by show (p.who.length : Int) * (8 : Nat) ≤ _; omega, by omega⟩) ?_
   refine Oo u76 .calm rfl (rfl) ?_
   refine Ym (env' := u76) (x := .look _ _) rfl rfl rfl (W46 rfl rfl rfl rfl) rfl rfl rfl ?_
   refine Ym (env' := u76) (x := .look _ _) rfl rfl rfl (rfl) rfl rfl rfl ?_
   refine Ym (env' := u76) (x := .grow _) rfl rfl rfl (v_makeSlice rfl rfl rfl rfl rfl (by decide) ⟨by omega, Int.le_refl _, by show (p.who.length : Int) * (8 : Nat) ≤ _; omega, by omega⟩) rfl rfl rfl ?_
   refine Oo u76 .grow rfl (ZF rfl rfl) ?_
   refine Oo u76 .grow rfl (ZF rfl rfl) ?_
   refine Ym (env' := u76) (x := .turn _ _) rfl rfl rfl (W13 rfl rfl rfl rfl rfl rfl rfl) rfl rfl rfl ?_
   refine Oo u76 .turn rfl (W13 rfl rfl rfl rfl rfl rfl rfl) ?_
   refine O_nilP [(5, 10), (6, 10), (7, 10)] XH5 (And.intro ⟨_, _, _, _, ⟨(gA (gA (gA (gA (gA (gA (gL XH5))))))), (gA (gL XH5)), And.intro (W46 rfl rfl rfl rfl) (W46 rfl rfl rfl rfl)⟩⟩ (And.intro ⟨_, _, _, _, ⟨(gA (gA (gA (gA (gA (gL XH5)))))), (gA (gL XH5)), And.intro (rfl) (rfl)⟩⟩ (And.intro ⟨_, _, _, _, ⟨(gA (gA (gA (gA (gL XH5))))), (gA (gL XH5)), (by simp [V.fine])⟩⟩ (trivial)))) ?_
   refine Zc (Ze (Ze ?_))
   refine B_heap (H' := H ++ [.dead, .cells ((List.replicate p.who.length 0#64).map iW) true, .cells ((wsK p 0).map iW) true, .cells [.slice (some (H.length + 1, 0)) p.who.length p.who.length true 1] true, .cells [.slice (some (H.length + 2, 0)) p.who.length p.who.length true 1] true]) (by rw [wsK_0, ← MM.rep_w]; rfl) ?_
   refine Za ?_
   refine Lo u76 (W46 rfl rfl rfl rfl) ?_
   refine Lo u76 (rfl) ?_
   refine Lo u76 (Zg (VVal.int .i64 0) (.inl rfl) rfl) ?_
   refine Zf (Zc (Zn ?_))
   refine ZB (mk 76 75557863725911102193637) (env' := u76) rfl ?_
   refine ZO (fun (k : Nat) => p.who.length - k) (fun (k : Nat) => [(31, iI (k : Nat))]) (fun (k : Nat) G => (k ≤ p.who.length) ∧ G = H ++ [.dead, .cells ((List.replicate p.who.length 0#64).map iW) true, .cells ((wsK p k).map iW) true, .cells [.slice (some (H.length + 1, 0)) p.who.length p.who.length true 1] true, .cells [.slice (some (H.length + 2, 0)) p.who.length p.who.length true 1] true]) 0 rfl ?_ ?_
   ·refine ⟨?_, rfl⟩
    exact Nat.zero_le _
   rintro k _ ⟨hk, rfl⟩
   refine Z6 (env' := u76) rfl ?_
   refine Ze (Za ?_)
   refine Lo u76 (rfl) ?_
   refine Zf (Zc (Ze ?_))
   refine Zk _ rfl (fun hc3 => ?_) (fun hc3 => ?_)
   ·try simp only [qB, qN] at hc3
    refine Zl (Zc (Ze (Zn (Ze (Za ?_)))))
    refine Lo u76 (Zb (.inl rfl) rfl) ?_
    refine Lo u76 (Zb (.inr rfl) rfl) ?_
    refine Zf (Zc ?_)
    refine ZY [0, 1, 2, 3, 4, 5, 6] #[0, 0, 0, 0, 12, 31, 63] XH5 XH5 XH5 ?_
    refine Ym (env' := u76) (x := .look _ _) rfl rfl rfl (W46 rfl rfl rfl rfl) rfl rfl rfl ?_
    refine Oo u76 .calm rfl (Zb (.inl rfl) rfl) ?_
    refine Oo u76 .look rfl (W43 rfl rfl rfl rfl rfl) ?_
    refine Oo u76 .calm rfl (Zb (.inl rfl) rfl) ?_
    refine Ye (env' := u76) rfl rfl rfl rfl rfl (by exact Word_spec _ p k (by omega) (by omega)) XH10 rfl rfl ?_
    refine Oo u76 .calm rfl (W48 rfl rfl rfl rfl rfl rfl rfl) ?_
    refine Oo u76 .turn rfl (W49 rfl rfl rfl rfl rfl rfl rfl) ?_
    refine O_nilP [(0, 4)] XH5 (And.intro ⟨_, _, _, _, ⟨(gA (gA (gA (gA (gA (gA (gL XH5))))))), (gA (gA (gL XH5))), And.intro (W46 rfl rfl rfl rfl) (W46 rfl rfl rfl rfl)⟩⟩ (trivial)) ?_
    refine Zx (Zc (Za ?_))
    refine Lo u76 (W14 rfl rfl rfl) ?_
    refine Lo u76 (Zb (.inl rfl) rfl) ?_
    refine Zf ?_
    refine ZE (mk 76 75557863725911102193637) (env' := u76) rfl ⟨k + 1, ?_, rfl, ?_⟩
    ·first | omega | (simp only []; omega)
    ·exact ⟨by omega, rfl⟩
   ·try simp only [qB, qN] at hc3
    refine ZM (ZP (ZD (ZL (Zc (Ze (Ze ?_))))))
    obtain rfl : k = p.who.length := by omega
    rw [wsK_all]
    refine Yv (Gh.cellL (l := (wsP p).map iW) 4 0 2 rfl rfl (by decide) rfl (YG (by simp [hwl])) (Nat.le_refl _)) ?_
    refine Za ?_
    refine Lo u76 (W43 rfl rfl rfl rfl rfl) ?_
    refine Zt rfl rfl rfl (by exact tpat_spec _ p) ?_
    rintro _ _ ⟨rfl, rfl⟩
    refine Le u76 ?_
    refine Zf (Zc (Zn ?_))
    refine ZB (mk 76 75557863721516276908007) (env' := u76) rfl ?_
    refine B_rangeJ (fvP p) 2 (fun _ => rfl) (ptP p) (fun l0 h => by cases h) rfl (fun l9 G9 K9 hI9 => tpat1_spec l9 p hp G9 K9 hI9) (σ := {q : List (BitVec 64) // q.length = p.who.length}) (fun k s => H ++ [.dead, .cells ((s.1).map iW) true, .dead, .cells [.slice (some (H.length + 1, 0)) p.who.length p.who.length true 1] true, .cells [.fsl ((wsP p).map iW) p.who.length 1 false] true, k]) ⟨(List.replicate p.who.length 0#64), List.length_replicate ..⟩ (fun k => by rw [List.append_assoc]; rfl) (fun k s => by simp) (fun k s => by rw [show (H ++ _ : Zd).length = H.length + 5 by simp]; exact Zz rfl rfl) (fun k k1 s => by rw [show (H ++ _ : Zd).length = H.length + 5 by simp]; exact ZG rfl) (fun pre s => ∀ z, ptP p = pre ++ z → liF (wsP p) (ptP p) (List.replicate p.who.length 0#64) = liF (wsP p) z s.1) ?_ (fun j pre c s => (j = Code.exit 2 ∧ (liF (wsP p) (ptP p) (List.replicate p.who.length 0#64) = s.1))) rfl ?_ ?_ ?_
    ·exact fun z hz => by rw [hz]; rfl
    ·intro pre c post s hx hI Lp kr kb hkr hkb
     obtain ⟨s9, hs9⟩ := s
     try dsimp only at hI ⊢
     have hs9 : s9.length = p.who.length := hs9
     have hc9 : c ∈ ptP p := by rw [hx]; simp
     obtain ⟨h0, hpc, hcl, _, _⟩ := ptP_mem hc9
     have hbl := @Yg (wsP p) c c.length
     have hz := @szP_le c c.length
     have hI9 := hI _ hx
     refine Z6 (env' := u76) rfl ?_
     refine Ze (Za ?_)
     refine Lo u76 (Zb (.inr rfl) rfl) ?_
     refine Zf (Zc (Za ?_))
     refine Lo u76 (Zb (.inr rfl) rfl) ?_
     refine Zf ?_
     refine ⟨rfl, ⟨s9, hs9⟩, rfl, ?_⟩
     try dsimp only
     refine Zn (Ze (Ze (Za ?_)))
     refine Lo u76 (Zb (.inl rfl) rfl) ?_
     refine Lo u76 (rfl) ?_
     refine Lo u76 (Zg (VVal.int .i64 0) (.inl rfl) rfl) ?_
     refine Zf (Zc (Zn ?_))
     refine ZB (mk 76 75557863514808090885927) (env' := u76) rfl ?_
     refine ZO (fun (b : Nat) => szP c c.length - b) (fun (b : Nat) => [(47, iI (b : Nat))]) (fun (b : Nat) G => (b ≤ szP c c.length) ∧ G = (H ++ [.dead, .cells (((liK (wsP p) c s9 b 0)).map iW) true, .dead, .cells [.slice (some (H.length + 1, 0)) p.who.length p.who.length true 1] true, .cells [.fsl ((wsP p).map iW) p.who.length 1 false] true, kb]) ++ Lp) 0 rfl ?_ ?_
     ·refine ⟨?_, (by rw [liK_0])⟩
      exact Nat.zero_le _
     rintro b _ ⟨hb9, rfl⟩
     refine Z6 (env' := u76) rfl ?_
     refine Ze (Za ?_)
     refine Lo u76 (rfl) ?_
     refine Zf (Zc (Ze ?_))
     refine Zk _ rfl (fun hc4 => ?_) (fun hc4 => ?_)
     ·try simp only [qB, qN] at hc4
      refine Zl (Zc (Ze (Zn (Ze (Za ?_)))))
      refine Lo u76 (Zb (.inl rfl) rfl) ?_
      refine Lo u76 (Zb (.inr rfl) rfl) ?_
      refine Zf (Zc (Ze (Za ?_)))
      refine Lo u76 (Zb (.inl rfl) rfl) ?_
      refine Lo u76 (Zb (.inl rfl) rfl) ?_
      refine Zt rfl rfl rfl (by exact MM.Free_spec _ (Z5 (wsP p) c c.length) ((b : Nat) : Int) (by omega)) ?_
      rintro _ _ ⟨rfl, rfl⟩; rw [fv_is (by omega) (by omega)]
      refine Le u76 ?_
      refine Lo u76 (Zb (.inr rfl) rfl) ?_
      refine Zf (Zc (Ze (Za ?_)))
      refine Lo u76 (Zb (.inl rfl) rfl) ?_
      refine Lo u76 (rfl) ?_
      refine Lo u76 (Zg (VVal.int .i64 0) (.inl rfl) rfl) ?_
      refine Zf (Zc (Zn ?_))
      refine ZB (mk 76 75557800464413307698215) (env' := u76) rfl ?_
      refine ZO (fun (k : Nat) => c.length - k) (fun (k : Nat) => [(55, iI (k : Nat))]) (fun (k : Nat) G => (k ≤ c.length) ∧ G = (H ++ [.dead, .cells (((liK (wsP p) c s9 b k)).map iW) true, .dead, .cells [.slice (some (H.length + 1, 0)) p.who.length p.who.length true 1] true, .cells [.fsl ((wsP p).map iW) p.who.length 1 false] true, kb]) ++ Lp) 0 rfl ?_ ?_
      ·refine ⟨?_, rfl⟩
       exact Nat.zero_le _
      rintro k _ ⟨hk9, rfl⟩
      refine Z6 (env' := u76) rfl ?_
      refine Ze (Za ?_)
      refine Lo u76 (rfl) ?_
      refine Zf (Zc (Ze ?_))
      refine Zk _ rfl (fun hc5 => ?_) (fun hc5 => ?_)
      ·try simp only [qB, qN] at hc5
       refine Zl (Zc (Ze (Zn (Ze (Za ?_)))))
       refine Lo u76 (Zb (.inl rfl) rfl) ?_
       refine Lo u76 (W18 rfl rfl rfl rfl rfl rfl rfl) ?_
       refine Lo u76 (W46 rfl rfl rfl rfl) ?_
       refine Lo u76 (Zb (.inr rfl) rfl) ?_
       refine Lo u76 (Zb (.inr rfl) rfl) ?_
       refine Zf (Zc (Ze (Za ?_)))
       refine Lo u76 (Zb (.inl rfl) rfl) ?_
       refine Lo u76 (Zb (.inl rfl) rfl) ?_
       refine Lo u76 (rfl) ?_
       refine Zf (Zc ?_)
       refine Zk _ rfl (fun hc6 => ?_) (fun hc6 => ?_)
       ·try simp only [qB, qN] at hc6
        refine Za ?_
        refine Lo u76 (W4a rfl rfl rfl rfl) ?_
        refine Lo u76 (Zb (.inl rfl) rfl) ?_
        refine Lo u76 (W48 rfl rfl rfl rfl rfl rfl rfl) ?_
        refine Lo u76 (W4a rfl rfl rfl rfl) ?_
        refine Lo u76 (Zb (.inl rfl) rfl) ?_
        refine Lo u76 (v_orW rfl rfl rfl) ?_
        refine Lo u76 (W48 rfl rfl rfl rfl rfl rfl rfl) ?_
        refine Lo u76 (W4b rfl rfl rfl rfl rfl rfl rfl) ?_
        refine Zf (Zx (Zc (Za ?_)))
        refine Lo u76 (W14 rfl rfl rfl) ?_
        refine Lo u76 (Zb (.inl rfl) rfl) ?_
        refine Zf ?_
        refine ZE (mk 76 75557800464413307698215) (env' := u76) rfl ⟨k + 1, ?_, rfl, ?_⟩
        ·first | omega | (simp only []; omega)
        ·first | exact ⟨by omega, rfl⟩ | exact ⟨by omega, by rw [liK_same (by omega)]⟩
       ·try simp only [qB, qN] at hc6
        refine Zl (Zx (Zc (Za ?_)))
        refine Lo u76 (W14 rfl rfl rfl) ?_
        refine Lo u76 (Zb (.inl rfl) rfl) ?_
        refine Zf ?_
        refine ZE (mk 76 75557800464413307698215) (env' := u76) rfl ⟨k + 1, ?_, rfl, ?_⟩
        ·first | omega | (simp only []; omega)
        ·first | exact ⟨by omega, rfl⟩ | exact ⟨by omega, by rw [liK_same (by omega)]⟩
      ·try simp only [qB, qN] at hc5
       refine ZM (ZP (ZD (ZL (Zx (Zc (Za ?_))))))
       refine Lo u76 (W14 rfl rfl rfl) ?_
       refine Lo u76 (Zb (.inl rfl) rfl) ?_
       refine Zf ?_
       obtain rfl : k = c.length := by omega
       refine ZE (mk 76 75557863514808090885927) (env' := u76) rfl ⟨b + 1, ?_, rfl, ?_⟩
       ·first | omega | (simp only []; omega)
       ·exact ⟨by omega, by rw [liK_next (by omega)]⟩
     ·try simp only [qB, qN] at hc4
      refine ZM (ZP (ZD (ZL (Zc (Ze ?_)))))
      obtain rfl : b = szP c c.length := by omega
      refine Za ?_
      refine Lo u76 (W4a rfl rfl rfl rfl) ?_
      refine Lo u76 (W4a rfl rfl rfl rfl) ?_
      refine Zt rfl rfl rfl (by exact EqualW_n _ (H.length + 1) _ _ true (liU (wsP p) c s9) (wsP p) (getB rfl rfl) (by omega) (by rw [liU_len]; exact hs9) hwl) ?_
      rintro _ _ ⟨rfl, rfl⟩
      refine Le u76 ?_
      refine Zf (Zc ?_)
      refine Zk _ rfl (fun hc7 => ?_) (fun hc7 => ?_)
      ·try simp only [qB, qN] at hc7
       refine ZM ?_
       refine K_blkO rfl ?_
       refine ⟨⟨liU (wsP p) c s9, by rw [liU_len]; exact hs9⟩, [], (by simp [liU]), .inr ⟨Code.exit 2, rfl, ⟨rfl, ?_⟩⟩⟩
       exact hI9.trans ((liF_hit (by assumption)).trans (show wsP p = liU (wsP p) c s9 from (show liU (wsP p) c s9 = wsP p by assumption).symm))
      ·try simp only [qB, qN] at hc7
       refine Zl (Zx ?_)
       refine ⟨⟨liU (wsP p) c s9, by rw [liU_len]; exact hs9⟩, [], (by simp [liU]), .inl ⟨rfl, ?_⟩⟩
       exact fun z hz9 => by rw [hx, List.append_assoc] at hz9; obtain rfl : post = z := (by simpa using hz9); exact hI9.trans (liF_on (by assumption))
    ·intro s k hk hI J9
     obtain ⟨s9, hs9⟩ := s
     try dsimp only at hI ⊢
     have hE : liF (wsP p) (ptP p) (List.replicate p.who.length 0#64) = s9 := (hI [] (List.append_nil _).symm)
     refine Zx (Zc (Ze ?_))
     have hsl : s9.length = p.who.length := by first | exact hs9 | assumption
     refine B_heap (List.append_assoc _ _ _) ?_
     refine Za ?_
     refine Lo u76 (W4c rfl rfl rfl rfl) ?_
     refine Lo u76 (Zb (.inr rfl) rfl) ?_
     refine Zf (Zc ?_)
     refine Yv (Gh.freezeL (l := s9.map iW) 2 1 rfl rfl (YG (by simp [hsl])) (Nat.le_refl _) rfl) ?_
     refine Zi ?_
     refine W44 (.inr rfl) (Zh rfl rfl) ?_
     exact W45
    ·rintro j pre c post s k hk hx (⟨rfl, hE⟩) J9
     obtain ⟨s9, hs9⟩ := s
     try dsimp only
     refine J_exit ?_
     refine ZL (Zc (Ze ?_))
     have hsl : s9.length = p.who.length := by first | exact hs9 | assumption
     refine B_heap (List.append_assoc _ _ _) ?_
     refine Za ?_
     refine Lo u76 (W4c rfl rfl rfl rfl) ?_
     refine Lo u76 (Zb (.inr rfl) rfl) ?_
     refine Zf (Zc ?_)
     refine Yv (Gh.freezeL (l := s9.map iW) 2 1 rfl rfl (YG (by simp [hsl])) (Nat.le_refl _) rfl) ?_
     refine Zi ?_
     refine W44 (.inr rfl) (Zh rfl rfl) ?_
     exact W45
abbrev u34 {a0 a1 a2 a3 a4 a5 a6 a7 a8 a9 a10 a11 a12 a13 a14 a15 a16 a17 a18 a19 a20 a21 a22 a23 a24 a25 a26 a27 a28 a29 a30 a31 a32 a33 : VVal} : VEnv := a0 :: a1 :: a2 :: a3 :: a4 :: a5 :: a6 :: a7 :: a8 :: a9 :: a10 :: a11 :: a12 :: a13 :: a14 :: a15 :: a16 :: a17 :: a18 :: a19 :: a20 :: a21 :: a22 :: a23 :: a24 :: a25 :: a26 :: a27 :: a28 :: a29 :: a30 :: a31 :: a32 :: a33 :: []
theorem W4i {S : V.Sys} {H : Zd} {fn : Func} {ex : Exit} {env : VEnv} {B L : Zd} {v : VVal} {R : VVal → Zd → Prop} (hx : ex = .normal ∨ ex = .ret) (hv : Z0 S.C.T env (B ++ L) fn.results = some v) (h : R v B) (hB : BaseOk H B := by exact XH45) (hu : v.under H.length = true := by first | exact (show ((VVal.agg (pbB z0P)).under H.length && (true && true)) = true by rw [pb_under]; rfl) | exact (show ((VVal.agg (pbB (p.users, p.who, p.fixed.set s.toNat u, p.rules, ()))).under H.length && (true && true)) = true by rw [pb_under]; rfl)) : fnK S fn H R ex env (B ++ L) := YE hx hv hB hu h
theorem W4j {P : Prop} (h : P := by first | exact ⟨by rw [fxP_ok hE, hE]; show _ = VVal.tuple [.agg [iI p.users, fzW p.who, .fsl ((p.fixed.set s.toNat u).map iI) (p.fixed.set s.toNat u).length 1 false, fzR p.rules], iI 0]; rw [List.length_set]; rfl, rfl⟩ | exact ⟨by have h9 : ¬ fxE p s u = 0 := (fun e => by have := fxE_ok.1 e; omega); rw [fxP_no h9]; unfold fxE; rw [if_neg (fun e => e (by assumption)), if_pos (by omega)]; rfl, rfl⟩ | exact ⟨by have h9 : ¬ fxE p s u = 0 := (fun e => absurd (pck_good.2 (fxE_ok.1 e).1) (by assumption)); rw [fxP_no h9]; unfold fxE; rw [if_pos (by assumption)]; rfl, rfl⟩) : P := h
theorem W4k {T : TypeId → Option VTy} {H : Zd} {op : Op} {ρ : VEnv} {H' : Zd} {t : TypeId} {a : Operand} {i : Nat} {v : VVal} {y : VTy} {b off : Nat} {cs new : List VVal} (ho : op = .store t a (.tmp i)) (hv : ρ[i]? = some v) (ha : ρ.eval a = .ptr (some (b, off))) (hy : T t = some y) (hx : v.cells = some new) (hn : new.length = y.size) (h1 : new.all VVal.one = true) (hb : H[b]? = some (.cells cs true) := by exact Zz rfl (Zr hY)) (hl : off + new.length ≤ cs.length := by show 0 + s.toNat * 1 + 1 ≤ _; rw [List.length_map]; omega) (hH : H.set b (.cells (Zu cs off new) true) = H' := by exact (ZG rfl).trans (by rw [Yo (ZQ hY)])) : vop T ρ.eval H op = some (.skip, H') := Z4 ho hv ha hy hx hn h1 hb hl hH
theorem W4l {T : TypeId → Option VTy} {H : Zd} {op : Op} {ρ : Operand → VVal} {t : TypeId} {a : Operand} {y : VTy} {p : VVal} {n : Nat} {vs : List VVal} (ho : op = .load t a) (ha : ρ a = p) (hy : T t = some y) (hd : Zj y.desc = true) (hn : y.size = n) (h : LdOkA H p n vs := by first | exact .inl ⟨_, _, rfl, XH39⟩ | exact .inr ⟨_, _, _, _, rfl, by exact Zz rfl (List.getElem?_set_self (by simp)), XH39⟩) : vop T ρ H op = some (.agg vs, H) := v_ldA ho ha hy hd hn h
theorem W4m {T : TypeId → Option VTy} {H : Zd} {op : Op} {ρ : VEnv} {H' : Zd} {t : TypeId} {a : Operand} {i : Nat} {v : VVal} {y : VTy} {b off : Nat} {cs new : List VVal} (ho : op = .store t a (.tmp i)) (hv : ρ[i]? = some v) (ha : ρ.eval a = .ptr (some (b, off))) (hy : T t = some y) (hx : v.cells = some new) (hn : new.length = y.size) (h1 : new.all VVal.one = true) (hb : H[b]? = some (.cells cs true) := by exact getB rfl rfl) (hl : off + new.length ≤ cs.length := by exact XH41) (hH : H.set b (.cells (Zu cs off new) true) = H' := by exact setB rfl (show 1 < 2 by decide)) : vop T ρ.eval H op = some (.skip, H') := Z4 ho hv ha hy hx hn h1 hb hl hH
def CpR (H : Zd) (p : Pb) (v : VVal) (G : Zd) : Prop := ∃ Y j, v = .agg [iI p.users, fzW p.who, .slice (some (H.length + j, 0)) p.fixed.length p.fixed.length false 1, fzR p.rules] ∧ G = H ++ Y ∧ Y[j]? = some (.cells (p.fixed.map iI) true)
theorem Copy_spec {x : SW} (H : Zd) (p : Pb) (hp : PbL p) (hne : p.fixed ≠ []) : F (psys x) 69 [.agg (pbB p)] H (CpR H p) := by
 have h1 := hp.w; have h2 := hp.f; have h3 := hp.r; have h4 := hp.s
 have hd : decide (p.fixed.length = 0) = false := decide_eq_false fun e => hne (List.eq_nil_of_length_eq_zero e)
 refine Zs Tryd.func69 rfl u34 rfl ?_
 refine Ze (Za ?_)
 refine Lo u34 (ZI rfl rfl rfl) ?_
 refine Lo u34 (ZF rfl rfl) ?_
 refine Zf (Zc (Ze ?_))
 refine Yv (Gh.freezePtrL (cs := pbB p) 1 0 rfl rfl rfl) ?_
 refine ZY [0, 1, 2, 3, 5, 6, 9, 4, 7, 8, 10] #[0, 1, 0, 4, 12, 0, 32, 124, 255, 0, 1023] XH5 XH5 XH5 ?_
 refine Oo u34 .calm rfl (rfl) ?_
 refine Ym (env' := u34) (x := .look _ _) rfl rfl rfl (W26 rfl rfl rfl rfl) rfl rfl rfl ?_
 refine Oo u34 .calm rfl (rfl) ?_
 refine Oo u34 .look rfl (W26 rfl rfl rfl rfl) ?_
 refine Oo u34 .calm rfl (rfl) ?_
 refine Ym (env' := u34) (x := .look _ _) rfl rfl rfl (W26 rfl rfl rfl rfl) rfl rfl rfl ?_
 refine Ym (env' := u34) (x := .grow _) rfl rfl rfl (ZF rfl rfl) rfl rfl rfl ?_
 refine Ye (env' := u34) rfl rfl rfl rfl rfl (by exact CloWf _ _ h1) XH10 rfl rfl ?_
 refine Ye (env' := u34) rfl rfl rfl rfl rfl (by exact CloI_L _ _ _ hne h2) XH10 rfl rfl ?_
 refine Oo u34 .calm rfl (rfl) ?_
 refine Oo u34 .turn rfl (W13 rfl rfl rfl rfl rfl rfl rfl) ?_
 refine Yf [_, _, _, _, _] (by rfl) (And.intro (And.intro (W26 rfl rfl rfl rfl) (W26 rfl rfl rfl rfl)) (And.intro (And.intro (W26 rfl rfl rfl rfl) (W26 rfl rfl rfl rfl)) (And.intro (And.intro (W26 rfl rfl rfl rfl) (W26 rfl rfl rfl rfl)) (And.intro ((by first | exact rfl | simp)) (And.intro ((by simp [V.fine])) trivial))))) ?_
 refine Zc (Ze (Ze (Za ?_)))
 refine Lo u34 (rfl) ?_
 refine Lo u34 (W26 rfl rfl rfl rfl) ?_
 refine Lo u34 (rfl) ?_
 refine Lo u34 (Zg (VVal.int .i64 0) (.inl rfl) rfl) ?_
 refine Zf (Zc (Zn ?_))
 refine ZB (mk 34 17179410419) (env' := u34) rfl ?_
 refine ZO (fun (k : Nat) => p.rules.length - k) (fun (k : Nat) => [(18, iI (k : Nat))]) (fun (k : Nat) G => (k ≤ p.rules.length) ∧ ∃ lv X, G = (H ++ [.dead, pqB 0 Yx Yx Yx, .cells [iI p.users, fzW p.who, .slice (some (H.length + 3, 0)) p.fixed.length p.fixed.length (decide (p.fixed.length = 0)) 1, lv] true, .cells (p.fixed.map iI) true]) ++ X ∧ LV (H.length + 4) 3 X lv ((p.rules.take k).flatMap rlB) (p.rules.take k).length) 0 rfl ?_ ?_
 ·refine ⟨?_, ⟨_, [], by rw [List.append_nil]; rfl, LV.nil _ _ _⟩⟩
  exact Nat.zero_le _
 rintro k _ ⟨hk, ⟨lv, X, rfl, hl⟩⟩
 refine Z6 (env' := u34) rfl ?_
 refine Ze (Za ?_)
 refine Lo u34 (rfl) ?_
 refine Zf (Zc (Ze ?_))
 refine Zk _ rfl (fun hc1 => ?_) (fun hc1 => ?_)
 ·try simp only [qB, qN] at hc1
  refine Zl (Zc (Ze (Zn (Ze (Za ?_)))))
  refine Lo u34 (W18 rfl rfl rfl rfl rfl rfl rfl) ?_
  refine Lo u34 (W24 rfl rfl rfl rfl rfl) ?_
  refine Lo u34 (ZF rfl rfl) ?_
  refine Lo u34 (W13 rfl rfl rfl rfl rfl rfl rfl) ?_
  refine Zf (Zc (Ze (Za ?_)))
  refine Lo u34 (rfl) ?_
  refine Lo u34 (W26 rfl rfl rfl rfl) ?_
  refine Zt rfl rfl rfl (by exact CloIf _ _ (h4 _ (rul_mem (by omega)))) ?_
  rintro _ _ ⟨rfl, rfl⟩
  refine Le u34 ?_
  refine Lo u34 (rfl) ?_
  refine Lo u34 (W13 rfl rfl rfl rfl rfl rfl rfl) ?_
  refine Zf (Zc (Za ?_))
  refine Lo u34 (rfl) ?_
  refine Lo u34 (W26 rfl rfl rfl rfl) ?_
  refine Lo u34 (W24 rfl rfl rfl rfl rfl) ?_
  refine Lo u34 (ZA rfl rfl (by decide) rfl) ?_
  refine L_opX rfl rfl (v_appXh rfl rfl rfl rfl rfl rfl rfl (by simp) (hl.app _) rfl rfl (by decide) (by rw [List.length_take]; show (_ + 1) * 40 ≤ _ ∧ _ + 1 ≤ _; omega) (by decide)) ?_
  rintro _ _ ⟨Y1, rfl, rfl, hY1, hY2, hY3⟩
  refine Le u34 ?_
  refine Lo u34 (rfl) ?_
  refine Lo u34 (W13 rfl rfl rfl rfl rfl rfl rfl) ?_
  refine Zf (Zx (Zc (Za ?_)))
  refine Lo u34 (W14 rfl rfl rfl) ?_
  refine Lo u34 (Zb (.inl rfl) rfl) ?_
  refine Zf ?_
  refine ZE (mk 34 17179410419) (env' := u34) rfl ⟨k + 1, ?_, rfl, ?_⟩
  ·first | omega | (simp only []; omega)
  ·exact ⟨by omega, _, _, rfl, by rw [Yn (d := r0) (by omega)]; exact LV.pushF hY3⟩
 ·try simp only [qB, qN] at hc1
  refine ZM (ZP (ZD (ZL (Zc (Ze ?_)))))
  obtain rfl : k = p.rules.length := by omega
  rw [List.take_length] at hl
  refine B_ghCell 2 3 hl rfl rfl (by simp) fun X5 _ _ => ?_
  refine B_heap (List.append_assoc _ _ _) ?_
  refine Za ?_
  refine Lo u34 (W24 rfl rfl rfl rfl rfl) ?_
  refine Lo u34 (W13 rfl rfl rfl rfl rfl rfl rfl) ?_
  refine Zf (Zc (Zi ?_))
  refine E_keep (.inr rfl) (YH rfl rfl rfl rfl XH0 XH8) ?_
  exact ⟨_, 3, (show VVal.agg [iI p.users, fzW p.who, .slice (some (H.length + 3, 0)) p.fixed.length p.fixed.length (decide (p.fixed.length = 0)) 1, fzR p.rules] = _ from by rw [hd]), rfl, rfl⟩
def z0P : Pb := (0, [], [], [], ())
def fxE (p : Pb) (s u : Int) : Int := if pck p ≠ 0 then pck p else if s < 0 ∨ (p.who.length : Int) ≤ s ∨ u < 0 ∨ p.users ≤ u then 1 else 0
def fxP (p : Pb) (s u : Int) : Pb := if fxE p s u = 0 then (p.users, p.who, p.fixed.set s.toNat u, p.rules, ()) else z0P
theorem fxE_ok {p : Pb} {s u : Int} : fxE p s u = 0 ↔ Go.V.Good p ∧ (0 ≤ s ∧ s < p.who.length) ∧ 0 ≤ u ∧ u < p.users := by
  unfold fxE
  constructor
  · intro h
    split at h
    · rename_i h1; exact absurd h h1
    · rename_i h1
      split at h
      · cases h
      · exact ⟨pck_good.1 (Decidable.of_not_not h1), by omega, by omega⟩
  · rintro ⟨g, h1, h2⟩
    rw [if_neg (fun e => e (pck_good.2 g)), if_neg (by omega)]
theorem fxP_ok {p : Pb} {s u : Int} (h : fxE p s u = 0) : fxP p s u = (p.users, p.who, p.fixed.set s.toNat u, p.rules, ()) := if_pos h
theorem fxP_no {p : Pb} {s u : Int} (h : ¬ fxE p s u = 0) : fxP p s u = z0P := if_neg h
theorem spl_I {l : List Int} {k : Nat} {w : Int} (h : k < l.length) : Zu (l.map iI) (0 + k * 1) [iI w] = (l.set k w).map iI := by
  rw [show 0 + k * 1 = k by omega]
  unfold Zu
  rw [List.map_set, List.set_eq_take_append_cons_drop, if_pos (by rw [List.length_map]; exact h)]; simp
theorem Fix_spec {x : SW} (H : Zd) (p : Pb) (s u : Int) (hp : PbL p) : F (psys x) 38 [.agg (pbB p), iI s, iI u] H fun v G => v = .tuple [.agg (pbB (fxP p s u)), iI (fxE p s u)] ∧ G = H := by
 refine Zs Tryd.func38 rfl u44 rfl ?_
 refine Ze (Za ?_)
 refine Lo u44 (ZI rfl rfl rfl) ?_
 refine Lo u44 (ZF rfl rfl) ?_
 refine Lo u44 (Zg (VVal.int .i64 0) (.inr rfl) rfl) ?_
 refine Zf (Zc (Ze (Ze ?_)))
 refine Yv (Gh.freezePtrL (cs := pbB p) 3 0 rfl rfl rfl) ?_
 refine Za ?_
 refine Lo u44 (W24 rfl rfl rfl rfl rfl) ?_
 refine Zt rfl rfl rfl (by exact sCheck_spec _ _ hp) ?_
 rintro _ _ ⟨rfl, rfl⟩
 refine Le u44 ?_
 refine Lo u44 (Zb (.inr rfl) rfl) ?_
 refine Zf (Zc (Ze (Za ?_)))
 refine Lo u44 (Zb (.inl rfl) rfl) ?_
 refine Lo u44 (rfl) ?_
 refine Zf (Zc ?_)
 refine Zk _ rfl (fun hc1 => ?_) (fun hc1 => ?_)
 ·try simp only [qB, qN] at hc1
  refine Ze (Za ?_)
  refine Lo u44 (rfl) ?_
  refine Lo u44 (Zb (.inl rfl) rfl) ?_
  refine Lo u44 (W13 rfl rfl rfl rfl rfl rfl rfl) ?_
  refine Lo u44 (Zb (.inr rfl) rfl) ?_
  refine Zf (Zc ?_)
  refine Yv (Gh.cellNilL 1 1 (es' := 1) rfl rfl) ?_
  refine Yv (Gh.cellNilL 1 2 (es' := 1) rfl rfl) ?_
  refine Yv (Gh.cellNilL 1 3 (es' := 3) rfl rfl) ?_
  refine Zi (Zo ?_)
  refine W4i (.inr rfl) (vres_cAt rfl rfl rfl rfl XH23 XH8 rfl) ?_
  exact W4j
 ·try simp only [qB, qN] at hc1
  refine Zl (Zc (Ze (Ze (Za ?_))))
  refine Lo u44 (Zb (.inl rfl) rfl) ?_
  refine Lo u44 (rfl) ?_
  refine Lo u44 (Zb (.inl rfl) rfl) ?_
  refine ZH 18 (env1 := u44) (env2 := u44) rfl rfl rfl (fun hg2 => ?_) (fun hg2 => ?_)
  ·try simp only [qB, qN] at hg2
   refine Lf u44 ?_
   refine Lf u44 ?_
   refine Lf u44 ?_
   refine Lf u44 ?_
   refine Lf u44 ?_
   refine Lo u44 (Z8 (VVal.bool true) rfl rfl rfl) ?_
   refine Lo u44 (Zb (.inl rfl) rfl) ?_
   refine Lf u44 ?_
   refine Lf u44 ?_
   refine Lo u44 (Z8 (VVal.bool true) rfl rfl rfl) ?_
   refine Lo u44 (Zb (.inl rfl) rfl) ?_
   refine Lf u44 ?_
   refine Lf u44 ?_
   refine Lf u44 ?_
   refine Lf u44 ?_
   refine Lo u44 (Z8 (VVal.bool true) rfl rfl rfl) ?_
   refine Zf (Zc ?_)
   refine ZX rfl rfl ?_
   refine Ze (Za ?_)
   refine Lo u44 (rfl) ?_
   refine Lo u44 (W13 rfl rfl rfl rfl rfl rfl rfl) ?_
   refine Lo u44 (Zg (VVal.int .i64 1) (.inr rfl) rfl) ?_
   refine Zf (Zc ?_)
   refine Yv (Gh.cellNilL 1 1 (es' := 1) rfl rfl) ?_
   refine Yv (Gh.cellNilL 1 2 (es' := 1) rfl rfl) ?_
   refine Yv (Gh.cellNilL 1 3 (es' := 3) rfl rfl) ?_
   refine Zi (Zo ?_)
   refine W4i (.inr rfl) (vres_cAt rfl rfl rfl rfl XH23 XH8 rfl) ?_
   exact W4j
  ·try simp only [qB, qN] at hg2
   refine Lo u44 (Zb (.inl rfl) rfl) ?_
   refine Lo u44 (rfl) ?_
   refine Lo u44 (W26 rfl rfl rfl rfl) ?_
   refine Lo u44 (rfl) ?_
   refine Lo u44 (rfl) ?_
   refine Lo u44 (Yz rfl rfl rfl) ?_
   refine Lo u44 (Zb (.inl rfl) rfl) ?_
   refine ZH 25 (env1 := u44) (env2 := u44) rfl rfl rfl (fun hg3 => ?_) (fun hg3 => ?_)
   ·try simp only [qB, qN] at hg3
    refine Lf u44 ?_
    refine Lf u44 ?_
    refine Lo u44 (Z8 (VVal.bool true) rfl rfl rfl) ?_
    refine Lo u44 (Zb (.inl rfl) rfl) ?_
    refine Lf u44 ?_
    refine Lf u44 ?_
    refine Lf u44 ?_
    refine Lf u44 ?_
    refine Lo u44 (Z8 (VVal.bool true) rfl rfl rfl) ?_
    refine Zf (Zc ?_)
    refine ZX rfl rfl ?_
    refine Ze (Za ?_)
    refine Lo u44 (rfl) ?_
    refine Lo u44 (W13 rfl rfl rfl rfl rfl rfl rfl) ?_
    refine Lo u44 (Zg (VVal.int .i64 1) (.inr rfl) rfl) ?_
    refine Zf (Zc ?_)
    refine Yv (Gh.cellNilL 1 1 (es' := 1) rfl rfl) ?_
    refine Yv (Gh.cellNilL 1 2 (es' := 1) rfl rfl) ?_
    refine Yv (Gh.cellNilL 1 3 (es' := 3) rfl rfl) ?_
    refine Zi (Zo ?_)
    refine W4i (.inr rfl) (vres_cAt rfl rfl rfl rfl XH23 XH8 rfl) ?_
    exact W4j
   ·try simp only [qB, qN] at hg3
    refine Lo u44 (Zb (.inl rfl) rfl) ?_
    refine Lo u44 (rfl) ?_
    refine Lo u44 (Yz rfl rfl rfl) ?_
    refine Lo u44 (Zb (.inl rfl) rfl) ?_
    refine ZH 29 (env1 := u44) (env2 := u44) rfl rfl rfl (fun hg4 => ?_) (fun hg4 => ?_)
    ·try simp only [qB, qN] at hg4
     refine Lf u44 ?_
     refine Lf u44 ?_
     refine Lf u44 ?_
     refine Lf u44 ?_
     refine Lo u44 (Z8 (VVal.bool true) rfl rfl rfl) ?_
     refine Zf (Zc ?_)
     refine ZX rfl rfl ?_
     refine Ze (Za ?_)
     refine Lo u44 (rfl) ?_
     refine Lo u44 (W13 rfl rfl rfl rfl rfl rfl rfl) ?_
     refine Lo u44 (Zg (VVal.int .i64 1) (.inr rfl) rfl) ?_
     refine Zf (Zc ?_)
     refine Yv (Gh.cellNilL 1 1 (es' := 1) rfl rfl) ?_
     refine Yv (Gh.cellNilL 1 2 (es' := 1) rfl rfl) ?_
     refine Yv (Gh.cellNilL 1 3 (es' := 3) rfl rfl) ?_
     refine Zi (Zo ?_)
     refine W4i (.inr rfl) (vres_cAt rfl rfl rfl rfl XH23 XH8 rfl) ?_
     exact W4j
    ·try simp only [qB, qN] at hg4
     refine Lo u44 (Zb (.inl rfl) rfl) ?_
     refine Lo u44 (rfl) ?_
     refine Lo u44 (W26 rfl rfl rfl rfl) ?_
     refine Lo u44 (rfl) ?_
     refine Lo u44 (Yz rfl rfl rfl) ?_
     refine Zf (Zc ?_)
     refine Zk _ rfl (fun hc5 => ?_) (fun hc5 => ?_)
     ·try simp only [qB, qN] at hc5
      refine Ze (Za ?_)
      refine Lo u44 (rfl) ?_
      refine Lo u44 (W13 rfl rfl rfl rfl rfl rfl rfl) ?_
      refine Lo u44 (Zg (VVal.int .i64 1) (.inr rfl) rfl) ?_
      refine Zf (Zc ?_)
      refine Yv (Gh.cellNilL 1 1 (es' := 1) rfl rfl) ?_
      refine Yv (Gh.cellNilL 1 2 (es' := 1) rfl rfl) ?_
      refine Yv (Gh.cellNilL 1 3 (es' := 3) rfl rfl) ?_
      refine Zi (Zo ?_)
      refine W4i (.inr rfl) (vres_cAt rfl rfl rfl rfl XH23 XH8 rfl) ?_
      exact W4j
     ·try simp only [qB, qN] at hc5
      refine Zl (Zc (Ze ?_))
      have hE : fxE p s u = 0 := fxE_ok.2 ⟨pck_good.1 (by assumption), by omega, by omega⟩
      have g := (fxE_ok.1 hE).1
      have g5 := g.fx
      have hs9 := (fxE_ok.1 hE).2.1
      refine Za ?_
      refine Lo u44 (W24 rfl rfl rfl rfl rfl) ?_
      refine Zt rfl rfl rfl (by exact Copy_spec _ p hp (fun e => by rw [e] at g5; simp at g5; omega)) ?_
      rintro _ _ ⟨Y, j, rfl, rfl, hY⟩
      refine Le u44 ?_
      refine Lo u44 (ZF rfl rfl) ?_
      refine Lo u44 (W13 rfl rfl rfl rfl rfl rfl rfl) ?_
      refine Zf (Zc (Ze (Za ?_)))
      refine Lo u44 (rfl) ?_
      refine Lo u44 (W26 rfl rfl rfl rfl) ?_
      refine Lo u44 (Zb (.inl rfl) rfl) ?_
      refine Lo u44 (Zb (.inl rfl) rfl) ?_
      refine Lo u44 (W18 rfl rfl rfl rfl rfl rfl rfl) ?_
      refine Lo u44 (W4k rfl rfl rfl rfl rfl rfl rfl) ?_
      refine Zf (Zc (Ze ?_))
      have hj := ZQ hY
      refine Yv (Gh.cellL (H := H ++ [.dead, .cells _ true]) (cs := (p.fixed.set s.toNat u).map iI) (l := (p.fixed.set s.toNat u).map iI) Y.length 2 j (by rw [List.getElem?_append_right (by rw [List.length_set]; exact Nat.le_refl _), List.length_set, Nat.sub_self]; rfl) rfl (by omega) (by rw [Zr (List.getElem?_set_self hj)]; show some (VBlk.cells (Zu (p.fixed.map iI) (0 + s.toNat * 1) [iI u]) true) = _; rw [spl_I (by omega)]) (YG (by rw [List.length_map, List.length_set])) (Nat.le_refl _)) ?_
      refine Za ?_
      refine Lo u44 (W4l rfl rfl rfl rfl rfl) ?_
      refine Lo u44 (W4m rfl rfl rfl rfl rfl rfl rfl) ?_
      refine Lo u44 (Zg (VVal.int .i64 0) (.inr rfl) rfl) ?_
      refine Zf (Zc ?_)
      refine B_heap (List.append_assoc _ _ _) ?_
      refine Zi ?_
      refine W4i (.inr rfl) (vres_cAt rfl rfl rfl rfl XH23 XH8 rfl) ?_
      exact W4j
theorem fx_good {q : Pb} {s u : Int} (h : fxE q s u = 0) : Go.V.Good (fxP q s u) := by
  obtain ⟨g, h1, h2⟩ := fxE_ok.1 h
  rw [fxP_ok h]
  have g5 := g.fx
  refine ⟨g.n12, g.u64, g.r32, g.u0, ?_, fun i hi => ?_, g.ru⟩
  · show (q.fixed.set _ _).length = _; rw [List.length_set]; exact g5
  · show okW q.users ((q.fixed.set s.toNat u).getD i 0) (q.who.getD i 0) = true
    have hi : i < q.who.length := hi
    have ok := okW_in g hi
    unfold okW
    rw [getD_setL, Bool.and_eq_true, decide_eq_true_eq, decide_eq_true_eq]
    refine ⟨?_, ok.2⟩
    split
    · omega
    · exact ok.1
theorem fxP_L {p : Pb} {s u : Int} (h : PbL p) : PbL (fxP p s u) := by
  by_cases e : fxE p s u = 0
  · rw [fxP_ok e]
    exact ⟨h.u, h.w, by show (p.fixed.set _ _).length ≤ _; rw [List.length_set]; exact h.f, h.r, h.s⟩
  · rw [fxP_no e]; exact ⟨by decide, by decide, by decide, by decide, fun r hr => by cases hr⟩
abbrev seB (w : BitVec 64) : VBlk := .cells [iW w] true
theorem not_of_f {b : Bool} (h : b = false) : ¬ b = true := by rw [h]; decide
theorem beq_nat {a b : Nat} : ((a : Int) == (b : Int)) = (a == b) := Bool.eq_iff_iff.2 (by rw [beq_iff_eq, beq_iff_eq]; omega)
section
variable {H L : Zd} {p q : Nat} {s : HSt}
end
theorem myB_in' {p : Pb} {i : Nat} {u : Int} (g : Go.V.Good p) (hi : i < p.who.length) (h : myB p i u = true) : 0 ≤ u ∧ u < p.users := by
  have ok := (okW_in g hi).1
  by_cases h0 : 0 ≤ p.fixed.getD i 0
  · rw [myB_f g hi h0, decide_eq_true_eq] at h; omega
  · rw [myB_w g hi (by omega), Bool.and_eq_true, decide_eq_true_eq] at h; exact h.1
namespace MM
end MM
open Go Go.V Go.RowKit
def sumP (p : Pb) : Nat := ((ptP p).map (cnA (wsP p))).sum
theorem sumP_ok {p : Pb} (h : pck p = 0) : sumP p = toF (wsP p) p.rules p.who.length [] := by
  have g := pck_good.1 h
  unfold sumP ptP
  rw [if_pos h, ptT_snd]
  have := sum_kept (ws := wsP p) (rs := p.rules) (fun r hr => by rw [Yi]; exact g.ru r hr)
  rw [Yi] at this ⊢
  exact this
theorem sumP_no {p : Pb} (h : ¬ pck p = 0) : sumP p = 0 := by
  unfold sumP ptP
  rw [if_neg h]; rfl
theorem W4q {T : TypeId → Option VTy} {H : Zd} {op : Op} {ρ : Operand → VVal} {t : TypeId} {a : Operand} {y : VTy} {p v : VVal} (ho : op = .load t a) (ha : ρ a = p) (hy : T t = some y) (hd : Zj y.desc = false) (h : LdOk H p v := by first | exact .inl ⟨_, _, rfl, XH37⟩ | exact .inr ⟨_, _, _, _, rfl, by first | exact Zr (Zz rfl rfl) | exact Zz rfl rfl | exact getB rfl rfl, XH37⟩) : vop T ρ H op = some (v, H) := v_ld ho ha hy hd h
theorem W4s {P : Prop} (h : P := by first | exact ⟨congrArg iW (by rw [hI]; rfl), rfl⟩ | exact ⟨congrArg iW (by rw [hX1, satW_full hX1 hX2]), rfl⟩) : P := h
theorem pl_step {ws : List (BitVec 64)} {a : List Nat} {most : BitVec 64} {s : Nat} (h : (Z5 ws a a.length).length ≤ 12) : ZK (ZK most 65536) s + MM.coV (Z5 ws a a.length) (ZK ((ZK most 65536) - ZK (ZK most 65536) s) 65536) = ZK (ZK most 65536) (s + cnA ws a) := by
  unfold MM.coV
  rw [if_pos h]
  exact sat_more (by rw [Ya]; omega)
theorem sum_split {f : List Nat → Nat} {l pre post : List (List Nat)} {a : List Nat} (h : l = pre ++ a :: post) : ((pre ++ [a]).map f).sum = (pre.map f).sum + f a ∧ ((pre ++ [a]).map f).sum ≤ (l.map f).sum := by
  subst h
  simp only [List.map_append, List.sum_append, List.map_cons, List.sum_cons, List.map_nil, List.sum_nil]
  omega
theorem tPlans_spec {x : SW} (H : Zd) (p : Pb) (hp : PbL p) (most : BitVec 64) : F (psys x) 29 [.agg (pbB p), iW most] H fun v G => v = iW (ZK (ZK most 65536) (sumP p)) ∧ G = H := by
 refine Zs Tryd.func29 rfl u25 rfl ?_
 refine Ze (Za ?_)
 refine Lo u25 (ZI rfl rfl rfl) ?_
 refine Lo u25 (ZI rfl rfl rfl) ?_
 refine Lo u25 (Zg (VVal.int .u64 0) (.inr rfl) rfl) ?_
 refine Zf (Zc (Ze ?_))
 refine Yv (Gh.freezePtrL (cs := pbB p) 2 0 rfl rfl rfl) ?_
 refine Za ?_
 refine Lo u25 (W12 rfl rfl rfl rfl) ?_
 refine Lo u25 (YL rfl ((congrArg (VVal.int .u64) (MM.minW (a := most) (b := 65536#64))).trans rfl)) ?_
 refine Lo u25 (W13 rfl rfl rfl rfl rfl rfl rfl) ?_
 refine Zf (Zc (Ze (Za ?_)))
 refine Lo u25 (ZF rfl rfl) ?_
 refine Lo u25 (YJ (VVal.int .u64 0) rfl rfl rfl rfl rfl rfl rfl XH0 XH6 XH14) ?_
 refine Zf (Zc (Ze (Ze (Za ?_))))
 refine Lo u25 (W11 rfl rfl rfl rfl rfl) ?_
 refine Zt rfl rfl rfl (by exact tpat_spec _ p) ?_
 rintro _ _ ⟨rfl, rfl⟩
 refine Le u25 ?_
 refine Zf (Zc (Zn ?_))
 refine ZB (mk 25 33552343) (env' := u25) rfl ?_
 refine B_rangeJ (fvP p) 2 (fun _ => rfl) (ptP p) (fun l0 h => by cases h) rfl (fun l9 G9 K9 hI9 => tpat1_spec l9 p hp G9 K9 hI9) (σ := Nat) (fun k s => H ++ [.dead, .cells [iW (ZK most 65536)] true, .cells [iW (ZK (ZK most 65536) s)] true, k]) 0 (fun k => by rw [List.append_assoc]; show _ = H ++ [.dead, .cells [iW (ZK most 65536)] true, .cells [iW (ZK (ZK most 65536) 0)] true, k]; rw [satW_0]; rfl) (fun k s => by simp) (fun k s => by rw [show (H ++ _ : Zd).length = H.length + 3 by simp]; exact Zz rfl rfl) (fun k k1 s => by rw [show (H ++ _ : Zd).length = H.length + 3 by simp]; exact ZG rfl) (fun pre s => s = (pre.map (cnA (wsP p))).sum) ?_ (fun j pre c s => (j = Code.exit 0 ∧ (ZK (ZK most 65536) s = (ZK most 65536) ∧ s ≤ sumP p))) rfl ?_ ?_ ?_
 ·rfl
 ·intro pre c post s hx hI Lp kr kb hkr hkb
  try dsimp only at hI ⊢
  have hc9 : c ∈ ptP p := by rw [hx]; simp
  obtain ⟨h0, hpc, hcl, _, _⟩ := ptP_mem hc9
  have g1 := (pck_good.1 h0).n12
  have hbl := @Yg (wsP p) c c.length
  have hz := @szP_le c c.length
  obtain ⟨hs1, hs2⟩ := sum_split (f := cnA (wsP p)) hx
  refine Z6 (env' := u25) rfl ?_
  refine Za ?_
  refine Lo u25 (Zb (.inr rfl) rfl) ?_
  refine Zf ?_
  refine ⟨rfl, s, rfl, ?_⟩
  try dsimp only
  refine Zn (Ze ?_)
  refine ZY [0, 1, 2, 3, 4, 5, 6, 7] #[0, 0, 0, 0, 12, 30, 63, 127] XH5 XH5 XH5 ?_
  refine Ym (env' := u25) (x := .look _ _) rfl rfl rfl (W12 rfl rfl rfl rfl) rfl rfl rfl ?_
  refine Oo u25 .calm rfl (Zb (.inl rfl) rfl) ?_
  refine Oo u25 .look rfl (W12 rfl rfl rfl rfl) ?_
  refine Oo u25 .look rfl (W12 rfl rfl rfl rfl) ?_
  refine Oo u25 .calm rfl (v_subW rfl rfl rfl) ?_
  refine Ye (env' := u25) rfl rfl rfl rfl rfl (by exact MM.mCount_spec _ (Z5 (wsP p) c c.length) ((ZK most 65536) - ZK (ZK most 65536) s) (by omega)) XH10 rfl rfl ?_
  refine Oo u25 .calm rfl (YL (v_addW rfl rfl rfl) (congrArg iW (pl_step (s := s) (a := c) (ws := wsP p) (most := most) (by omega)))) ?_
  refine Oo u25 .turn rfl (W13 rfl rfl rfl rfl rfl rfl rfl) ?_
  refine O_nilP [(0, 5)] XH5 (And.intro ⟨_, _, _, _, ⟨(gA (gA (gA (gA (gA (gA (gA (gL XH5)))))))), (gA (gA (gL XH5))), And.intro (W12 rfl rfl rfl rfl) (W12 rfl rfl rfl rfl)⟩⟩ (trivial)) ?_
  refine Zc (Ze (Za ?_))
  refine Lo u25 (W12 rfl rfl rfl rfl) ?_
  refine Lo u25 (W12 rfl rfl rfl rfl) ?_
  refine Lo u25 (rfl) ?_
  refine Zf (Zc ?_)
  refine Zk _ rfl (fun hc1 => ?_) (fun hc1 => ?_)
  ·try simp only [qB, qN] at hc1
   refine ZM ?_
   refine K_blkO rfl ?_
   refine ⟨s + cnA (wsP p) c, [], (by simp; rfl), .inr ⟨Code.exit 0, rfl, ⟨rfl, ?_⟩⟩⟩
   exact ⟨hc1, by rw [hI, ← hs1]; exact hs2⟩
  ·try simp only [qB, qN] at hc1
   refine Zl (Zx ?_)
   refine ⟨s + cnA (wsP p) c, [], (by simp; rfl), .inl ⟨rfl, ?_⟩⟩
   rw [hs1, hI]
 ·intro s k hk hI J9
  try dsimp only at hI ⊢
  refine Zx (Zc (Ze ?_))
  try refine B_heap (List.append_assoc _ _ _) ?_
  refine Za ?_
  refine Lo u25 (W4q rfl rfl rfl rfl) ?_
  refine Lo u25 (Zb (.inr rfl) rfl) ?_
  refine Zf (Zc (Zi ?_))
  refine W10 (.inr rfl) (Zh rfl rfl) ?_
  exact W4s
 ·rintro j pre c post s k hk hx (⟨rfl, ⟨hX1, hX2⟩⟩) J9
  try dsimp only
  skip
  refine J_exit ?_
  refine ZL (Zc (Ze ?_))
  try refine B_heap (List.append_assoc _ _ _) ?_
  refine Za ?_
  refine Lo u25 (W4q rfl rfl rfl rfl) ?_
  refine Lo u25 (Zb (.inr rfl) rfl) ?_
  refine Zf (Zc (Zi ?_))
  refine W10 (.inr rfl) (Zh rfl rfl) ?_
  exact W4s
def pt : Pb := (2, [3#64, 3#64], [-1, -1], [], ())
theorem pt_L : PbL pt := ⟨by decide, by decide, by decide, by decide, fun r hr => by cases hr⟩
theorem pt_n : sumP pt = 4 := by decide +kernel
theorem pt_l : liA pt = [3#64, 3#64] := by decide +kernel
theorem twakes_spec {x : SW} (H : Zd) : F (psys x) 31 [] H fun v G => v = .bool true ∧ G = H := by
 refine Zs Tryd.func31 rfl u22 rfl ?_
 refine Ze (Za ?_)
 refine Lo u22 (Zg (VVal.bool false) (.inr rfl) rfl) ?_
 refine Zf (Zc (Ze (Za ?_)))
 refine Lo u22 (ZA rfl rfl (by decide) rfl) ?_
 refine Lo u22 (ZA rfl rfl (by decide) rfl) ?_
 refine Lo u22 (rfl) ?_
 refine Lo u22 (ZF rfl rfl) ?_
 refine Lo u22 (W13 rfl rfl rfl rfl rfl rfl rfl) ?_
 refine Zf (Zc (Ze (Za ?_)))
 refine L_gh (Gh.cellL (l := [iW 3#64, iW 3#64]) 2 1 0 rfl rfl (by decide) rfl rfl (Nat.le_refl _)) ?_
 refine L_gh (Gh.cellL (l := [iI (-1), iI (-1)]) 2 2 1 rfl rfl (by decide) rfl rfl (Nat.le_refl _)) ?_
 refine L_gh (Gh.cellNilL 2 3 (es' := 3) rfl rfl) ?_
 refine Lo u22 (W11 rfl rfl rfl rfl rfl) ?_
 refine Zt rfl rfl rfl (by exact tLive_spec _ pt pt_L) ?_
 rintro v _ ⟨hv, rfl⟩; rw [pt_l] at hv; subst hv
 refine Le u22 ?_
 refine Lo u22 (Zb (.inr rfl) rfl) ?_
 refine Zf (Zc (Ze (Za ?_)))
 refine Lo u22 (W11 rfl rfl rfl rfl rfl) ?_
 refine Zt rfl rfl rfl (by exact tPlans_spec _ pt pt_L 9#64) ?_
 rintro v _ ⟨hv, rfl⟩; obtain rfl : v = iW 4#64 := hv.trans (congrArg iW (by rw [pt_n]; decide))
 refine Le u22 ?_
 refine Lo u22 (v_is true rfl rfl) ?_
 refine Lo u22 (Zb (.inl rfl) rfl) ?_
 refine Lo u22 (Zb (.inl rfl) rfl) ?_
 refine Lo u22 (rfl) ?_
 refine Lo u22 (v_is true rfl rfl) ?_
 refine Lo u22 (ZN rfl rfl rfl) ?_
 refine Lo u22 (Zb (.inl rfl) rfl) ?_
 refine Lo u22 (Zb (.inl rfl) rfl) ?_
 refine Lo u22 (W18 rfl rfl rfl rfl rfl rfl rfl) ?_
 refine Lo u22 (W12 rfl rfl rfl rfl) ?_
 refine Lo u22 (v_is true rfl rfl) ?_
 refine Lo u22 (ZN rfl rfl rfl) ?_
 refine Lo u22 (Zb (.inr rfl) rfl) ?_
 refine Zf (Zc (Zi ?_))
 refine W10 (.inr rfl) (Zh rfl rfl) ?_
 exact ⟨rfl, rfl⟩
end Go.Proofs.YtenkjadobkjaeaaDoor.VT
