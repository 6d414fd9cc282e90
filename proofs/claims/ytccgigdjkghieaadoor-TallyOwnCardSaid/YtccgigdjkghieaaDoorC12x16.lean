/- Proved: Rows.TallyOwnCardSaid, the statement TallyOwn with its card, of the given program at the commit; no conditions beyond those in the statement. -/
import Derived.Test.YtccgigdjkghieaaDoorC12x15
set_option autoImplicit false
set_option linter.unusedVariables false
set_option linter.unusedSimpArgs false
set_option maxHeartbeats 4000000
set_option maxRecDepth 100000
namespace Go.Proofs.YtccgigdjkghieaaDoor.VT
open Go Go.V Go.RowKit
theorem W7f {T : TypeId → Option VTy} {H : Ze} {op : Op} {ρ : Operand → VVal} {t : TypeId} {a : Operand} {y : VTy} {p v : VVal} (ho : op = .load t a) (ha : ρ a = p) (hy : T t = some y) (hd : Zk y.desc = false) (h : LdOk H p v := by first | exact .inl ⟨_, _, rfl, by first | exact Jj (α := BitVec 64) 0 (by omega) | exact XE (α := BitVec 64) 0 (by omega) | exact YT (α := BitVec 64) 0 (by omega)⟩ | exact .inr ⟨_, _, _, _, rfl, by exact Zn hb, by first | exact Jj (α := BitVec 64) 0 (by omega) | exact XE (α := BitVec 64) 0 (by omega) | exact YT (α := BitVec 64) 0 (by omega)⟩) : vop T ρ H op = some (v, H) := Yv ho ha hy hd h
theorem W7h {T : TypeId → Option VTy} {H : Ze} {op : Op} {ρ : Operand → VVal} {t : TypeId} {a : Operand} {y : VTy} {p : VVal} {n : Nat} {vs : List VVal} (ho : op = .load t a) (ha : ρ a = p) (hy : T t = some y) (hd : Zk y.desc = true) (hn : y.size = n) (h : XF H p n vs := by first | exact .inl ⟨_, _, rfl, XH39⟩ | exact .inr ⟨_, _, _, _, rfl, XH35, XH39⟩) : vop T ρ H op = some (.agg vs, H) := XI ho ha hy hd hn h
theorem W7i {P : Prop} (h : P := by first | exact ⟨_, rfl, .inl ⟨liA_no (by assumption), rfl⟩⟩ | exact ⟨_, rfl, .inl ⟨liA_0 (by omega), rfl⟩⟩ | exact ⟨_, rfl, .inr ⟨1, by rw [ZbD h0]; omega, by rw [liA_in h0, hE, hsl], by rw [liA_in h0, hE]; rfl⟩⟩) : P := h
theorem W7j {T : TypeId → Option VTy} {H : Ze} {op : Op} {ρ : Operand → VVal} {t : TypeId} {a : Operand} {y : VTy} {p v : VVal} (ho : op = .load t a) (ha : ρ a = p) (hy : T t = some y) (hd : Zk y.desc = false) (h : LdOk H p v := by first | exact .inl ⟨_, _, rfl, XH39⟩ | exact .inr ⟨_, _, _, _, rfl, XH35, XH39⟩) : vop T ρ H op = some (v, H) := Yv ho ha hy hd h
theorem W7l {T : TypeId → Option VTy} {H : Ze} {op : Op} {ρ : Operand → VVal} {t e : TypeId} {x i : Operand} {y z : VTy} {k : IntKind} {n : Int} {p v : VVal} {es : Nat} (ho : op = .indexAddr t x i) (hx : ρ x = p) (hi : ρ i = .int k n) (hy : T t = some y) (hd : y.desc = .slice e) (hz : T e = some z) (hs : z.size = es) (h : IxOk p es n v := by first | exact .inl ⟨_, _, _, rfl, by constructor <;> omega, rfl⟩ | exact .inr ⟨_, _, _, _, _, rfl, by constructor <;> omega, rfl⟩) : vop T ρ H op = some (v, H) := v_ix ho hx hi hy hd hz hs h
theorem W7m {T : TypeId → Option VTy} {H : Ze} {op : Op} {ρ : VEnv} {H' : Ze} {t : TypeId} {a : Operand} {i : Nat} {v : VVal} {y : VTy} {b off : Nat} {cs new : List VVal} (ho : op = .store t a (.tmp i)) (hv : ρ[i]? = some v) (ha : ρ.eval a = .ptr (some (b, off))) (hy : T t = some y) (hx : v.cells = some new) (hn : new.length = y.size) (h1 : new.all VVal.one = true) (hb : H[b]? = some (.cells cs true) := by exact XH35) (hl : off + new.length ≤ cs.length := by show 0 + ((k : Nat) : Int).toNat * 1 + 1 ≤ _; rw [List.length_map, X9]; omega) (hH : H.set b (.cells (Zx cs off new) true) = H' := by exact (ZO rfl).trans (congrArg (fun z => H ++ [VBlk.dead, _, VBlk.cells z true, _, _]) (wsK_set (by omega)))) : vop T ρ.eval H op = some (.skip, H') := Z3 ho hv ha hy hx hn h1 hb hl hH
theorem W7n {T : TypeId → Option VTy} {H : Ze} {op : Op} {ρ : Operand → VVal} {t : TypeId} {a : Operand} {y : VTy} {p v : VVal} (ho : op = .load t a) (ha : ρ a = p) (hy : T t = some y) (hd : Zk y.desc = false) (h : LdOk H p v := by first | exact .inl ⟨_, _, rfl, XH39⟩ | exact .inr ⟨_, _, _, _, rfl, by exact ZcR rfl rfl, XH39⟩) : vop T ρ H op = some (v, H) := Yv ho ha hy hd h
theorem W7o {T : TypeId → Option VTy} {H : Ze} {op : Op} {ρ : VEnv} {H' : Ze} {t : TypeId} {a : Operand} {i : Nat} {v : VVal} {y : VTy} {b off : Nat} {cs new : List VVal} (ho : op = .store t a (.tmp i)) (hv : ρ[i]? = some v) (ha : ρ.eval a = .ptr (some (b, off))) (hy : T t = some y) (hx : v.cells = some new) (hn : new.length = y.size) (h1 : new.all VVal.one = true) (hb : H[b]? = some (.cells cs true) := by exact ZcR rfl rfl) (hl : off + new.length ≤ cs.length := by show 0 + ((k : Nat) : Int).toNat * 1 + 1 ≤ _; rw [List.length_map, YE]; omega) (hH : H.set b (.cells (Zx cs off new) true) = H' := by exact (setB rfl (show 1 < 6 by decide)).trans (congrArg (fun z => (H ++ [VBlk.dead, VBlk.cells z true, _, _, _, _]) ++ _) (liK_st (by omega) (by omega)))) : vop T ρ.eval H op = some (.skip, H') := Z3 ho hv ha hy hx hn h1 hb hl hH
theorem W7p {T : TypeId → Option VTy} {H : Ze} {op : Op} {ρ : Operand → VVal} {t : TypeId} {a : Operand} {y : VTy} {p v : VVal} (ho : op = .load t a) (ha : ρ a = p) (hy : T t = some y) (hd : Zk y.desc = false) (h : LdOk H p v := by first | exact .inl ⟨_, _, rfl, XH39⟩ | exact .inr ⟨_, _, _, _, rfl, by exact ZI rfl rfl, XH39⟩) : vop T ρ H op = some (v, H) := Yv ho ha hy hd h
def liA (p : Pb) : List (BitVec 64) := if pck p = 0 then liF (wsP p) (ptP p) (List.replicate p.who.length 0#64) else []
theorem liA_no {p : Pb} (h : ¬ pck p = 0) : liA p = [] := if_neg h
theorem liA_in {p : Pb} (h : pck p = 0) : liA p = liF (wsP p) (ptP p) (List.replicate p.who.length 0#64) := if_pos h
theorem ZbD {p : Pb} (h : pck p = 0) : (liA p).length = p.who.length := by rw [liA_in h, liF_len (by rw [List.length_replicate, ZT]), ZT]
theorem liA_0 {p : Pb} (h : p.who.length = 0) : liA p = [] := by
 by_cases e : pck p = 0
 ·exact List.eq_nil_of_length_eq_zero ((ZbD e).trans h)
 exact liA_no e
def wsK (p : Pb) (k : Nat) : List (BitVec 64) := (List.range p.who.length).map fun i => if i < k then wrd p i else 0#64
theorem X9 {p : Pb} {k : Nat} : (wsK p k).length = p.who.length := by unfold wsK; simp
theorem wsK_0 {p : Pb} : wsK p 0 = List.replicate p.who.length 0#64 := by
 apply List.ext_getElem (by rw [X9, List.length_replicate])
 intro i h1 h2
 unfold wsK; simp
theorem wsK_all {p : Pb} : wsK p p.who.length = wsP p := by
 apply List.ext_getElem (by rw [X9, ZT])
 intro i h1 h2
 simp only [X9] at h1
 simp [wsK, wsP, h1]
theorem wsK_set {p : Pb} {k : Nat} (h : k < p.who.length) : Zx ((wsK p k).map iW) (0 + ((k : Nat) : Int).toNat * 1) [iW (wrd p k)] = (wsK p (k + 1)).map iW := by
 rw [Int.toNat_natCast, spl_W (by rw [X9]; exact h)]
 congr 1
 apply List.ext_getElem (by rw [List.length_set, X9, X9])
 intro i h1 h2
 have h3 : i < p.who.length := by rw [X9] at h2; exact h2
 rw [List.getElem_set]
 by_cases e : k = i
 ·subst e; simp [wsK]
 have e3 : i < k ↔ i < k + 1 := by omega
 simp [wsK, e, e3]
theorem liK_st {ws : List (BitVec 64)} {a : List Nat} {l : List (BitVec 64)} {b k : Nat} (hk : k < l.length) (h : a.getD k 0 = b) : Zx ((liK ws a l b k).map iW) (0 + ((k : Nat) : Int).toNat * 1) [iW ((liK ws a l b k).getD ((k : Nat) : Int).toNat 0 ||| frW (Z6 ws a a.length) b)] = (liK ws a l b (k + 1)).map iW := by
 rw [Int.toNat_natCast, spl_W (by rw [YE]; exact hk), liK_set hk h]
theorem fv_is {l : List (BitVec 64)} {b : Nat} (h1 : l.length ≤ 12) (h2 : b < l.length) : MM.freeV l ((b : Nat) : Int) = frW l b := by
 unfold MM.freeV; rw [if_pos ⟨h1, by omega, by omega⟩, Int.toNat_natCast]
theorem EqualW_spec {x : SW} (H : Ze) (b : Nat) (e : Bool) (l m : List (BitVec 64)) (hb : H[b]? = some (.cells (l.map iW) true)) (h1 : l.length ≤ 1000000) : F (psys x) 66 [.slice (some (b, 0)) l.length l.length e 1, fzW m] H fun v G => v = .bool (decide (l = m)) ∧ G = H := by
 refine Zp Tryd.func66 rfl u26 rfl ?_
 refine Zc (Za (Lk u26 (.bool false) ?_))
 refine Zd (Zb (Zc (Zc (Za (Lm u26 ?_)))))
 refine Lo u26 rfl ?_
 refine Lm u26 ?_
 refine Lo u26 rfl ?_
 refine Lo u26 rfl ?_
 refine Zd (Zb (Zi _ rfl (fun hc1 => ?_) (fun hc1 => ?_)))
 ·try simp only [qB, qN] at hc1
  refine Zc (Za (Lk u26 (.bool false) ?_))
  refine Zd (Zb (Zj (Zl (W10 (.inr rfl) (Zf rfl rfl) ?_))))
  exact ⟨by rw [decide_eq_false (fun e => by rw [e] at hc1; omega)], rfl⟩
 try simp only [qB, qN] at hc1
 refine Zh (Zb (Zc (Zc (Za (Lm u26 ?_)))))
 refine Lo u26 rfl ?_
 refine Lo u26 (Z4 (VVal.int .i64 0) (.inl rfl) rfl) ?_
 refine Zd (Zb (Zg (Zr (mk 26 67096572) (env' := u26) rfl ?_)))
 refine Zw (fun (k : Nat) => l.length - k) (fun (k : Nat) => [(13, iI (k : Nat))]) (fun (k : Nat) G => (k ≤ l.length ∧ ∀ j, j < k → l.getD j 0 = m.getD j 0) ∧ G = H ++ []) 0 rfl ?_ ?_
 ·refine ⟨?_, rfl⟩
  exact ⟨Nat.zero_le _, fun j h => by omega⟩
 rintro k _ ⟨⟨hk, hall⟩, rfl⟩
 refine ZL (env' := u26) rfl ?_
 refine Zc (Za (Lo u26 rfl ?_))
 refine Zd (Zb (Zc (Zi _ rfl (fun hc2 => ?_) (fun hc2 => ?_))))
 ·try simp only [qB, qN] at hc2
  refine Zh (Zb (Zc (Zg (Zc (Za (Lm u26 ?_))))))
  refine La u26 ?_
  refine Zd (Zb (Zc (ZK [0, 1, 2, 3, 4, 5, 6, 7, 8] #[0, 0, 3, 7, 0, 0, 48, 112, 255] XH3 XH3 XH3 ?_)))
  refine Om u26 ?_
  refine Om u26 ?_
  refine Oc u26 rfl (W18 rfl rfl rfl rfl rfl rfl rfl) ?_
  refine Ok u26 rfl (W7f rfl rfl rfl rfl) ?_
  refine Om u26 ?_
  refine Om u26 ?_
  refine Oc u26 rfl (W18 rfl rfl rfl rfl rfl rfl rfl) ?_
  refine Ok u26 rfl (W7f rfl rfl rfl rfl) ?_
  refine Oc u26 rfl rfl ?_
  refine ZW [] XH3 (trivial) ?_
  refine Zb (Zi _ rfl (fun hc3 => ?_) (fun hc3 => ?_))
  ·try simp only [qB, qN] at hc3
   refine Zc (Za (Lk u26 (.bool false) ?_))
   refine Zd (Zb (Zj (ZE (Zl (Ye (ZE (Zl (W10 (.inr rfl) (Zf rfl rfl) ?_))))))))
   exact ⟨by rw [decide_eq_false (fun e => by subst e; exact hc3 rfl)], rfl⟩
  try simp only [qB, qN] at hc3
  refine Zh (Zq (Zb (Za (Lo u26 (W14 rfl rfl rfl) ?_))))
  refine Lm u26 ?_
  refine Zd (Zt (mk 26 67096572) (env' := u26) rfl ⟨k + 1, ?_, rfl, ?_⟩)
  ·first | omega | (simp only []; omega)
  exact ⟨⟨by omega, fun j hj => by by_cases e : j = k; (subst e; assumption); exact hall j (by omega)⟩, rfl⟩
 try simp only [qB, qN] at hc2
 refine Zz (ZA (Zu (Zy (Zb (Zc (Za (Lk u26 (.bool true) ?_)))))))
 refine Zd (Zb (Zj (W10 (.inr rfl) (Zf rfl rfl) ?_)))
 have e := ZbF (d := 0) (by omega) (fun j hj => hall j (by omega))
 exact ⟨by rw [decide_eq_true e], rfl⟩
theorem EqualW_n {x : SW} (H : Ze) (b n n2 : Nat) (e : Bool) (l m : List (BitVec 64)) (hb : H[b]? = some (.cells (l.map iW) true)) (h1 : n ≤ 1000000) (hn : l.length = n) (hm : m.length = n2) : F (psys x) 66 [.slice (some (b, 0)) n n e 1, .fsl (m.map iW) n2 1 false] H fun v G => v = .bool (decide (l = m)) ∧ G = H := by
 subst hn; subst hm
 exact EqualW_spec H b e l m hb h1
def LvR (H : Ze) (l : List (BitVec 64)) (v : VVal) (G : Ze) : Prop := ∃ Y, G = H ++ Y ∧ ((l = [] ∧ v = .slice none 0 0 true 0) ∨ ∃ j, 0 < l.length ∧ v = .slice (some (H.length + j, 0)) l.length l.length true 1 ∧ Y[j]? = some (.cells (l.map iW) true))
theorem tLive_L {x : SW} (H : Ze) (p : Pb) (hp : PbL p) : F (psys x) 28 [.agg (pbB p)] H (LvR H (liA p)) := by
 refine Zp Tryd.func28 rfl u76 rfl ?_
 refine Zc (Za (Lo u76 (ZJ rfl rfl rfl) ?_))
 refine Lk u76 (.slice none 0 0 true 0) ?_
 refine Zd (Zb (Zc (Zc (Ym (Gh.freezePtrL (cs := pbB p) 1 0 rfl rfl rfl) ?_))))
 refine Za (Lo u76 (W7h rfl rfl rfl rfl rfl) ?_)
 refine Zs rfl rfl rfl (by exact Q3 _ p hp) ?_
 rintro _ _ ⟨rfl, rfl⟩
 refine Le u76 ?_
 refine Lo u76 rfl ?_
 refine Lm u76 ?_
 refine ZB 15 (env1 := u76) (env2 := u76) rfl rfl rfl (fun hg1 => ?_) (fun hg1 => ?_)
 ·try simp only [qB, qN] at hg1
  refine Lf u76 ?_
  refine Lf u76 ?_
  refine Lf u76 ?_
  refine Lf u76 ?_
  refine Lo u76 (ZF (VVal.bool true) rfl rfl rfl) ?_
  refine Zd (Zb (ZN rfl rfl ?_))
  refine Zc (Za (Lk u76 (.slice none 0 0 true 0) ?_))
  refine Zd (Zb (Zj (Zl (YQ (.inr rfl) (Zf rfl rfl) ?_))))
  exact W7i
 try simp only [qB, qN] at hg1
 refine Lo u76 rfl ?_
 refine Lo u76 (W7j rfl rfl rfl rfl) ?_
 refine Lo u76 rfl ?_
 refine Lo u76 rfl ?_
 refine Lo u76 (ZY rfl rfl rfl) ?_
 refine Zd (Zb (Zi _ rfl (fun hc2 => ?_) (fun hc2 => ?_)))
 ·try simp only [qB, qN] at hc2
  refine Zc (Za (Lk u76 (.slice none 0 0 true 0) ?_))
  refine Zd (Zb (Zj (Zl (YQ (.inr rfl) (Zf rfl rfl) ?_))))
  exact W7i
 try simp only [qB, qN] at hc2
 refine Zh (Zb (Zc ?_))
 have h0 : pck p = 0 := by first | assumption | simp_all
 have g := pck_good.1 h0
 have g1 := g.n12; have g5 := g.fx
 have hne : ¬ p.who.length = 0 := by first | (have h9 := hc2; simp at h9; omega) | omega | simp_all
 have hwl := ZT (p := p)
 refine ZK [0, 1, 2, 3, 4, 5, 6, 7, 8, 9, 10, 11] #[0, 1, 3, 7, 0, 16, 48, 112, 0, 0, 783, 2047] XH3 XH3 XH3 ?_
 refine Oc u76 rfl rfl ?_
 refine Ok u76 rfl (W7j rfl rfl rfl rfl) ?_
 refine Ok u76 rfl (rfl) ?_
 refine Oo u76 .grow rfl (Yz rfl rfl rfl rfl rfl (by decide) ⟨by omega, Int.le_refl _, by show (p.who.length : Int) * (8 : Nat) ≤ _; omega, by omega⟩) ?_
 refine Oc u76 rfl rfl ?_
 refine Yb (env' := u76) (x := .look _ _) rfl rfl rfl (W7j rfl rfl rfl rfl) rfl rfl rfl ?_
 refine Yb (env' := u76) (x := .look _ _) rfl rfl rfl (rfl) rfl rfl rfl ?_
 refine Yb (env' := u76) (x := .grow _) rfl rfl rfl (Yz rfl rfl rfl rfl rfl (by decide) ⟨by omega, Int.le_refl _, by show (p.who.length : Int) * (8 : Nat) ≤ _; omega, by omega⟩) rfl rfl rfl ?_
 refine Oo u76 .grow rfl (ZP rfl rfl) ?_
 refine Oo u76 .grow rfl (ZP rfl rfl) ?_
 refine Yb (env' := u76) (x := .turn _ _) rfl rfl rfl (W13 rfl rfl rfl rfl rfl rfl rfl) rfl rfl rfl ?_
 refine Oo u76 .turn rfl (W13 rfl rfl rfl rfl rfl rfl rfl) ?_
 refine Jz [(5, 10), (6, 10), (7, 10)] XH3 (And.intro ⟨_, _, _, _, ⟨(gA (gA (gA (gA (gA (gA (gL XH3))))))), (gA (gL XH3)), And.intro (W7j rfl rfl rfl rfl) (W7j rfl rfl rfl rfl)⟩⟩ (And.intro ⟨_, _, _, _, ⟨(gA (gA (gA (gA (gA (gL XH3)))))), (gA (gL XH3)), And.intro (rfl) (rfl)⟩⟩ (And.intro ⟨_, _, _, _, ⟨(gA (gA (gA (gA (gL XH3))))), (gA (gL XH3)), (by simp [V.fine])⟩⟩ (trivial)))) ?_
 refine Zb (Zc (Zc (YS (H' := H ++ [.dead, .cells ((List.replicate p.who.length 0#64).map iW) true, .cells ((wsK p 0).map iW) true, .cells [.slice (some (H.length + 1, 0)) p.who.length p.who.length true 1] true, .cells [.slice (some (H.length + 2, 0)) p.who.length p.who.length true 1] true]) (by rw [wsK_0, ← MM.rep_w]; rfl) ?_)))
 refine Za (Lo u76 (W7j rfl rfl rfl rfl) ?_)
 refine Lo u76 rfl ?_
 refine Lo u76 (Z4 (VVal.int .i64 0) (.inl rfl) rfl) ?_
 refine Zd (Zb (Zg (Zr (mk 76 75557863725911102193637) (env' := u76) rfl ?_)))
 refine Zw (fun (k : Nat) => p.who.length - k) (fun (k : Nat) => [(31, iI (k : Nat))]) (fun (k : Nat) G => (k ≤ p.who.length) ∧ G = H ++ [.dead, .cells ((List.replicate p.who.length 0#64).map iW) true, .cells ((wsK p k).map iW) true, .cells [.slice (some (H.length + 1, 0)) p.who.length p.who.length true 1] true, .cells [.slice (some (H.length + 2, 0)) p.who.length p.who.length true 1] true]) 0 rfl ?_ ?_
 ·refine ⟨?_, rfl⟩
  exact Nat.zero_le _
 rintro k _ ⟨hk, rfl⟩
 refine ZL (env' := u76) rfl ?_
 refine Zc (Za (Lo u76 rfl ?_))
 refine Zd (Zb (Zc (Zi _ rfl (fun hc3 => ?_) (fun hc3 => ?_))))
 ·try simp only [qB, qN] at hc3
  refine Zh (Zb (Zc (Zg (Zc (Za (Lm u76 ?_))))))
  refine La u76 ?_
  refine Zd (Zb (ZK [0, 1, 2, 3, 4, 5, 6] #[0, 0, 0, 0, 12, 31, 63] XH3 XH3 XH3 ?_))
  refine Yb (env' := u76) (x := .look _ _) rfl rfl rfl (W7j rfl rfl rfl rfl) rfl rfl rfl ?_
  refine Om u76 ?_
  refine Ok u76 rfl (W7h rfl rfl rfl rfl rfl) ?_
  refine Om u76 ?_
  refine Yd (env' := u76) rfl rfl rfl rfl rfl (by exact Zdl _ p k (by omega) (by omega)) XH8 rfl rfl ?_
  refine Oc u76 rfl (W7l rfl rfl rfl rfl rfl rfl rfl) ?_
  refine Oo u76 .turn rfl (W7m rfl rfl rfl rfl rfl rfl rfl) ?_
  refine Jz [(0, 4)] XH3 (And.intro ⟨_, _, _, _, ⟨(gA (gA (gA (gA (gA (gA (gL XH3))))))), (gA (gA (gL XH3))), And.intro (W7j rfl rfl rfl rfl) (W7j rfl rfl rfl rfl)⟩⟩ (trivial)) ?_
  refine Zq (Zb (Za (Lo u76 (W14 rfl rfl rfl) ?_)))
  refine Lm u76 ?_
  refine Zd (Zt (mk 76 75557863725911102193637) (env' := u76) rfl ⟨k + 1, ?_, rfl, ?_⟩)
  ·first | omega | (simp only []; omega)
  exact ⟨by omega, rfl⟩
 try simp only [qB, qN] at hc3
 refine Zz (ZA (Zu (Zy (Zb (Zc (Zc ?_))))))
 obtain rfl : k = p.who.length := by omega
 rw [wsK_all]
 refine Ym (Gh.cellL (l := (wsP p).map iW) 4 0 2 rfl rfl (by decide) rfl (Yn (by simp [hwl])) (Nat.le_refl _)) ?_
 refine Za (Lo u76 (W7h rfl rfl rfl rfl rfl) ?_)
 refine Zs rfl rfl rfl (by exact Qk _ p) ?_
 rintro _ _ ⟨rfl, rfl⟩
 refine Le u76 ?_
 refine Zd (Zb (Zg (Zr (mk 76 75557863721516276908007) (env' := u76) rfl ?_)))
 refine Jh (fvP p) 2 (fun _ => rfl) (ptP p) (fun l0 h => by cases h) rfl (fun l9 G9 K9 hI9 => XT l9 p hp G9 K9 hI9) (σ := {q : List (BitVec 64) // q.length = p.who.length}) (fun k s => H ++ [.dead, .cells ((s.1).map iW) true, .dead, .cells [.slice (some (H.length + 1, 0)) p.who.length p.who.length true 1] true, .cells [.fsl ((wsP p).map iW) p.who.length 1 false] true, k]) ⟨(List.replicate p.who.length 0#64), List.length_replicate ..⟩ (fun k => by rw [List.append_assoc]; rfl) (fun k s => by simp) (fun k s => by rw [show (H ++ _ : Ze).length = H.length + 5 by simp]; exact ZI rfl rfl) (fun k k1 s => by rw [show (H ++ _ : Ze).length = H.length + 5 by simp]; exact ZO rfl) (fun pre s => ∀ z, ptP p = pre ++ z → liF (wsP p) (ptP p) (List.replicate p.who.length 0#64) = liF (wsP p) z s.1) ?_ (fun j pre c s => (j = Code.exit 2 ∧ (liF (wsP p) (ptP p) (List.replicate p.who.length 0#64) = s.1))) rfl ?_ ?_ ?_
 ·exact fun z hz => by rw [hz]; rfl
 ·intro pre c post s hx hI Lp kr kb hkr hkb
  obtain ⟨s9, hs9⟩ := s
  try dsimp only at hI ⊢
  have hs9 : s9.length = p.who.length := hs9
  have hc9 : c ∈ ptP p := by rw [hx]; simp
  obtain ⟨h0, hpc, hcl, _, _⟩ := Qb hc9
  have hbl := @YB (wsP p) c c.length
  have hz := @YH c c.length
  have hI9 := hI _ hx
  refine ZL (env' := u76) rfl ?_
  refine Zc (Za (La u76 ?_))
  refine Zd (Zb (Za (La u76 ?_)))
  refine Zd (⟨rfl, ⟨s9, hs9⟩, rfl, ?_⟩)
  try dsimp only
  refine Zg (Zc (Zc (Za (Lm u76 ?_))))
  refine Lo u76 rfl ?_
  refine Lo u76 (Z4 (VVal.int .i64 0) (.inl rfl) rfl) ?_
  refine Zd (Zb (Zg (Zr (mk 76 75557863514808090885927) (env' := u76) rfl ?_)))
  refine Zw (fun (b : Nat) => szP c c.length - b) (fun (b : Nat) => [(47, iI (b : Nat))]) (fun (b : Nat) G => (b ≤ szP c c.length) ∧ G = (H ++ [.dead, .cells (((liK (wsP p) c s9 b 0)).map iW) true, .dead, .cells [.slice (some (H.length + 1, 0)) p.who.length p.who.length true 1] true, .cells [.fsl ((wsP p).map iW) p.who.length 1 false] true, kb]) ++ Lp) 0 rfl ?_ ?_
  ·refine ⟨?_, (by rw [liK_0])⟩
   exact Nat.zero_le _
  rintro b _ ⟨hb9, rfl⟩
  refine ZL (env' := u76) rfl ?_
  refine Zc (Za (Lo u76 rfl ?_))
  refine Zd (Zb (Zc (Zi _ rfl (fun hc4 => ?_) (fun hc4 => ?_))))
  ·try simp only [qB, qN] at hc4
   refine Zh (Zb (Zc (Zg (Zc (Za (Lm u76 ?_))))))
   refine La u76 ?_
   refine Zd (Zb (Zc (Za (Lm u76 ?_))))
   refine Lm u76 ?_
   refine Zs rfl rfl rfl (by exact MM.Free_spec _ (Z6 (wsP p) c c.length) ((b : Nat) : Int) (by omega)) ?_
   rintro _ _ ⟨rfl, rfl⟩; rw [fv_is (by omega) (by omega)]
   refine Le u76 ?_
   refine La u76 ?_
   refine Zd (Zb (Zc (Za (Lm u76 ?_))))
   refine Lo u76 rfl ?_
   refine Lo u76 (Z4 (VVal.int .i64 0) (.inl rfl) rfl) ?_
   refine Zd (Zb (Zg (Zr (mk 76 75557800464413307698215) (env' := u76) rfl ?_)))
   refine Zw (fun (k : Nat) => c.length - k) (fun (k : Nat) => [(55, iI (k : Nat))]) (fun (k : Nat) G => (k ≤ c.length) ∧ G = (H ++ [.dead, .cells (((liK (wsP p) c s9 b k)).map iW) true, .dead, .cells [.slice (some (H.length + 1, 0)) p.who.length p.who.length true 1] true, .cells [.fsl ((wsP p).map iW) p.who.length 1 false] true, kb]) ++ Lp) 0 rfl ?_ ?_
   ·refine ⟨?_, rfl⟩
    exact Nat.zero_le _
   rintro k _ ⟨hk9, rfl⟩
   refine ZL (env' := u76) rfl ?_
   refine Zc (Za (Lo u76 rfl ?_))
   refine Zd (Zb (Zc (Zi _ rfl (fun hc5 => ?_) (fun hc5 => ?_))))
   ·try simp only [qB, qN] at hc5
    refine Zh (Zb (Zc (Zg (Zc (Za (Lm u76 ?_))))))
    refine Lo u76 (W18 rfl rfl rfl rfl rfl rfl rfl) ?_
    refine Lo u76 (W7j rfl rfl rfl rfl) ?_
    refine La u76 ?_
    refine La u76 ?_
    refine Zd (Zb (Zc (Za (Lm u76 ?_))))
    refine Lm u76 ?_
    refine Lo u76 rfl ?_
    refine Zd (Zb (Zi _ rfl (fun hc6 => ?_) (fun hc6 => ?_)))
    ·try simp only [qB, qN] at hc6
     refine Za (Lo u76 (W7n rfl rfl rfl rfl) ?_)
     refine Lm u76 ?_
     refine Lo u76 (W7l rfl rfl rfl rfl rfl rfl rfl) ?_
     refine Lo u76 (W7n rfl rfl rfl rfl) ?_
     refine Lm u76 ?_
     refine Lo u76 (ZcG rfl rfl rfl) ?_
     refine Lo u76 (W7l rfl rfl rfl rfl rfl rfl rfl) ?_
     refine Lo u76 (W7o rfl rfl rfl rfl rfl rfl rfl) ?_
     refine Zd (Zq (Zb (Za (Lo u76 (W14 rfl rfl rfl) ?_))))
     refine Lm u76 ?_
     refine Zd (Zt (mk 76 75557800464413307698215) (env' := u76) rfl ⟨k + 1, ?_, rfl, ?_⟩)
     ·first | omega | (simp only []; omega)
     first | exact ⟨by omega, rfl⟩ | exact ⟨by omega, by rw [liK_same (by omega)]⟩
    try simp only [qB, qN] at hc6
    refine Zh (Zq (Zb (Za (Lo u76 (W14 rfl rfl rfl) ?_))))
    refine Lm u76 ?_
    refine Zd (Zt (mk 76 75557800464413307698215) (env' := u76) rfl ⟨k + 1, ?_, rfl, ?_⟩)
    ·first | omega | (simp only []; omega)
    first | exact ⟨by omega, rfl⟩ | exact ⟨by omega, by rw [liK_same (by omega)]⟩
   try simp only [qB, qN] at hc5
   refine Zz (ZA (Zu (Zy (Zq (Zb (Za (Lo u76 (W14 rfl rfl rfl) ?_)))))))
   refine Lm u76 ?_
   refine Zd ?_
   obtain rfl : k = c.length := by omega
   refine Zt (mk 76 75557863514808090885927) (env' := u76) rfl ⟨b + 1, ?_, rfl, ?_⟩
   ·first | omega | (simp only []; omega)
   exact ⟨by omega, by rw [liK_next (by omega)]⟩
  try simp only [qB, qN] at hc4
  refine Zz (ZA (Zu (Zy (Zb (Zc ?_)))))
  obtain rfl : b = szP c c.length := by omega
  refine Za (Lo u76 (W7n rfl rfl rfl rfl) ?_)
  refine Lo u76 (W7n rfl rfl rfl rfl) ?_
  refine Zs rfl rfl rfl (by exact EqualW_n _ (H.length + 1) _ _ true (liU (wsP p) c s9) (wsP p) (ZcR rfl rfl) (by omega) (by rw [ZaI]; exact hs9) hwl) ?_
  rintro _ _ ⟨rfl, rfl⟩
  refine Le u76 ?_
  refine Zd (Zb (Zi _ rfl (fun hc7 => ?_) (fun hc7 => ?_)))
  ·try simp only [qB, qN] at hc7
   refine Zz (K_blkO rfl ?_)
   refine ⟨⟨liU (wsP p) c s9, by rw [ZaI]; exact hs9⟩, [], (by simp [liU]), .inr ⟨Code.exit 2, rfl, ⟨rfl, ?_⟩⟩⟩
   exact hI9.trans ((liF_hit (by assumption)).trans (show wsP p = liU (wsP p) c s9 from (show liU (wsP p) c s9 = wsP p by assumption).symm))
  try simp only [qB, qN] at hc7
  refine Zh (Zq (⟨⟨liU (wsP p) c s9, by rw [ZaI]; exact hs9⟩, [], (by simp [liU]), .inl ⟨rfl, ?_⟩⟩))
  exact fun z hz9 => by rw [hx, List.append_assoc] at hz9; obtain rfl : post = z := (by simpa using hz9); exact hI9.trans (liF_on (by assumption))
 ·intro s k hk hI J9
  obtain ⟨s9, hs9⟩ := s
  try dsimp only at hI ⊢
  have hE : liF (wsP p) (ptP p) (List.replicate p.who.length 0#64) = s9 := (hI [] (List.append_nil _).symm)
  refine Zq (Zb (Zc ?_))
  have hsl : s9.length = p.who.length := by first | exact hs9 | assumption
  refine YS (List.append_assoc _ _ _) ?_
  refine Za (Lo u76 (W7p rfl rfl rfl rfl) ?_)
  refine La u76 ?_
  refine Zd (Zb (Zj (YQ (.inr rfl) (Zf rfl rfl) ?_)))
  exact W7i
 rintro j pre c post s k hk hx (⟨rfl, hE⟩) J9
 obtain ⟨s9, hs9⟩ := s
 try dsimp only
 refine J_exit (Zy (Zb (Zc ?_)))
 have hsl : s9.length = p.who.length := by first | exact hs9 | assumption
 refine YS (List.append_assoc _ _ _) ?_
 refine Za (Lo u76 (W7p rfl rfl rfl rfl) ?_)
 refine La u76 ?_
 refine Zd (Zb (Zj (YQ (.inr rfl) (Zf rfl rfl) ?_)))
 exact W7i
theorem tLive_spec {x : SW} (H : Ze) (p : Pb) (hp : PbL p) : F (psys x) 28 [.agg (pbB p)] H fun v G => v = fzW (liA p) ∧ G = H := by
 refine F.gh (tLive_L H p hp) ?_
 rintro v G ⟨Y, rfl, ⟨h, rfl⟩ | ⟨j, _, rfl, hj⟩⟩
 ·exact ⟨_, _, Gh.trans (Gh.freezeNil (vs' := [fzW []]) 0 (es' := 1) rfl rfl) (Gh.back (BaseOk.refl H) rfl), by rw [h], rfl⟩
 exact ⟨_, _, Gh.fsl (es := 1) (BaseOk.refl H) hj (l := (liA p).map iW) (Yn (by simp)) (Nat.le_refl _) (Yu _ _), rfl, rfl⟩
def pt : Pb := (2, [3#64, 3#64], [-1, -1], [], ())
theorem pt_L : PbL pt := ⟨by decide, by decide, by decide, by decide, fun r hr => by cases hr⟩
theorem pt_n : sumP pt = 4 := by decide +kernel
theorem pt_l : liA pt = [3#64, 3#64] := by decide +kernel
theorem twakes_spec {x : SW} (H : Ze) : F (psys x) 26 [] H fun v G => v = .bool true ∧ G = H := by
 refine Zp Tryd.func26 rfl u22 rfl ?_
 refine Zc (Za (Lk u22 (.bool false) ?_))
 refine Zd (Zb (Zc (Za (Lo u22 (Zv rfl rfl (by decide) rfl) ?_))))
 refine Lo u22 (Zv rfl rfl (by decide) rfl) ?_
 refine Lo u22 rfl ?_
 refine Lo u22 (ZP rfl rfl) ?_
 refine Lo u22 (W13 rfl rfl rfl rfl rfl rfl rfl) ?_
 refine Zd (Zb (Zc (Za (L_gh (Gh.cellL (l := [iW 3#64, iW 3#64]) 2 1 0 rfl rfl (by decide) rfl rfl (Nat.le_refl _)) ?_))))
 refine L_gh (Gh.cellL (l := [iI (-1), iI (-1)]) 2 2 1 rfl rfl (by decide) rfl rfl (Nat.le_refl _)) ?_
 refine L_gh (Gh.cellNilL 2 3 (es' := 3) rfl rfl) ?_
 refine Lo u22 (W11 rfl rfl rfl rfl rfl) ?_
 refine Zs rfl rfl rfl (by exact tLive_spec _ pt pt_L) ?_
 rintro v _ ⟨hv, rfl⟩; rw [pt_l] at hv; subst hv
 refine Le u22 ?_
 refine La u22 ?_
 refine Zd (Zb (Zc (Za (Lo u22 (W11 rfl rfl rfl rfl rfl) ?_))))
 refine Zs rfl rfl rfl (by exact Za6 _ pt pt_L 9#64) ?_
 rintro v _ ⟨hv, rfl⟩; obtain rfl : v = iW 4#64 := hv.trans (congrArg iW (by rw [pt_n]; decide))
 refine Le u22 ?_
 refine Lo u22 (QA true rfl rfl) ?_
 refine Lm u22 ?_
 refine Lm u22 ?_
 refine Lo u22 rfl ?_
 refine Lo u22 (QA true rfl rfl) ?_
 refine Lo u22 (ZM rfl rfl rfl) ?_
 refine Lm u22 ?_
 refine Lm u22 ?_
 refine Lo u22 (W18 rfl rfl rfl rfl rfl rfl rfl) ?_
 refine Lo u22 (W12 rfl rfl rfl rfl) ?_
 refine Lo u22 (QA true rfl rfl) ?_
 refine Lo u22 (ZM rfl rfl rfl) ?_
 refine La u22 ?_
 refine Zd (Zb (Zj (W10 (.inr rfl) (Zf rfl rfl) ?_)))
 exact ⟨rfl, rfl⟩
abbrev u37 {a0 a1 a2 a3 a4 a5 a6 a7 a8 a9 a10 a11 a12 a13 a14 a15 a16 a17 a18 a19 a20 a21 a22 a23 a24 a25 a26 a27 a28 a29 a30 a31 a32 a33 a34 a35 a36 : VVal} : VEnv := a0 :: a1 :: a2 :: a3 :: a4 :: a5 :: a6 :: a7 :: a8 :: a9 :: a10 :: a11 :: a12 :: a13 :: a14 :: a15 :: a16 :: a17 :: a18 :: a19 :: a20 :: a21 :: a22 :: a23 :: a24 :: a25 :: a26 :: a27 :: a28 :: a29 :: a30 :: a31 :: a32 :: a33 :: a34 :: a35 :: a36 :: []
theorem W7v {T : TypeId → Option VTy} {H : Ze} {op : Op} {ρ : Operand → VVal} {t : TypeId} {a : Operand} {y : VTy} {p v : VVal} (ho : op = .load t a) (ha : ρ a = p) (hy : T t = some y) (hd : Zk y.desc = false) (h : LdOk H p v := by first | exact .inl ⟨_, _, rfl, XH36⟩ | exact .inr ⟨_, _, _, _, rfl, by exact Zn hB, XH36⟩) : vop T ρ H op = some (v, H) := Yv ho ha hy hd h
theorem W7w {T : TypeId → Option VTy} {H : Ze} {op : Op} {ρ : VEnv} {H' : Ze} {t : TypeId} {a : Operand} {i : Nat} {v : VVal} {y : VTy} {b off : Nat} {cs new : List VVal} (ho : op = .store t a (.tmp i)) (hv : ρ[i]? = some v) (ha : ρ.eval a = .ptr (some (b, off))) (hy : T t = some y) (hx : v.cells = some new) (hn : new.length = y.size) (h1 : new.all VVal.one = true) (hb : H[b]? = some (.cells cs true) := by exact Zn ((QO dF).trans hB)) (hl : off + new.length ≤ cs.length := by exact Nat.le_of_ble_eq_true rfl) (hH : H.set b (.cells (Zx cs off new) true) = H' := by exact Yl (by rw [Xj]; exact ZG hB)) : vop T ρ.eval H op = some (.skip, H') := Z3 ho hv ha hy hx hn h1 hb hl hH
theorem W7x {T : TypeId → Option VTy} {H : Ze} {op : Op} {ρ : Operand → VVal} {t : TypeId} {a : Operand} {y : VTy} {p v : VVal} (ho : op = .load t a) (ha : ρ a = p) (hy : T t = some y) (hd : Zk y.desc = false) (h : LdOk H p v := by first | exact .inl ⟨_, _, rfl, XH36⟩ | exact .inr ⟨_, _, _, _, rfl, by exact Zn (kl_set hB dF), XH36⟩) : vop T ρ H op = some (v, H) := Yv ho ha hy hd h
theorem W7y {T : TypeId → Option VTy} {H : Ze} {op : Op} {ρ : VEnv} {H' : Ze} {t : TypeId} {a : Operand} {i : Nat} {v : VVal} {y : VTy} {b off : Nat} {cs new : List VVal} (ho : op = .store t a (.tmp i)) (hv : ρ[i]? = some v) (ha : ρ.eval a = .ptr (some (b, off))) (hy : T t = some y) (hx : v.cells = some new) (hn : new.length = y.size) (h1 : new.all VVal.one = true) (hb : H[b]? = some (.cells cs true) := by exact Zn ((QO dW).trans (kl_set hB dF))) (hl : off + new.length ≤ cs.length := by exact Nat.le_of_ble_eq_true rfl) (hH : H.set b (.cells (Zx cs off new) true) = H' := by exact Yl (by rw [Xj, List.length_set, Xj]; exact ZG hB)) : vop T ρ.eval H op = some (.skip, H') := Z3 ho hv ha hy hx hn h1 hb hl hH
theorem lo_one0 {l : List (Int)} : ((l.map iI) ++ mkI).all VVal.one = true := by
 rw [List.all_append, List.all_map]
 have : mkI.all VVal.one = true := rfl
 rw [this, Bool.and_true]
 exact List.all_eq_true.2 fun _ _ => rfl
theorem loInts_walk {x : SW} (H : Ze) (c : Nat) (a0 a1 a2 a3 : VVal) (csF csW : List VVal) (n : Nat) (l : List (Int)) (hB : H[c]? = some (.cells [a0, a1, a2, a3] true)) (lF : LV 0 1 H a0 csF n) (lW : LV 0 1 H a1 csW n) (dF : ZV a0 ≠ some c) (dW : ZV a1 ≠ some c) (dFW : ∀ b, ZV a0 = some b → ZV a1 ≠ some b) (h1 : [a0, a1, a2, a3].all VVal.one = true) (hl : l.length ≤ 1000000) (hn : n ≤ 1000000) : F (psys x) 38 [.ptr (some (c, 0)), fzI l] H fun v G => v = .slice (some (H.length + (loT (l.map iI) mkI).length - 1, 0)) l.length (l.length + mkI.length) false 1 ∧ G = lnG H (loT (l.map iI) mkI) c 0 n (l.length + mkI.length) [a0, a1, a2, a3] ((l.map iI) ++ mkI) a0 a1 csF csW := by
 refine Zp Tryd.func38 rfl u37 rfl ?_
 refine Zc (Za (Lk u37 (.slice none 0 0 true 0) ?_))
 refine Zd (Zb (Zc (Za (Lo u37 (Zv rfl rfl (by decide) rfl) ?_))))
 refine Lm u37 ?_
 refine Lo u37 (v_apE rfl rfl rfl rfl rfl rfl rfl rfl rfl (List.length_map _) (Zax _) (by show _ * 8 ≤ _ ∧ _; omega)) ?_
 refine Lo u37 (Zv rfl rfl (by decide) rfl) ?_
 refine Lo u37 (v_apM rfl rfl rfl rfl rfl rfl rfl rfl rfl rfl (List.length_map _) rfl (by decide) rfl (by show (_ + 4) * 8 ≤ _ ∧ _; omega)) ?_
 refine La u37 ?_
 refine Zd (Zb (Zc ?_))
 have hk0 : (loT (l.map iI) mkI).length = 3 ∨ (loT (l.map iI) mkI).length = 4 := by rw [loT_len]; split <;> simp
 have hlm : (l.map iI).length = l.length := List.length_map _
 refine Za (Lm u37 ?_)
 refine Lm u37 ?_
 refine Lo u37 rfl ?_
 refine Lo u37 rfl ?_
 refine Lo u37 (W7v rfl rfl rfl rfl) ?_
 refine Lm u37 ?_
 refine Lo u37 (Zv rfl rfl (by decide) rfl) ?_
 refine Lo u37 (Zcw rfl rfl rfl rfl rfl rfl rfl rfl (by simp) lF rfl rfl (by decide) (by show (_ + 1) * 24 ≤ _ ∧ _; omega) (by decide)) ?_
 refine Lo u37 rfl ?_
 refine Lo u37 rfl ?_
 refine Lo u37 (W7w rfl rfl rfl rfl rfl rfl rfl) ?_
 refine Zd (Zb (Zc ?_))
 have lW1 : LV 0 1 (lnH H (loT (l.map iI) mkI) c 0 n [a0, a1, a2, a3] a0) a1 csW n := lW.frame fun b hb => by rw [Nat.zero_add] at hb; show ((kl H a0).set c _)[b]? = _; rw [List.getElem?_set_ne (by rintro rfl; exact dW hb), QO (fun e => dFW _ e hb)]
 have hF9 : (loT (l.map iI) mkI)[(loT (l.map iI) mkI).length - 1]? = some (.cells ((l.map iI) ++ mkI) true) := Zay
 refine ZK [0, 1, 2, 3, 4, 5, 6, 7, 8, 9, 10, 11, 12] #[0, 0, 2, 6, 14, 0, 0, 96, 224, 510, 1023, 2047, 4095] XH3 XH3 XH3 ?_
 refine Om u37 ?_
 refine Om u37 ?_
 refine Oc u37 rfl rfl ?_
 refine Oc u37 rfl rfl ?_
 refine Yb (env' := u37) (x := .look _ _) rfl rfl rfl (W7x rfl rfl rfl rfl) rfl rfl rfl ?_
 refine Oo u37 .grow rfl (Zv rfl rfl (by decide) rfl) ?_
 refine Om u37 ?_
 refine Yb (env' := u37) (x := .turn _ _) rfl rfl rfl (v_apL rfl rfl rfl rfl rfl rfl rfl (ZI rfl Xw) rfl (full_at (by rw [List.length_set, Xj]) (show 0 < (loT (l.map iI) mkI).length by omega) hF9) (by rw [List.length_append, List.length_map]; rfl) (by show 0 < l.length + 4; omega) (lo_one0 (l := l)) (by show (_ + 4) * 8 ≤ _ ∧ _; omega)) rfl rfl rfl ?_
 refine Oo u37 .grow rfl (Zv rfl rfl (by decide) rfl) ?_
 refine Oo u37 .turn rfl (Zcw rfl rfl rfl rfl rfl rfl rfl rfl (by simp) lW1 rfl rfl (by decide) (by show (_ + 1) * 24 ≤ _ ∧ _; omega) (by decide)) ?_
 refine Oc u37 rfl rfl ?_
 refine Oc u37 rfl rfl ?_
 refine Oo u37 .turn rfl (W7y rfl rfl rfl rfl rfl rfl rfl) ?_
 refine ZW [_] (by rfl) (And.intro (And.intro (W7x rfl rfl rfl rfl) (W7x rfl rfl rfl rfl)) trivial) ?_
 refine Zb (Zc (Za (Lm u37 ?_)))
 refine Lm u37 ?_
 refine Lo u37 rfl ?_
 refine Lo u37 (v_cutL rfl rfl rfl rfl rfl rfl rfl (Nat.le_add_right _ _) (Nat.le_refl _) (Nat.lt_of_lt_of_le (by decide) (Nat.le_add_left _ _))) ?_
 refine La u37 ?_
 refine Zd (Zb (Zj (YQ (.inr rfl) (Zf rfl rfl) ?_)))
 exact ⟨rfl, rfl⟩
theorem lo_one2 {l : List (BitVec 64)} : ((l.map iW) ++ mkW).all VVal.one = true := by
 rw [List.all_append, List.all_map]
 have : mkW.all VVal.one = true := rfl
 rw [this, Bool.and_true]
 exact List.all_eq_true.2 fun _ _ => rfl
theorem loRows_walk {x : SW} (H : Ze) (c : Nat) (a0 a1 a2 a3 : VVal) (csF csW : List VVal) (n : Nat) (l : List (BitVec 64)) (hB : H[c]? = some (.cells [a0, a1, a2, a3] true)) (lF : LV 0 1 H a2 csF n) (lW : LV 0 1 H a3 csW n) (dF : ZV a2 ≠ some c) (dW : ZV a3 ≠ some c) (dFW : ∀ b, ZV a2 = some b → ZV a3 ≠ some b) (h1 : [a0, a1, a2, a3].all VVal.one = true) (hl : l.length ≤ 1000000) (hn : n ≤ 1000000) : F (psys x) 37 [.ptr (some (c, 0)), fzW l] H fun v G => v = .slice (some (H.length + (loT (l.map iW) mkW).length - 1, 0)) l.length (l.length + mkW.length) false 1 ∧ G = lnG H (loT (l.map iW) mkW) c 2 n (l.length + mkW.length) [a0, a1, a2, a3] ((l.map iW) ++ mkW) a2 a3 csF csW := by
 refine Zp Tryd.func37 rfl u37 rfl ?_
 refine Zc (Za (Lk u37 (.slice none 0 0 true 0) ?_))
 refine Zd (Zb (Zc (Za (Lo u37 (Zv rfl rfl (by decide) rfl) ?_))))
 refine Lm u37 ?_
 refine Lo u37 (v_apE rfl rfl rfl rfl rfl rfl rfl rfl rfl (List.length_map _) (Qw _) (by show _ * 8 ≤ _ ∧ _; omega)) ?_
 refine Lo u37 (Zv rfl rfl (by decide) rfl) ?_
 refine Lo u37 (v_apM rfl rfl rfl rfl rfl rfl rfl rfl rfl rfl (List.length_map _) rfl (by decide) rfl (by show (_ + 4) * 8 ≤ _ ∧ _; omega)) ?_
 refine La u37 ?_
 refine Zd (Zb (Zc ?_))
 have hk0 : (loT (l.map iW) mkW).length = 3 ∨ (loT (l.map iW) mkW).length = 4 := by rw [loT_len]; split <;> simp
 have hlm : (l.map iW).length = l.length := List.length_map _
 refine Za (Lm u37 ?_)
 refine Lm u37 ?_
 refine Lo u37 rfl ?_
 refine Lo u37 rfl ?_
 refine Lo u37 (W7v rfl rfl rfl rfl) ?_
 refine Lm u37 ?_
 refine Lo u37 (Zv rfl rfl (by decide) rfl) ?_
 refine Lo u37 (Zcw rfl rfl rfl rfl rfl rfl rfl rfl (by simp) lF rfl rfl (by decide) (by show (_ + 1) * 24 ≤ _ ∧ _; omega) (by decide)) ?_
 refine Lo u37 rfl ?_
 refine Lo u37 rfl ?_
 refine Lo u37 (W7w rfl rfl rfl rfl rfl rfl rfl) ?_
 refine Zd (Zb (Zc ?_))
 have lW1 : LV 0 1 (lnH H (loT (l.map iW) mkW) c 2 n [a0, a1, a2, a3] a2) a3 csW n := lW.frame fun b hb => by rw [Nat.zero_add] at hb; show ((kl H a2).set c _)[b]? = _; rw [List.getElem?_set_ne (by rintro rfl; exact dW hb), QO (fun e => dFW _ e hb)]
 have hF9 : (loT (l.map iW) mkW)[(loT (l.map iW) mkW).length - 1]? = some (.cells ((l.map iW) ++ mkW) true) := Zay
 refine ZK [0, 1, 2, 3, 4, 5, 6, 7, 8, 9, 10, 11, 12] #[0, 0, 2, 6, 14, 0, 0, 96, 224, 510, 1023, 2047, 4095] XH3 XH3 XH3 ?_
 refine Om u37 ?_
 refine Om u37 ?_
 refine Oc u37 rfl rfl ?_
 refine Oc u37 rfl rfl ?_
 refine Yb (env' := u37) (x := .look _ _) rfl rfl rfl (W7x rfl rfl rfl rfl) rfl rfl rfl ?_
 refine Oo u37 .grow rfl (Zv rfl rfl (by decide) rfl) ?_
 refine Om u37 ?_
 refine Yb (env' := u37) (x := .turn _ _) rfl rfl rfl (v_apL rfl rfl rfl rfl rfl rfl rfl (ZI rfl Xw) rfl (full_at (by rw [List.length_set, Xj]) (show 0 < (loT (l.map iW) mkW).length by omega) hF9) (by rw [List.length_append, List.length_map]; rfl) (by show 0 < l.length + 4; omega) (lo_one2 (l := l)) (by show (_ + 4) * 8 ≤ _ ∧ _; omega)) rfl rfl rfl ?_
 refine Oo u37 .grow rfl (Zv rfl rfl (by decide) rfl) ?_
 refine Oo u37 .turn rfl (Zcw rfl rfl rfl rfl rfl rfl rfl rfl (by simp) lW1 rfl rfl (by decide) (by show (_ + 1) * 24 ≤ _ ∧ _; omega) (by decide)) ?_
 refine Oc u37 rfl rfl ?_
 refine Oc u37 rfl rfl ?_
 refine Oo u37 .turn rfl (W7y rfl rfl rfl rfl rfl rfl rfl) ?_
 refine ZW [_] (by rfl) (And.intro (And.intro (W7x rfl rfl rfl rfl) (W7x rfl rfl rfl rfl)) trivial) ?_
 refine Zb (Zc (Za (Lm u37 ?_)))
 refine Lm u37 ?_
 refine Lo u37 rfl ?_
 refine Lo u37 (v_cutL rfl rfl rfl rfl rfl rfl rfl (Nat.le_add_right _ _) (Nat.le_refl _) (Nat.lt_of_lt_of_le (by decide) (Nat.le_add_left _ _))) ?_
 refine La u37 ?_
 refine Zd (Zb (Zj (YQ (.inr rfl) (Zf rfl rfl) ?_)))
 exact ⟨rfl, rfl⟩
abbrev ZQ {a0 a1 a2 a3 a4 a5 a6 a7 a8 a9 a10 a11 a12 a13 a14 a15 a16 a17 a18 a19 a20 a21 a22 a23 a24 a25 a26 a27 a28 a29 a30 a31 a32 a33 a34 a35 a36 a37 a38 a39 a40 a41 a42 a43 a44 a45 a46 a47 a48 a49 a50 a51 a52 a53 a54 a55 a56 a57 a58 a59 a60 a61 a62 a63 a64 a65 a66 a67 a68 a69 a70 a71 a72 a73 a74 a75 a76 a77 a78 a79 a80 a81 a82 a83 a84 a85 a86 a87 a88 a89 a90 a91 a92 a93 a94 a95 a96 a97 a98 a99 a100 a101 a102 a103 a104 : VVal} : VEnv := a0 :: a1 :: a2 :: a3 :: a4 :: a5 :: a6 :: a7 :: a8 :: a9 :: a10 :: a11 :: a12 :: a13 :: a14 :: a15 :: a16 :: a17 :: a18 :: a19 :: a20 :: a21 :: a22 :: a23 :: a24 :: a25 :: a26 :: a27 :: a28 :: a29 :: a30 :: a31 :: a32 :: a33 :: a34 :: a35 :: a36 :: a37 :: a38 :: a39 :: a40 :: a41 :: a42 :: a43 :: a44 :: a45 :: a46 :: a47 :: a48 :: a49 :: a50 :: a51 :: a52 :: a53 :: a54 :: a55 :: a56 :: a57 :: a58 :: a59 :: a60 :: a61 :: a62 :: a63 :: a64 :: a65 :: a66 :: a67 :: a68 :: a69 :: a70 :: a71 :: a72 :: a73 :: a74 :: a75 :: a76 :: a77 :: a78 :: a79 :: a80 :: a81 :: a82 :: a83 :: a84 :: a85 :: a86 :: a87 :: a88 :: a89 :: a90 :: a91 :: a92 :: a93 :: a94 :: a95 :: a96 :: a97 :: a98 :: a99 :: a100 :: a101 :: a102 :: a103 :: a104 :: []
theorem W80 {T : TypeId → Option VTy} {H : Ze} {op : Op} {ρ : Operand → VVal} {t : TypeId} {a : Operand} {y : VTy} {p v : VVal} (ho : op = .load t a) (ha : ρ a = p) (hy : T t = some y) (hd : Zk y.desc = false) (h : LdOk H p v := by first | exact .inl ⟨_, _, rfl, by first | rfl | exact fgetZ (α := Int) 0 (by omega)⟩ | exact .inr ⟨_, _, _, _, rfl, by first | exact hf | exact hw | exact Zn hf | exact Zn hw, by first | rfl | exact fgetZ (α := Int) 0 (by omega)⟩) : vop T ρ H op = some (v, H) := Yv ho ha hy hd h
theorem W83 {T : TypeId → Option VTy} {H : Ze} {op : Op} {ρ : Operand → VVal} {t : TypeId} {a : Operand} {y : VTy} {p v : VVal} (ho : op = .load t a) (ha : ρ a = p) (hy : T t = some y) (hd : Zk y.desc = false) (h : LdOk H p v := by first | exact .inl ⟨_, _, rfl, by first | rfl | exact fgetZ (α := BitVec 64) 0 (by omega)⟩ | exact .inr ⟨_, _, _, _, rfl, by first | exact hf | exact hw | exact Zn hf | exact Zn hw, by first | rfl | exact fgetZ (α := BitVec 64) 0 (by omega)⟩) : vop T ρ H op = some (v, H) := Yv ho ha hy hd h
theorem W85 {T : TypeId → Option VTy} {H : Ze} {op : Op} {ρ : Operand → VVal} {t : TypeId} {a : Operand} {y : VTy} {p v : VVal} (ho : op = .load t a) (ha : ρ a = p) (hy : T t = some y) (hd : Zk y.desc = false) (h : LdOk H p v := by first | exact .inl ⟨_, _, rfl, XH36⟩ | exact .inr ⟨_, _, _, _, rfl, by exact hB, XH36⟩) : vop T ρ H op = some (v, H) := Yv ho ha hy hd h
theorem W86 {T : TypeId → Option VTy} {H : Ze} {op : Op} {ρ : Operand → VVal} {t : TypeId} {a : Operand} {y : VTy} {p v : VVal} (ho : op = .load t a) (ha : ρ a = p) (hy : T t = some y) (hd : Zk y.desc = false) (h : LdOk H p v := by first | exact .inl ⟨_, _, rfl, by exact fv_at9 hi9⟩ | exact .inr ⟨_, _, _, _, rfl, by exact hF2, by exact fv_at9 hi9⟩) : vop T ρ H op = some (v, H) := Yv ho ha hy hd h
theorem W87 {T : TypeId → Option VTy} {H : Ze} {op : Op} {ρ : Operand → VVal} {t : TypeId} {a : Operand} {y : VTy} {p v : VVal} (ho : op = .load t a) (ha : ρ a = p) (hy : T t = some y) (hd : Zk y.desc = false) (h : LdOk H p v := by first | exact .inl ⟨_, _, rfl, by exact wv_at9 hi9⟩ | exact .inr ⟨_, _, _, _, rfl, by exact hW2, by exact wv_at9 hi9⟩) : vop T ρ H op = some (v, H) := Yv ho ha hy hd h
theorem W88 {T : TypeId → Option VTy} {H : Ze} {op : Op} {ρ : Operand → VVal} {t : TypeId} {a : Operand} {y : VTy} {p v : VVal} (ho : op = .load t a) (ha : ρ a = p) (hy : T t = some y) (hd : Zk y.desc = false) (h : LdOk H p v := by first | exact .inl ⟨_, _, rfl, by exact fv_at9 hi9⟩ | exact .inr ⟨_, _, _, _, rfl, by exact hF3, by exact fv_at9 hi9⟩) : vop T ρ H op = some (v, H) := Yv ho ha hy hd h
theorem kInts_L {x : SW} (H : Ze) (l : List (Int)) (f w : Nat) (cs : List VVal) (n : Nat) (hcs : cs = l.map iI) (hn : n = l.length) (hf : H[f]? = some (.cells cs true)) (hw : H[w]? = some (.cells cs true)) (h1 : l.length ≤ 2000000) : F (psys x) 23 [.slice (some (f, 0)) n n false 1, .slice (some (w, 0)) n n false 1] H fun v G => v = .bool true ∧ G = H := by
 subst hcs hn
 refine Zp Tryd.func23 rfl u26 rfl ?_
 refine Zc (Za (Lk u26 (.bool false) ?_))
 refine Zd (Zb (Zc (Zc (Za (Lm u26 ?_)))))
 refine Lo u26 rfl ?_
 refine Lm u26 ?_
 refine Lo u26 rfl ?_
 refine Lo u26 (QA false rfl (by simp)) ?_
 refine Zd (Zb (Yc rfl rfl ?_))
 refine Zh (Zb (Zc (Zc (Za (Lk u26 (.int .i64 0) ?_)))))
 refine Zd (Zb (Zg (Zr (mk 26 67108828) (env' := u26) rfl ?_)))
 refine Zw (fun (k : Nat) => l.length - k) (fun (k : Nat) => [(5, iI (k : Nat))]) (fun (k : Nat) G => (k ≤ l.length) ∧ G = H ++ []) 0 rfl ?_ ?_
 ·refine ⟨?_, rfl⟩
  exact Nat.zero_le _
 rintro k _ ⟨hk, rfl⟩
 refine ZL (env' := u26) rfl ?_
 refine Zc (Zc (Za (Lm u26 ?_)))
 refine Lm u26 ?_
 refine Lo u26 rfl ?_
 refine Lo u26 rfl ?_
 refine Zd (Zb (Zi _ rfl (fun hc1 => ?_) (fun hc1 => ?_)))
 ·try simp only [qB, qN] at hc1
  refine Zh (Zb (Zc (Zg (Zc (ZK [0, 1, 2, 3, 4, 5, 6, 7, 8] #[0, 0, 3, 7, 0, 0, 48, 112, 255] XH3 XH3 XH3 ?_)))))
  refine Om u26 ?_
  refine Om u26 ?_
  refine Oc u26 rfl (W18 rfl rfl rfl rfl rfl rfl rfl) ?_
  refine Ok u26 rfl (W80 rfl rfl rfl rfl) ?_
  refine Om u26 ?_
  refine Om u26 ?_
  refine Oc u26 rfl (W18 rfl rfl rfl rfl rfl rfl rfl) ?_
  refine Ok u26 rfl (W80 rfl rfl rfl rfl) ?_
  refine Oc u26 rfl (QA false rfl (by simp)) ?_
  refine ZW [] XH3 (trivial) ?_
  refine Zb (Yc rfl rfl ?_)
  refine Zh (Zq (Zb (Za (Lm u26 ?_))))
  refine Lo u26 (W14 rfl rfl rfl) ?_
  refine La u26 ?_
  refine Zd (Zt (mk 26 67108828) (env' := u26) rfl ⟨k + 1, ?_, rfl, ?_⟩)
  ·first | omega | (simp only []; omega)
  exact ⟨by omega, rfl⟩
 try simp only [qB, qN] at hc1
 refine Zz (ZA (Zu (Zy (Zb (Zc (Za (Lk u26 (.bool true) ?_)))))))
 refine Zd (Zb (Zj (W10 (.inr rfl) (Zf rfl rfl) ?_)))
 exact ⟨rfl, rfl⟩
theorem kRows_L {x : SW} (H : Ze) (l : List (BitVec 64)) (f w : Nat) (cs : List VVal) (n : Nat) (hcs : cs = l.map iW) (hn : n = l.length) (hf : H[f]? = some (.cells cs true)) (hw : H[w]? = some (.cells cs true)) (h1 : l.length ≤ 2000000) : F (psys x) 27 [.slice (some (f, 0)) n n false 1, .slice (some (w, 0)) n n false 1] H fun v G => v = .bool true ∧ G = H := by
 subst hcs hn
 refine Zp Tryd.func27 rfl u26 rfl ?_
 refine Zc (Za (Lk u26 (.bool false) ?_))
 refine Zd (Zb (Zc (Zc (Za (Lm u26 ?_)))))
 refine Lo u26 rfl ?_
 refine Lm u26 ?_
 refine Lo u26 rfl ?_
 refine Lo u26 (QA false rfl (by simp)) ?_
 refine Zd (Zb (Yc rfl rfl ?_))
 refine Zh (Zb (Zc (Zc (Za (Lk u26 (.int .i64 0) ?_)))))
 refine Zd (Zb (Zg (Zr (mk 26 67108828) (env' := u26) rfl ?_)))
 refine Zw (fun (k : Nat) => l.length - k) (fun (k : Nat) => [(5, iI (k : Nat))]) (fun (k : Nat) G => (k ≤ l.length) ∧ G = H ++ []) 0 rfl ?_ ?_
 ·refine ⟨?_, rfl⟩
  exact Nat.zero_le _
 rintro k _ ⟨hk, rfl⟩
 refine ZL (env' := u26) rfl ?_
 refine Zc (Zc (Za (Lm u26 ?_)))
 refine Lm u26 ?_
 refine Lo u26 rfl ?_
 refine Lo u26 rfl ?_
 refine Zd (Zb (Zi _ rfl (fun hc1 => ?_) (fun hc1 => ?_)))
 ·try simp only [qB, qN] at hc1
  refine Zh (Zb (Zc (Zg (Zc (ZK [0, 1, 2, 3, 4, 5, 6, 7, 8] #[0, 0, 3, 7, 0, 0, 48, 112, 255] XH3 XH3 XH3 ?_)))))
  refine Om u26 ?_
  refine Om u26 ?_
  refine Oc u26 rfl (W18 rfl rfl rfl rfl rfl rfl rfl) ?_
  refine Ok u26 rfl (W83 rfl rfl rfl rfl) ?_
  refine Om u26 ?_
  refine Om u26 ?_
  refine Oc u26 rfl (W18 rfl rfl rfl rfl rfl rfl rfl) ?_
  refine Ok u26 rfl (W83 rfl rfl rfl rfl) ?_
  refine Oc u26 rfl (QA false rfl (by simp)) ?_
  refine ZW [] XH3 (trivial) ?_
  refine Zb (Yc rfl rfl ?_)
  refine Zh (Zq (Zb (Za (Lm u26 ?_))))
  refine Lo u26 (W14 rfl rfl rfl) ?_
  refine La u26 ?_
  refine Zd (Zt (mk 26 67108828) (env' := u26) rfl ⟨k + 1, ?_, rfl, ?_⟩)
  ·first | omega | (simp only []; omega)
  exact ⟨by omega, rfl⟩
 try simp only [qB, qN] at hc1
 refine Zz (ZA (Zu (Zy (Zb (Zc (Za (Lk u26 (.bool true) ?_)))))))
 refine Zd (Zb (Zj (W10 (.inr rfl) (Zf rfl rfl) ?_)))
 exact ⟨rfl, rfl⟩
theorem loBack_walk {x : SW} (H : Ze) (c base : Nat) (a0 a1 a2 a3 : VVal) (es rs : List LE) (xs : List Nat) (h : LoanO H c base a0 a1 a2 a3 es rs xs) (hei : ∀ e, e ∈ es → ∃ L : List Int, e.cs = L.map iI ∧ L.length ≤ 2000000) (her : ∀ e, e ∈ rs → ∃ L : List (BitVec 64), e.cs = L.map iW ∧ L.length ≤ 2000000) (hne : es.length ≤ 1000) (hnr : rs.length ≤ 1000) : F (psys x) 41 [.ptr (some (c, 0))] H fun v G => v = .bool true ∧ Wr H G (es.map LE.f ++ rs.map LE.f) := by
 refine Zp Tryd.func41 rfl ZQ rfl ?_
 refine Zc (Za (Lk ZQ (.bool false) ?_))
 refine Zd (Zb (Zc (Za (Lk ZQ (.bool true) ?_))))
 refine Zd (Zb (Zc (Zc (Za (Lk ZQ (.int .i64 0) ?_)))))
 refine Zd (Zb (Zg (Zr (mk 105 40564819207303340847894502572006) (env' := ZQ) rfl ?_)))
 refine Zw (fun (i : Nat) => es.length - i) (fun (i : Nat) => [(3, .bool true), (4, iI (i : Nat))]) (fun (i : Nat) G => (i ≤ es.length) ∧ Wr H G (fsI es i)) 0 rfl ?_ ?_
 ·refine ⟨?_, (by rw [List.append_nil]; exact Wr.refl _ _)⟩
  exact Nat.zero_le _
 rintro i _ ⟨hi, hw9⟩
 refine ZL (env' := ZQ) rfl ?_
 refine Zc (Zc ?_)
 obtain ⟨hB, lF, lW, lR, lS, hwv, hfv⟩ := h.rest hw9 fsI_in
 refine Za (Lm ZQ ?_)
 refine Lm ZQ ?_
 refine Lo ZQ rfl ?_
 refine Lo ZQ rfl ?_
 refine Lo ZQ (W12 rfl rfl rfl rfl) ?_
 refine Lo ZQ (v_len rfl rfl rfl rfl lF) ?_
 refine Lo ZQ rfl ?_
 refine Zd (Zb (Zi _ rfl (fun hc1 => ?_) (fun hc1 => ?_)))
 ·try simp only [qB, qN] at hc1
  refine Zh (Zb (Zc (Zg (Zc ?_))))
  have hi9 : i < es.length := by omega
  obtain ⟨bF, hF1, hF2⟩ := LV0.pos lF (by omega)
  obtain ⟨bW, hW1, hW2⟩ := LV0.pos lW (by omega)
  subst hF1 hW1
  have he9 := getD_in hi9
  have hm9 : es.getD i e0 ∈ es ++ rs := List.mem_append_left _ he9
  have hfe := hfv _ hm9 (h.newI hi9)
  have hwe := hwv _ hm9
  obtain ⟨L9, hL9, hL8⟩ := hei _ he9
  have hN9 : (es.getD i e0).cs.length = L9.length := by rw [hL9, List.length_map]
  refine ZK [0, 1, 2, 3, 4, 5, 6, 7, 8, 9, 10, 11, 12, 13, 14, 15, 16, 17, 18] #[0, 1, 3, 7, 15, 31, 3, 127, 255, 3, 515, 1539, 3587, 3, 15875, 32259, 65535, 131071, 262143] XH3 XH3 XH3 ?_
  refine Om ZQ ?_
  refine Om ZQ ?_
  refine Om ZQ ?_
  refine Oc ZQ rfl rfl ?_
  refine Oc ZQ rfl rfl ?_
  refine Ok ZQ rfl (W85 rfl rfl rfl rfl) ?_
  refine Om ZQ ?_
  refine Oc ZQ rfl (W18 rfl rfl rfl rfl rfl rfl rfl) ?_
  refine Ok ZQ rfl (W86 rfl rfl rfl rfl) ?_
  refine Om ZQ ?_
  refine Oc ZQ rfl rfl ?_
  refine Oc ZQ rfl rfl ?_
  refine Ok ZQ rfl (W12 rfl rfl rfl rfl) ?_
  refine Om ZQ ?_
  refine Oc ZQ rfl (W18 rfl rfl rfl rfl rfl rfl rfl) ?_
  refine Ok ZQ rfl (W87 rfl rfl rfl rfl) ?_
  refine Yd (env' := ZQ) rfl rfl rfl rfl rfl (by exact kInts_L _ L9 _ _ _ _ hL9 hN9 hfe hwe hL8) XH8 rfl rfl ?_
  refine Oc ZQ rfl (ZM rfl rfl rfl) ?_
  refine Oc ZQ rfl (Yo (.inr rfl) rfl) ?_
  refine ZW [] XH3 (trivial) ?_
  refine Zb (Zc (Za (Lk ZQ (.int .i64 0) ?_)))
  refine Zd (Zb (Zg (Zr (mk 105 40564819207303340847894502571974) (env' := ZQ) rfl ?_)))
  refine Zw (fun (k : Nat) => (es.getD i e0).cs.length - k) (fun (k : Nat) => [(5, iI (k : Nat))]) (fun (k : Nat) G => (k ≤ (es.getD i e0).cs.length) ∧ Wr H G (fsI es (i + 1)) ∧ ∃ cs8, G[(es.getD i e0).f]? = some (.cells cs8 true) ∧ cs8.length = (es.getD i e0).cs.length) 0 rfl ?_ ?_
  ·refine ⟨?_, ⟨hw9.mono (fsI_s hi9).1, _, hfe, rfl⟩⟩
   exact Nat.zero_le _
  rintro k _ ⟨hk, ⟨hw8, cs8, hk8, hl8⟩⟩
  refine ZL (env' := ZQ) rfl ?_
  refine Zc (Zc ?_)
  obtain ⟨hB, lF, lW, lR, lS, hwv, hfv⟩ := h.rest hw8 fsI_in
  obtain ⟨b7, hb7, hF3⟩ := LV0.pos lF (by omega)
  cases hb7
  refine Za (Lm ZQ ?_)
  refine Lm ZQ ?_
  refine Lo ZQ rfl ?_
  refine Lo ZQ rfl ?_
  refine Lo ZQ (W85 rfl rfl rfl rfl) ?_
  refine Lm ZQ ?_
  refine Lo ZQ (W18 rfl rfl rfl rfl rfl rfl rfl) ?_
  refine Lo ZQ (W88 rfl rfl rfl rfl) ?_
  refine Lo ZQ rfl ?_
  refine Lo ZQ rfl ?_
  refine Zd (Zb (Zi _ rfl (fun hc2 => ?_) (fun hc2 => ?_)))
  ·try simp only [qB, qN] at hc2
   refine Zh (Zb (Zc (Zg (Za (Lm ZQ ?_)))))
   refine Lo ZQ rfl ?_
   refine Lo ZQ rfl ?_
   refine Lo ZQ (W85 rfl rfl rfl rfl) ?_
   refine Lm ZQ ?_
   refine Lo ZQ (W18 rfl rfl rfl rfl rfl rfl rfl) ?_
   refine Lo ZQ (W88 rfl rfl rfl rfl) ?_
   refine Lm ZQ ?_
   refine Lo ZQ (W18 rfl rfl rfl rfl rfl rfl rfl) ?_
   refine Lo ZQ (Ya (VVal.int .i64 (-99)) rfl rfl rfl rfl rfl rfl rfl (by exact hk8) (by show 0 + k * 1 + 1 ≤ cs8.length; omega) (by rfl)) ?_
   refine Zd (Zq (Zb (Za (Lm ZQ ?_))))
   refine Lo ZQ (W14 rfl rfl rfl) ?_
   refine La ZQ ?_
   refine Zd (Zt (mk 105 40564819207303340847894502571974) (env' := ZQ) rfl ⟨k + 1, ?_, rfl, ?_⟩)
   ·first | omega | (simp only []; omega)
   exact ⟨by omega, hw8.set (fun _ q => q) (fsI_s hi9).2, _, List.getElem?_set_self (ZG hk8), (Q2 (k := k) (show k < cs8.length by omega)).trans hl8⟩
  try simp only [qB, qN] at hc2
  refine Zz (ZA (Zu (Zy (Zq (Zb (Za (Lm ZQ ?_)))))))
  refine Lo ZQ (W14 rfl rfl rfl) ?_
  refine La ZQ ?_
  refine Zd (Zt (mk 105 40564819207303340847894502572006) (env' := ZQ) rfl ⟨i + 1, ?_, rfl, ?_⟩)
  ·first | omega | (simp only []; omega)
  exact ⟨by omega, hw8⟩
 try simp only [qB, qN] at hc1
 refine Zz (ZA (Zu (Zy (Zb (Zc (Zc (Za (Lk ZQ (.int .i64 0) ?_))))))))
 refine Zd (Zb (Zg (Zr (mk 105 40564819207303340847894502571958) (env' := ZQ) rfl ?_)))
 refine Zw (fun (i : Nat) => rs.length - i) (fun (i : Nat) => [(3, .bool true), (6, iI (i : Nat))]) (fun (i : Nat) G => (i ≤ rs.length) ∧ Wr H G (fsR es rs i)) 0 rfl ?_ ?_
 ·refine ⟨?_, (by rw [← fsI_all (es := es) (rs := rs) (i := i) (by omega)]; exact hw9)⟩
  exact Nat.zero_le _
 rintro i _ ⟨hi, hw9⟩
 refine ZL (env' := ZQ) rfl ?_
 refine Zc (Zc ?_)
 obtain ⟨hB, lF, lW, lR, lS, hwv, hfv⟩ := h.rest hw9 fsR_in
 refine Za (Lm ZQ ?_)
 refine Lm ZQ ?_
 refine Lo ZQ rfl ?_
 refine Lo ZQ rfl ?_
 refine Lo ZQ (W12 rfl rfl rfl rfl) ?_
 refine Lo ZQ (v_len rfl rfl rfl rfl lR) ?_
 refine Lo ZQ rfl ?_
 refine Zd (Zb (Zi _ rfl (fun hc3 => ?_) (fun hc3 => ?_)))
 ·try simp only [qB, qN] at hc3
  refine Zh (Zb (Zc (Zg (Zc ?_))))
  have hi9 : i < rs.length := by omega
  obtain ⟨bF, hF1, hF2⟩ := LV0.pos lR (by omega)
  obtain ⟨bW, hW1, hW2⟩ := LV0.pos lS (by omega)
  subst hF1 hW1
  have he9 := getD_in hi9
  have hm9 : rs.getD i e0 ∈ es ++ rs := List.mem_append_right _ he9
  have hfe := hfv _ hm9 (h.newR hi9)
  have hwe := hwv _ hm9
  obtain ⟨L9, hL9, hL8⟩ := her _ he9
  have hN9 : (rs.getD i e0).cs.length = L9.length := by rw [hL9, List.length_map]
  refine ZK [0, 1, 2, 3, 4, 5, 6, 7, 8, 9, 10, 11, 12, 13, 14, 15, 16, 17, 18] #[0, 1, 3, 7, 15, 31, 3, 127, 255, 3, 515, 1539, 3587, 3, 15875, 32259, 65535, 131071, 262143] XH3 XH3 XH3 ?_
  refine Om ZQ ?_
  refine Om ZQ ?_
  refine Om ZQ ?_
  refine Oc ZQ rfl rfl ?_
  refine Oc ZQ rfl rfl ?_
  refine Ok ZQ rfl (W85 rfl rfl rfl rfl) ?_
  refine Om ZQ ?_
  refine Oc ZQ rfl (W18 rfl rfl rfl rfl rfl rfl rfl) ?_
  refine Ok ZQ rfl (W86 rfl rfl rfl rfl) ?_
  refine Om ZQ ?_
  refine Oc ZQ rfl rfl ?_
  refine Oc ZQ rfl rfl ?_
  refine Ok ZQ rfl (W12 rfl rfl rfl rfl) ?_
  refine Om ZQ ?_
  refine Oc ZQ rfl (W18 rfl rfl rfl rfl rfl rfl rfl) ?_
  refine Ok ZQ rfl (W87 rfl rfl rfl rfl) ?_
  refine Yd (env' := ZQ) rfl rfl rfl rfl rfl (by exact kRows_L _ L9 _ _ _ _ hL9 hN9 hfe hwe hL8) XH8 rfl rfl ?_
  refine Oc ZQ rfl (ZM rfl rfl rfl) ?_
  refine Oc ZQ rfl (Yo (.inr rfl) rfl) ?_
  refine ZW [] XH3 (trivial) ?_
  refine Zb (Zc (Za (Lk ZQ (.int .i64 0) ?_)))
  refine Zd (Zb (Zg (Zr (mk 105 40564819207303340847894502571830) (env' := ZQ) rfl ?_)))
  refine Zw (fun (k : Nat) => (rs.getD i e0).cs.length - k) (fun (k : Nat) => [(7, iI (k : Nat))]) (fun (k : Nat) G => (k ≤ (rs.getD i e0).cs.length) ∧ Wr H G (fsR es rs (i + 1)) ∧ ∃ cs8, G[(rs.getD i e0).f]? = some (.cells cs8 true) ∧ cs8.length = (rs.getD i e0).cs.length) 0 rfl ?_ ?_
  ·refine ⟨?_, ⟨hw9.mono (fsR_s hi9).1, _, hfe, rfl⟩⟩
   exact Nat.zero_le _
  rintro k _ ⟨hk, ⟨hw8, cs8, hk8, hl8⟩⟩
  refine ZL (env' := ZQ) rfl ?_
  refine Zc (Zc ?_)
  obtain ⟨hB, lF, lW, lR, lS, hwv, hfv⟩ := h.rest hw8 fsR_in
  obtain ⟨b7, hb7, hF3⟩ := LV0.pos lR (by omega)
  cases hb7
  refine Za (Lm ZQ ?_)
  refine Lm ZQ ?_
  refine Lo ZQ rfl ?_
  refine Lo ZQ rfl ?_
  refine Lo ZQ (W85 rfl rfl rfl rfl) ?_
  refine Lm ZQ ?_
  refine Lo ZQ (W18 rfl rfl rfl rfl rfl rfl rfl) ?_
  refine Lo ZQ (W88 rfl rfl rfl rfl) ?_
  refine Lo ZQ rfl ?_
  refine Lo ZQ rfl ?_
  refine Zd (Zb (Zi _ rfl (fun hc4 => ?_) (fun hc4 => ?_)))
  ·try simp only [qB, qN] at hc4
   refine Zh (Zb (Zc (Zg (Za (Lm ZQ ?_)))))
   refine Lo ZQ rfl ?_
   refine Lo ZQ rfl ?_
   refine Lo ZQ (W85 rfl rfl rfl rfl) ?_
   refine Lm ZQ ?_
   refine Lo ZQ (W18 rfl rfl rfl rfl rfl rfl rfl) ?_
   refine Lo ZQ (W88 rfl rfl rfl rfl) ?_
   refine Lm ZQ ?_
   refine Lo ZQ (W18 rfl rfl rfl rfl rfl rfl rfl) ?_
   refine Lo ZQ (Ya (VVal.int .u64 99) rfl rfl rfl rfl rfl rfl rfl (by exact hk8) (by show 0 + k * 1 + 1 ≤ cs8.length; omega) (by rfl)) ?_
   refine Zd (Zq (Zb (Za (Lm ZQ ?_))))
   refine Lo ZQ (W14 rfl rfl rfl) ?_
   refine La ZQ ?_
   refine Zd (Zt (mk 105 40564819207303340847894502571830) (env' := ZQ) rfl ⟨k + 1, ?_, rfl, ?_⟩)
   ·first | omega | (simp only []; omega)
   exact ⟨by omega, hw8.set (fun _ q => q) (fsR_s hi9).2, _, List.getElem?_set_self (ZG hk8), (Q2 (k := k) (show k < cs8.length by omega)).trans hl8⟩
  try simp only [qB, qN] at hc4
  refine Zz (ZA (Zu (Zy (Zq (Zb (Za (Lm ZQ ?_)))))))
  refine Lo ZQ (W14 rfl rfl rfl) ?_
  refine La ZQ ?_
  refine Zd (Zt (mk 105 40564819207303340847894502571958) (env' := ZQ) rfl ⟨i + 1, ?_, rfl, ?_⟩)
  ·first | omega | (simp only []; omega)
  exact ⟨by omega, hw8⟩
 try simp only [qB, qN] at hc3
 refine Zz (ZA (Zu (Zy (Zb (Zc (Za (Lm ZQ ?_)))))))
 refine La ZQ ?_
 refine Zd (Zb (Zj (YQ (.inr rfl) (Zf rfl rfl) ?_)))
 exact ⟨rfl, by rw [← fsR_all (es := es) (rs := rs) (i := i) (by omega)]; exact hw9⟩
section
variable {x : SW} {G : Ze} {c base : Nat} {a0 a1 a2 a3 : VVal} {es rs : List LE} {xs : List Nat}
theorem LoanInts (h : LoanO G c base a0 a1 a2 a3 es rs xs) (hz : Nz G) (l : List Int) (hl : l.length ≤ 1000000) (hn : es.length ≤ 1000000) : ∃ G9 b0 b1 e, (F (psys x) 38 [.ptr (some (c, 0)), fzI l] G fun v' G' => v' = .slice (some (e.f, 0)) l.length (l.length + 4) false 1 ∧ G' = G9) ∧ LoanO G9 c base b0 b1 a2 a3 (es ++ [e]) rs xs ∧ e.cs = l.map iI ++ mkI ∧ G.length ≤ G9.length ∧ Nz G9 ∧
  (∀ b, b < G.length → b ≠ c → ZV a0 ≠ some b → ZV a1 ≠ some b → G9[b]? = G[b]?) := by
 obtain ⟨c0, c1, c2, c3⟩ := h.nc
 obtain ⟨hnd, _⟩ := h.nlist
 obtain ⟨d0, d1, d2⟩ := fm_ne hnd
 refine ⟨_, _, _, leN G (l.map iI) mkI, loInts_walk G c a0 a1 a2 a3 _ _ es.length l h.blk h.lf h.lw c0 c1 (fun b hb => (d0 b hb).1) (four_one h.lf.one h.lw.one h.lr.one h.ls.one) hl hn, h.addI (by rw [List.length_map]) (by decide) lo_one0 iI_nofz, rfl, by rw [JB]; omega, ?_, fun b h1 h2 h3 h4 => Xv h1 h2 h3 h4⟩
 exact lnG_Nz hz (Zdf h.lf.nofz h.lw.nofz h.lr.nofz h.ls.nofz) (loT_nofz (VVal.nofzL_map fun _ => rfl) rfl) fv_nofz wv_nofz iI_nofz
theorem LoanRows (h : LoanO G c base a0 a1 a2 a3 es rs xs) (hz : Nz G) (l : List (BitVec 64)) (hl : l.length ≤ 1000000) (hn : rs.length ≤ 1000000) : ∃ G9 b0 b1 e, (F (psys x) 37 [.ptr (some (c, 0)), fzW l] G fun v' G' => v' = .slice (some (e.f, 0)) l.length (l.length + 4) false 1 ∧ G' = G9) ∧ LoanO G9 c base a0 a1 b0 b1 es (rs ++ [e]) xs ∧ e.cs = l.map iW ++ mkW ∧ G.length ≤ G9.length ∧ Nz G9 ∧
  (∀ b, b < G.length → b ≠ c → ZV a2 ≠ some b → ZV a3 ≠ some b → G9[b]? = G[b]?) := by
 obtain ⟨c0, c1, c2, c3⟩ := h.nc
 obtain ⟨hnd, _⟩ := h.nlist
 obtain ⟨d0, d1, d2⟩ := fm_ne hnd
 refine ⟨_, _, _, leN G (l.map iW) mkW, loRows_walk G c a0 a1 a2 a3 _ _ rs.length l h.blk h.lr h.ls c2 c3 (fun b hb => d2 b hb) (four_one h.lf.one h.lw.one h.lr.one h.ls.one) hl hn, h.addR (by rw [List.length_map]) (by decide) lo_one2 iW_nofz, rfl, by rw [JB]; omega, ?_, fun b h1 h2 h3 h4 => Xv h1 h2 h3 h4⟩
 exact lnG_Nz hz (Zdf h.lf.nofz h.lw.nofz h.lr.nofz h.ls.nofz) (loT_nofz (VVal.nofzL_map fun _ => rfl) rfl) fv_nofz wv_nofz iW_nofz
end
def rlL : List Rul → List LE → List VVal
 | r :: rs, e :: es => iI r.kind :: iI r.k :: .slice (some (e.f, 0)) r.steps.length (r.steps.length + 4) false 1 :: rlL rs es
 | _, _ => []
theorem rlL_len : ∀ {rs : List Rul} {es : List LE}, rs.length = es.length → (rlL rs es).length = rs.length * 3
 | [], [], _ => rfl
 | [], _ :: _, h => by simp at h
 | _ :: _, [], h => by simp at h
 | r :: rs, e :: es, h => by
  rw [rlL, List.length_cons, List.length_cons, List.length_cons, rlL_len (rs := rs) (es := es) (by simpa using h), List.length_cons]; omega
theorem rlL_snoc {r : Rul} {e : LE} : ∀ {rs : List Rul} {es : List LE}, rs.length = es.length → rlL (rs ++ [r]) (es ++ [e]) = rlL rs es ++ [iI r.kind, iI r.k, .slice (some (e.f, 0)) r.steps.length (r.steps.length + 4) false 1]
 | [], [], _ => rfl
 | [], _ :: _, h => by simp at h
 | _ :: _, [], h => by simp at h
 | t :: rs, u :: es, h => by
  have ih := rlL_snoc (r := r) (e := e) (rs := rs) (es := es) (by simpa using h)
  show rlL (t :: (rs ++ [r])) (u :: (es ++ [e])) = _
  rw [rlL, ih]; rfl
theorem rlL_nofz : ∀ {rs : List Rul} {es : List LE}, VVal.nofzL (rlL rs es) = true
 | [], [] => rfl
 | [], _ :: _ => rfl
 | _ :: _, [] => rfl
 | r :: rs, e :: es => by
  rw [rlL]; simp [VVal.nofzL, VVal.nofz, rlL_nofz (rs := rs) (es := es)]
theorem rlL_fz {G : Ze} : ∀ {rs : List Rul} {es : List LE}, es.map LE.cs = rs.map (fun r => r.steps.map iI ++ mkI) → (∀ e, e ∈ es → G[e.f]? = some (.cells e.cs true)) → FzL G (rlL rs es) (rs.flatMap rlB) (es.map LE.f)
 | [], [], _, _ => .nil
 | [], _ :: _, h, _ => by simp at h
 | _ :: _, [], h, _ => by simp at h
 | r :: rs, e :: es, h, hg => by
  rw [List.map_cons, List.map_cons, List.cons.injEq] at h
  have ih := rlL_fz (G := G) (rs := rs) (es := es) h.2 fun e he => hg e (List.mem_cons_of_mem _ he)
  have h1 := hg e (List.mem_cons_self ..)
  rw [h.1] at h1
  rw [rlL, List.flatMap_cons, List.map_cons]
  refine .same (.same (.fz h1 ?_ (Nat.le_add_right _ _) ih))
  unfold Zo
  rw [if_pos (by simp), List.drop_zero, List.take_append_of_le_length (by simp), List.take_of_length_le (by simp)]
structure TI (G : Ze) (q : Pb) (c base cx k : Nat) (a0 a1 a2 a3 : VVal) (eF eW : LE) (E : List LE) (rv : VVal) : Prop where
 lo : LoanO G c base a0 a1 a2 a3 (eF :: E) [eW] (ZV rv).toList
 xb : G[cx]? = some (.cells [iI q.users, .slice (some (eW.f, 0)) q.who.length (q.who.length + 4) false 1, .slice (some (eF.f, 0)) q.fixed.length (q.fixed.length + 4) false 1, rv] true)
 rl : LV 0 3 G rv (rlL (q.rules.take k) E) k
 ew : eW.cs = q.who.map iW ++ mkW
 ef : eF.cs = q.fixed.map iI ++ mkI
 es : E.map LE.cs = (q.rules.take k).map fun r => r.steps.map iI ++ mkI
 nz : Nz G
 cl : cx < base ∧ cx ≠ c
 hk : k ≤ q.rules.length
section
variable {G : Ze} {q : Pb} {c base cx k : Nat} {a0 a1 a2 a3 rv : VVal} {eF eW : LE} {E : List LE}
theorem TI.len (h : TI G q c base cx k a0 a1 a2 a3 eF eW E rv) : E.length = (q.rules.take k).length := by
 have := congrArg List.length h.es
 simpa using this
theorem TI.rvn (h : TI G q c base cx k a0 a1 a2 a3 eF eW E rv) : ∀ b, ZV rv = some b → base ≤ b ∧ b < G.length ∧ ZV a0 ≠ some b ∧ ZV a1 ≠ some b ∧ b ≠ c ∧ b ≠ cx := fun b hb => by
 have hm : b ∈ (ZV rv).toList := by rw [hb]; simp
 have h1 := h.lo.lo b (mem_nms.2 (.inr (.inr hm)))
 have h2 := h.lo.nlist.2
 have h3 := h.lo.cl
 have h4 := h.cl
 exact ⟨h1.1, h1.2, fun e => (h2 b (mem_fm.2 (.inl e))).2 hm, fun e => (h2 b (mem_fm.2 (.inr (.inl e)))).2 hm, by omega, by omega⟩
theorem TI.app (h : TI G q c base cx k a0 a1 a2 a3 eF eW E rv) {Y : Ze} (hy : ∀ k, k ∈ Y → k.nofz = true) : TI (G ++ Y) q c base cx k a0 a1 a2 a3 eF eW E rv :=
 ⟨h.lo.app Y, Zn h.xb, h.rl.app Y, h.ew, h.ef, h.es, h.nz.app hy, h.cl, h.hk⟩
theorem TI.at9 (h : TI G q c base cx k a0 a1 a2 a3 eF eW E rv) {G9 : Ze} (ho : ∀ b, b < G.length → b ≠ c → ZV a0 ≠ some b → ZV a1 ≠ some b → G9[b]? = G[b]?) : G9[cx]? = some (.cells [iI q.users, .slice (some (eW.f, 0)) q.who.length (q.who.length + 4) false 1, .slice (some (eF.f, 0)) q.fixed.length (q.fixed.length + 4) false 1, rv] true) ∧ LV 0 3 G9 rv (rlL (q.rules.take k) E) k := by
 have h4 := h.cl
 obtain ⟨i0, i1, _, _⟩ := h.lo.idx
 refine ⟨(ho cx (ZG h.xb) h4.2 (fun e => by have := i0 cx e; omega) (fun e => by have := i1 cx e; omega)).trans h.xb, h.rl.frame fun b hb => ?_⟩
 rw [Nat.zero_add] at hb
 obtain ⟨r1, r2, r3, r4, r5, r6⟩ := h.rvn b hb
 exact ho b r2 r5 r3 r4
theorem TI.next (h : TI G q c base cx k a0 a1 a2 a3 eF eW E rv) (hk : k < q.rules.length) {G9 : Ze} {b0 b1 : VVal} {e : LE} (ok9 : LoanO G9 c base b0 b1 a2 a3 ((eF :: E) ++ [e]) [eW] (ZV rv).toList) (he : e.cs = (q.rules.getD k r0).steps.map iI ++ mkI) (nz9 : Nz G9) (hl9 : G.length ≤ G9.length)
  (ho : ∀ b, b < G.length → b ≠ c → ZV a0 ≠ some b → ZV a1 ≠ some b → G9[b]? = G[b]?) {n : Nat} (hn : n = G9.length + 1) {r : Rul} (hr : r = q.rules.getD k r0) :
  TI ((kl G9 rv).set cx (.cells [iI q.users, .slice (some (eW.f, 0)) q.who.length (q.who.length + 4) false 1, .slice (some (eF.f, 0)) q.fixed.length (q.fixed.length + 4) false 1, .slice (some (n, 0)) (k + 1) (k + 1) false 3] true) ++ [.cells [iI r.kind, iI r.k, .slice (some (e.f, 0)) r.steps.length (r.steps.length + 4) false 1] true, .cells (rlL (q.rules.take k) E ++ [iI r.kind, iI r.k, .slice (some (e.f, 0)) r.steps.length (r.steps.length + 4) false 1]) true]) q c base cx (k + 1) b0 b1 a2 a3 eF eW (E ++ [e]) (.slice (some (n, 0)) (k + 1) (k + 1) false 3) := by
 obtain ⟨cx9, rl9⟩ := h.at9 ho
 subst hn hr
 have h4 := h.cl
 have hlen := h.len
 have hcx := ZG cx9
 have hcc := h.lo.cl
 have hPl : ((kl G9 rv).set cx (.cells [iI q.users, .slice (some (eW.f, 0)) q.who.length (q.who.length + 4) false 1, .slice (some (eF.f, 0)) q.fixed.length (q.fixed.length + 4) false 1, .slice (some (G9.length + 1, 0)) (k + 1) (k + 1) false 3] true)).length = G9.length := by rw [List.length_set, Xj]
 have htk := Yf (d := r0) hk
 have hcs : rlL (q.rules.take k) E ++ [iI (q.rules.getD k r0).kind, iI (q.rules.getD k r0).k, .slice (some (e.f, 0)) (q.rules.getD k r0).steps.length ((q.rules.getD k r0).steps.length + 4) false 1] = rlL (q.rules.take (k + 1)) (E ++ [e]) := by rw [htk, rlL_snoc hlen.symm]
 have hlast : ∀ (P : Ze) (a b : VBlk), P.length = G9.length → (P ++ [a, b])[G9.length + 1]? = some b := fun P a b hP => by rw [List.getElem?_append_right (by omega), hP, show G9.length + 1 - G9.length = 1 by omega]; rfl
 refine ⟨?_, Zn (List.getElem?_set_self (by rw [Xj]; exact hcx)), ⟨?_, .inr ⟨by omega, G9.length + 1, by rw [Nat.zero_add], ?_⟩⟩, h.ew, h.ef, ?_, ?_, h.cl, by omega⟩
 ·refine LoanO.fresh ok9 (n := G9.length + 1) ⟨by omega, by rw [List.length_append, hPl]; simp⟩ ?_ fun b hb1 hb2 hb3 hb4 => ?_
  ·rw [List.getElem?_append_left (by rw [hPl]; exact ZG ok9.blk), List.getElem?_set_ne h4.2, QO (fun q => (h.rvn c q).2.2.2.2.1 rfl)]
  rw [List.getElem?_append_left (by rw [hPl]; exact hb1), List.getElem?_set_ne (by omega), QO (fun q => hb4 (by rw [q]; simp))]
 ·rw [rlL_len (by rw [List.length_append, hlen, htk]; simp), htk]; simp; omega
 ·rw [hlast _ _ _ hPl, hcs]
 ·rw [List.map_append, h.es, htk, List.map_append, List.map_singleton, List.map_singleton, he]
 refine Nz.app (Nz.set nz9.kl ?_) fun k' hk' => ?_
 ·show VVal.nofzL _ = true; rfl
 simp only [List.mem_cons, List.not_mem_nil, or_false] at hk'
 rcases hk' with rfl | rfl
 ·rfl
 rw [hcs]; exact rlL_nofz
theorem fl3c {rs : List Rul} : Zo (rs.flatMap rlB) 0 (rs.length * 3) = some (rs.flatMap rlB) := by
 have hl := fm_len (f := rlB) (m := 3) (fun _ => rfl) rs
 unfold Zo
 rw [if_pos (by omega), List.drop_zero, List.take_of_length_le (by omega)]
theorem TI.frznR {S : V.Sys} (h : TI G q c base cx q.rules.length a0 a1 a2 a3 eF eW E rv) : ∃ H1 bs, Frzn S [rv] G [fzR q.rules] H1 bs ∧ (∀ b, b ∈ bs → ∃ cs, G[b]? = some (.cells cs true)) ∧ eW.f ∉ bs ∧ eF.f ∉ bs := by
 have hfz := rlL_fz (G := G) h.es fun e he => (h.lo.ef e (by simp [he])).1
 have h1 := h.lo.nd
 unfold nms at h1
 rw [List.nodup_append] at h1
 have h2 := h1.2.1
 rw [List.nodup_append] at h2
 have hfn : (((eF :: E) ++ [eW]).map LE.f).Nodup := h2.1
 have hff : (E.map LE.f).Nodup ∧ eF.f ∉ E.map LE.f ∧ eW.f ∉ E.map LE.f := by
  rw [List.map_append, List.map_cons, List.map_singleton, List.nodup_append, List.nodup_cons] at hfn
  exact ⟨hfn.1.2, hfn.1.1, fun q => hfn.2.2 _ (List.mem_cons_of_mem _ q) _ (by simp) rfl⟩
 by_cases h0 : q.rules.length = 0
 ·have hr : q.rules = [] := List.eq_nil_of_length_eq_zero h0
  have hv : rv = .slice none 0 0 true 0 := by
   rcases h.rl.2 with ⟨_, e⟩ | ⟨e, _⟩
   ·exact e
   omega
  subst hv
  refine ⟨G, [], ?_, (fun b hb => by cases hb), by simp, by simp⟩
  rw [hr]
  exact Frzn.gh (Gh.freezeNil (vs' := [fzR []]) 0 (es' := 3) rfl rfl)
 obtain ⟨b, hb1, hb2⟩ := LV0.pos h.rl (by omega)
 have hnb : b ∉ E.map LE.f ∧ eW.f ≠ b ∧ eF.f ≠ b := by
  have hm : b ∈ (ZV rv).toList := by rw [hb1]; simp [ZV]
  have h3 := h2.2.2
  refine ⟨fun q => ?_, fun q => ?_, fun q => ?_⟩
  ·exact h3 b (by rw [List.map_append]; exact List.mem_append_left _ (List.mem_cons_of_mem _ q)) b (List.mem_append_right _ hm) rfl
  ·exact h3 b (by rw [← q]; simp) b (List.mem_append_right _ hm) rfl
  exact h3 b (by rw [← q]; simp) b (List.mem_append_right _ hm) rfl
 subst hb1
 rw [List.take_length] at hfz hb2
 refine ⟨_, _, Frzn.cells (S := S) (ex := false) hb2 (hfz.frzn hff.1) hnb.1 (l := q.rules.flatMap rlB) fl3c (Nat.le_refl _), fun d hd => ?_, ?_, ?_⟩
 ·rcases List.mem_append.1 hd with hd | hd
  ·exact hfz.cells d hd
  rw [List.mem_singleton] at hd; subst hd; exact ⟨_, hb2⟩
 ·rw [List.mem_append, not_or, List.mem_singleton]; exact ⟨hff.2.2, hnb.2.1⟩
 rw [List.mem_append, not_or, List.mem_singleton]; exact ⟨hff.2.1, hnb.2.2⟩
theorem TI.frzn {S : V.Sys} (h : TI G q c base cx q.rules.length a0 a1 a2 a3 eF eW E rv) : ∃ H1 bs, Frzn S [.agg [iI q.users, .slice (some (eW.f, 0)) q.who.length (q.who.length + 4) false 1, .slice (some (eF.f, 0)) q.fixed.length (q.fixed.length + 4) false 1, rv]] G [.agg (pbB q)] H1 bs ∧ (∀ b, b ∈ bs → ∃ cs, G[b]? = some (.cells cs true)) := by
 obtain ⟨H1, bs, z, hbs, n1, n2⟩ := h.frznR (S := S)
 have eW1 := (h.lo.ef eW (by simp)).1
 have eF1 := (h.lo.ef eF (by simp)).1
 rw [h.ew] at eW1; rw [h.ef] at eF1
 have hne : eW.f ≠ eF.f := by
  have h1 := h.lo.fnd
  rw [List.nodup_append] at h1
  exact fun q => h1.2.2 eF.f (by simp) eW.f (by simp) q.symm
 have a := z.frame [iI q.users, .slice (some (eW.f, 0)) q.who.length (q.who.length + 4) false 1, .slice (some (eF.f, 0)) q.fixed.length (q.fixed.length + 4) false 1] []
 have hf : FzL H1 [iI q.users, .slice (some (eW.f, 0)) q.who.length (q.who.length + 4) false 1, .slice (some (eF.f, 0)) q.fixed.length (q.fixed.length + 4) false 1, fzR q.rules] (pbB q) [eW.f, eF.f] := by
  refine .same (.fz (l := q.who.map iW) ((z.2.1 _ (ZG eW1) n1).trans eW1) ?_ (Nat.le_add_right _ _) (.fz (l := q.fixed.map iI) ((z.2.1 _ (ZG eF1) n2).trans eF1) ?_ (Nat.le_add_right _ _) (.same .nil)))
  ·unfold Zo; rw [if_pos (by simp), List.drop_zero, List.take_append_of_le_length (by simp), List.take_of_length_le (by simp)]
  unfold Zo; rw [if_pos (by simp), List.drop_zero, List.take_append_of_le_length (by simp), List.take_of_length_le (by simp)]
 refine ⟨_, _, Frzn.agg (Frzn.trans (by simpa using a) (hf.frzn (S := S) (by simpa using hne))), fun b hb => ?_⟩
 rcases List.mem_append.1 hb with hb | hb
 ·exact hbs b hb
 simp only [List.mem_cons, List.not_mem_nil, or_false] at hb
 rcases hb with rfl | rfl
 ·exact ⟨_, eW1⟩
 exact ⟨_, eF1⟩
end
section
variable {S : V.Sys} {f : FuncId} {args args1 : List VVal} {G H1 : Ze} {bs : List Nat}
def LvK (G : Ze) (l : List (BitVec 64)) (v : VVal) (G' : Ze) : Prop := ∃ Y, G' = G ++ Y ∧ (∀ k, k ∈ Y → k.nofz = true) ∧ LV G.length 1 Y v (l.map iW) l.length
theorem Zc9 (z : Frzn S args G args1 H1 bs) (hbs : ∀ b, b ∈ bs → ∃ cs, G[b]? = some (.cells cs true)) (nz : Nz G) {l : List (BitVec 64)} (h : F S f args1 H1 (LvR H1 l)) : F S f args G (LvK G l) := by
 have h2 : F S f args1 H1 (fun v G' => ∃ Y, G' = H1 ++ Y ∧ LV H1.length 1 Y v (l.map iW) l.length) := by
  refine F.gh h ?_
  rintro v G' ⟨Y, rfl, ⟨h0, rfl⟩ | ⟨j, h0, rfl, hj⟩⟩
  ·exact ⟨_, _, Gh.refl _ _ _ _, Y, rfl, by rw [h0]; exact LV.nil _ _ _⟩
  exact ⟨_, _, Gh.loosen 0 rfl rfl, Y, rfl, by simp, .inr ⟨h0, j, rfl, hj⟩⟩
 refine F_lend z (fun b k hb _ => nz b k hb) hbs h2 ?_
 rintro v G' ⟨Y, rfl, hv⟩
 refine ⟨hv.nofz, by rw [List.length_append, z.1]; omega, fun b hb hn => by rw [List.getElem?_append_left (by rw [z.1]; exact hb)]; exact z.2.1 b hb hn, Y.map VBlk.keep, ?_, fun k hk => ?_, ?_⟩
 ·rw [List.drop_append_of_le_length (by rw [z.1]; exact Nat.le_refl _), List.drop_eq_nil_of_le (by rw [z.1]; exact Nat.le_refl _)]; rfl
 ·obtain ⟨k', _, rfl⟩ := List.mem_map.1 hk; exact k'.keep_nofz
 rw [z.1] at hv
 refine ⟨hv.1, ?_⟩
 rcases hv.2 with e | ⟨e1, b, rfl, hb⟩
 ·exact .inl e
 refine .inr ⟨e1, b, rfl, ?_⟩
 rw [List.getElem?_map, hb]
 show some (VBlk.keep _) = _
 rw [VBlk.keep_eq (k := .cells (l.map iW) true) (show VVal.nofzL (l.map iW) = true from VVal.nofzL_map fun _ => rfl)]
end
theorem loan0 {H : Ze} {k : VBlk} : LoanO (H ++ [.dead, .dead, .cells [Yj, Yj, Yj, Yj] true, k]) (H.length + 2) (H.length + 4) Yj Yj Yj Yj [] [] [] :=
 ⟨ZI rfl rfl, LV.nil _ _ _, LV.nil _ _ _, LV.nil _ _ _, LV.nil _ _ _, fun e he => (by cases he), fun e he => (by cases he), by decide, fun b hb => (by cases hb), by omega, by simp⟩
theorem nz0 {H : Ze} (h : Nz H) {k : VBlk} (hk : k.nofz = true) : Nz (H ++ [.dead, .dead, .cells [Yj, Yj, Yj, Yj] true, k]) := h.app fun k' hk' => by
 simp only [List.mem_cons, List.not_mem_nil, or_false] at hk'
 rcases hk' with rfl | rfl | rfl | rfl
 ·rfl
 ·rfl
 ·rfl
 exact hk
theorem TI.init {G9 : Ze} {q : Pb} {c base cx : Nat} {a0 a1 a2 a3 : VVal} {eF eW : LE} {k : VBlk} (ok : LoanO G9 c base a0 a1 a2 a3 ([] ++ [eF]) ([] ++ [eW]) []) (hx : G9[cx]? = some k) (hc : cx < base ∧ cx ≠ c) (nz : Nz G9) (hw : eW.cs = q.who.map iW ++ mkW) (hf : eF.cs = q.fixed.map iI ++ mkI) :
  TI (G9.set cx (.cells [iI q.users, .slice (some (eW.f, 0)) q.who.length (q.who.length + 4) false 1, .slice (some (eF.f, 0)) q.fixed.length (q.fixed.length + 4) false 1, Yj] true)) q c base cx 0 a0 a1 a2 a3 eF eW [] Yj := by
 refine ⟨LoanO.frame ok (by simp) (by rw [List.getElem?_set_ne hc.2]) (fun b hb => ?_) ok.nd fun b hb => (by cases hb), List.getElem?_set_self (ZG hx), LV.nil _ _ _, hw, hf, rfl, nz.set rfl, hc, Nat.zero_le _⟩
 have := ok.lo b hb
 rw [List.getElem?_set_ne (by omega)]
section
variable {G : Ze} {q : Pb} {c base cx k : Nat} {a0 a1 a2 a3 rv : VVal} {eF eW : LE} {E : List LE}
theorem TI.hei (h : TI G q c base cx k a0 a1 a2 a3 eF eW E rv) (hL : PbL q) : ∀ e, e ∈ eF :: E → ∃ L : List Int, e.cs = L.map iI ∧ L.length ≤ 2000000 := by
 intro e he
 have key : ∀ l : List Int, l.map iI ++ mkI = (l ++ [-77, -78, -79, -80]).map iI := fun l => by rw [List.map_append]; rfl
 rcases List.mem_cons.1 he with rfl | he
 ·exact ⟨_, h.ef.trans (key _), by have := hL.f; simp; omega⟩
 have h1 : e.cs ∈ E.map LE.cs := List.mem_map.2 ⟨e, he, rfl⟩
 rw [h.es] at h1
 obtain ⟨r, hr, e1⟩ := List.mem_map.1 h1
 have := hL.s r (List.mem_of_mem_take hr)
 exact ⟨_, e1.symm.trans (key _), by simp; omega⟩
theorem TI.her (h : TI G q c base cx k a0 a1 a2 a3 eF eW E rv) (hL : PbL q) : ∀ e, e ∈ [eW] → ∃ L : List (BitVec 64), e.cs = L.map iW ∧ L.length ≤ 2000000 := by
 intro e he
 have he : e = eW := by simpa using he
 subst he
 have key : ∀ l : List (BitVec 64), l.map iW ++ mkW = (l ++ [77#64, 78#64, 79#64, 80#64]).map iW := fun l => by rw [List.map_append]; rfl
 exact ⟨_, h.ew.trans (key _), by have := hL.w; simp; omega⟩
end
theorem LV_sh {h d es : Nat} {X L : Ze} {v : VVal} {cs : List VVal} {n : Nat} (l : LV (h + d) es X v cs n) (hL : L.length = d) : LV h es (L ++ X) v cs n := by
 refine ⟨l.1, ?_⟩
 rcases l.2 with h1 | ⟨h1, b, rfl, hb⟩
 ·exact .inl h1
 exact .inr ⟨h1, d + b, by rw [Nat.add_assoc], by rw [List.getElem?_append_right (by omega), show d + b - L.length = b by omega]; exact hb⟩
theorem LV_lt {h es : Nat} {X : Ze} {v : VVal} {cs : List VVal} {n b : Nat} (l : LV h es X v cs n) (hv : ZV v = some b) : h ≤ b ∧ b < h + X.length := by
 rcases l.2 with ⟨_, rfl⟩ | ⟨_, i, rfl, hi⟩
 ·cases hv
 have e : h + i = b := Option.some.inj hv
 have := (List.getElem?_eq_some_iff.1 hi).1
 omega
theorem LV_pos {h es : Nat} {X : Ze} {v : VVal} {cs : List VVal} {n : Nat} (l : LV h es X v cs n) (h0 : 0 < n) : ∃ b, v = .slice (some (h + b, 0)) n n false es ∧ X[b]? = some (.cells cs true) := by
 rcases l.2 with ⟨e, _⟩ | ⟨_, b, rfl, hb⟩
 ·omega
 exact ⟨b, rfl, hb⟩
theorem two_lists {h : Nat} {Y1 Y2 : Ze} {av bv : VVal} {cs ds : List VVal} {n m : Nat} (ha : LV h 1 Y1 av cs n) {g : Nat} (hb : LV g 1 Y2 bv ds m) (hg : g = h + Y1.length) : LV h 1 (Y1 ++ Y2) av cs n ∧ LV h 1 (Y1 ++ Y2) bv ds m ∧ (∀ b, ZV av = some b → ZV bv ≠ some b) := by
 subst hg
 exact ⟨ha.app Y2, LV_sh hb rfl, fun b h1 h2 => by have := LV_lt ha h1; have := LV_lt hb h2; omega⟩
theorem Zav {h n m k b6 : Nat} {Y : Ze} {bv : VVal} {cs8 ds : List VVal} (hb : LV h 1 Y bv ds m) (hd : ZV bv ≠ some (h + b6)) (h6 : Y[b6]? = some (.cells cs8 true)) (hl : cs8.length = n * 1) (hn : 0 < n) (hk : k < n) (hy : ∀ k, k ∈ Y → k.nofz = true) (hz : VVal.nofzL cs8 = true) {v : VVal} (hv : v.nofz = true) {Z : List VVal} (hZ : Z = Zx cs8 (0 + k * 1) [v]) :
  LV h 1 (Y.set b6 (.cells Z true)) (.slice (some (h + b6, 0)) n n false 1) Z n ∧ LV h 1 (Y.set b6 (.cells Z true)) bv ds m ∧ (∀ k, k ∈ Y.set b6 (.cells Z true) → k.nofz = true) ∧ VVal.nofzL Z = true := by
 subst hZ
 have hzz : VVal.nofzL (Zx cs8 (0 + k * 1) [v]) = true := by
  unfold Zx
  refine VVal.nofzL_app (VVal.nofzL_app (VVal.nofzL_all fun u hu => VVal.nofzL_mem hz u (List.mem_of_mem_take hu)) (by simp [VVal.nofzL, hv])) (VVal.nofzL_all fun u hu => VVal.nofzL_mem hz u (List.mem_of_mem_drop hu))
 refine ⟨⟨by rw [Q2 (by omega)]; exact hl, .inr ⟨hn, b6, rfl, List.getElem?_set_self (ZG h6)⟩⟩, hb.frame fun i hi => ?_, fun k' hk' => ?_, hzz⟩
 ·rw [List.getElem?_set_ne]; rintro rfl; exact hd hi
 rcases List.mem_or_eq_of_mem_set hk' with q | rfl
 ·exact hy _ q
 exact hzz
theorem B_frzB {S : V.Sys} {H0 H Y : Ze} {rd : Option Nat} {env env' : VEnv} {c : Code} {Q : XV} {v : VVal} {cs : List VVal} {n : Nat} (i : Nat) (l : LV H.length 1 Y v cs n) (hv : env[i]? = some v) (he : env.set i (.fsl cs n 1 false) = env') (hy : ∀ k, k ∈ Y → k.nofz = true)
  (h : ∀ Y', (∀ k, k ∈ Y' → k.nofz = true) → B S H0 rd c env' (H ++ Y') Q) : B S H0 rd c env (H ++ Y) Q := by
 rcases l.2 with ⟨rfl, rfl⟩ | ⟨hl, b, rfl, hg⟩
 ·have hcs : cs = [] := List.eq_nil_of_length_eq_zero XH26
  subst hcs
  exact Ym (Gh.freezeNil i hv he) (h Y hy)
 refine Ym (Gh.freezeL i b hv hg ?_ (Nat.le_refl _) he) (h _ fun k hk => ?_)
 ·unfold Zo; rw [if_pos XH26, List.drop_zero, List.take_of_length_le XH26]
 rcases List.mem_or_eq_of_mem_set hk with q | rfl
 ·exact hy _ q
 rfl
abbrev u56 {a0 a1 a2 a3 a4 a5 a6 a7 a8 a9 a10 a11 a12 a13 a14 a15 a16 a17 a18 a19 a20 a21 a22 a23 a24 a25 a26 a27 a28 a29 a30 a31 a32 a33 a34 a35 a36 a37 a38 a39 a40 a41 a42 a43 a44 a45 a46 a47 a48 a49 a50 a51 a52 a53 a54 a55 : VVal} : VEnv := a0 :: a1 :: a2 :: a3 :: a4 :: a5 :: a6 :: a7 :: a8 :: a9 :: a10 :: a11 :: a12 :: a13 :: a14 :: a15 :: a16 :: a17 :: a18 :: a19 :: a20 :: a21 :: a22 :: a23 :: a24 :: a25 :: a26 :: a27 :: a28 :: a29 :: a30 :: a31 :: a32 :: a33 :: a34 :: a35 :: a36 :: a37 :: a38 :: a39 :: a40 :: a41 :: a42 :: a43 :: a44 :: a45 :: a46 :: a47 :: a48 :: a49 :: a50 :: a51 :: a52 :: a53 :: a54 :: a55 :: []
theorem W8e {S : V.Sys} {H : Ze} {fn : Func} {ex : Exit} {env : VEnv} {B L : Ze} {v : VVal} {R : VVal → Ze → Prop} (hx : ex = .normal ∨ ex = .ret) (hv : ZX S.C.T env (B ++ L) fn.results = some v) (h : R v B) (hB : BaseOk H B := by exact XH41) (hu : v.under H.length = true := by first | exact (show ((VVal.agg (pbB z0P)).under H.length && (true && true)) = true by rw [Jb]; rfl) | exact (show ((VVal.agg (pbB (p.users, p.who, p.fixed.set s.toNat u, p.rules, ()))).under H.length && (true && true)) = true by rw [Jb]; rfl)) : fnK S fn H R ex env (B ++ L) := Xk hx hv hB hu h
theorem W8f {P : Prop} (h : P := by first | exact ⟨by rw [Zcz hE, hE]; show _ = VVal.tuple [.agg [iI p.users, fzW p.who, .fsl ((p.fixed.set s.toNat u).map iI) (p.fixed.set s.toNat u).length 1 false, fzR p.rules], iI 0]; rw [List.length_set]; rfl, rfl⟩ | exact ⟨by have h9 : ¬ fxE p s u = 0 := (fun e => by have := fxE_ok.1 e; omega); rw [fxP_no h9]; unfold fxE; rw [if_neg (fun e => e (by assumption)), if_pos (by omega)]; rfl, rfl⟩ | exact ⟨by have h9 : ¬ fxE p s u = 0 := (fun e => absurd (pck_good.2 (fxE_ok.1 e).1) (by assumption)); rw [fxP_no h9]; unfold fxE; rw [if_pos (by assumption)]; rfl, rfl⟩) : P := h
theorem W8g {T : TypeId → Option VTy} {H : Ze} {op : Op} {ρ : VEnv} {H' : Ze} {t : TypeId} {a : Operand} {i : Nat} {v : VVal} {y : VTy} {b off : Nat} {cs new : List VVal} (ho : op = .store t a (.tmp i)) (hv : ρ[i]? = some v) (ha : ρ.eval a = .ptr (some (b, off))) (hy : T t = some y) (hx : v.cells = some new) (hn : new.length = y.size) (h1 : new.all VVal.one = true) (hb : H[b]? = some (.cells cs true) := by exact ZI rfl (Zn hY)) (hl : off + new.length ≤ cs.length := by show 0 + s.toNat * 1 + 1 ≤ _; rw [List.length_map]; omega) (hH : H.set b (.cells (Zx cs off new) true) = H' := by exact (ZO rfl).trans (by rw [Yl (ZG hY)])) : vop T ρ.eval H op = some (.skip, H') := Z3 ho hv ha hy hx hn h1 hb hl hH
theorem W8h {T : TypeId → Option VTy} {H : Ze} {op : Op} {ρ : Operand → VVal} {t : TypeId} {a : Operand} {y : VTy} {p : VVal} {n : Nat} {vs : List VVal} (ho : op = .load t a) (ha : ρ a = p) (hy : T t = some y) (hd : Zk y.desc = true) (hn : y.size = n) (h : XF H p n vs := by first | exact .inl ⟨_, _, rfl, XH37⟩ | exact .inr ⟨_, _, _, _, rfl, by exact ZI rfl (List.getElem?_set_self (by simp)), XH37⟩) : vop T ρ H op = some (.agg vs, H) := XI ho ha hy hd hn h
theorem W8i {T : TypeId → Option VTy} {H : Ze} {op : Op} {ρ : VEnv} {H' : Ze} {t : TypeId} {a : Operand} {i : Nat} {v : VVal} {y : VTy} {b off : Nat} {cs new : List VVal} (ho : op = .store t a (.tmp i)) (hv : ρ[i]? = some v) (ha : ρ.eval a = .ptr (some (b, off))) (hy : T t = some y) (hx : v.cells = some new) (hn : new.length = y.size) (h1 : new.all VVal.one = true) (hb : H[b]? = some (.cells cs true) := by exact ZcR rfl rfl) (hl : off + new.length ≤ cs.length := by exact XH38) (hH : H.set b (.cells (Zx cs off new) true) = H' := by exact setB rfl (show 1 < 2 by decide)) : vop T ρ.eval H op = some (.skip, H') := Z3 ho hv ha hy hx hn h1 hb hl hH
def CpR (H : Ze) (p : Pb) (v : VVal) (G : Ze) : Prop := ∃ Y j, v = .agg [iI p.users, fzW p.who, .slice (some (H.length + j, 0)) p.fixed.length p.fixed.length false 1, fzR p.rules] ∧ G = H ++ Y ∧ Y[j]? = some (.cells (p.fixed.map iI) true)
theorem Twin_spec {x : SW} (H : Ze) (p : Pb) (hp : PbL p) (hne : 0 < p.fixed.length) (hnw : 0 < p.who.length) (hst : ∀ r, r ∈ p.rules → 0 < r.steps.length) : F (psys x) 75 [.agg (pbB p)] H (CpR H p) := by
 have h1 := hp.w; have h2 := hp.f; have h3 := hp.r; have h4 := hp.s
 refine Zp Tryd.func75 rfl u56 rfl ?_
 refine Zc (Za (Lo u56 (ZJ rfl rfl rfl) ?_))
 refine Lo u56 (ZP rfl rfl) ?_
 refine Zd (Zb (Zc (Ym (Gh.freezePtrL (cs := pbB p) 1 0 rfl rfl rfl) ?_)))
 refine Za (Lo u56 rfl ?_)
 refine Lo u56 (W2r rfl rfl rfl rfl) ?_
 refine Lo u56 rfl ?_
 refine Lo u56 (ZP rfl rfl) ?_
 refine Lo u56 (W13 rfl rfl rfl rfl rfl rfl rfl) ?_
 refine Zd (Zb (Zc (Za (Lo u56 rfl ?_))))
 refine Lo u56 (W2r rfl rfl rfl rfl) ?_
 refine Lo u56 rfl ?_
 refine Lo u56 (W2r rfl rfl rfl rfl) ?_
 refine Lo u56 (Zbx rfl rfl rfl rfl rfl rfl rfl XH23 (Qw _) (by decide) hnw (by show p.who.length * 8 ≤ _ ∧ _; omega)) ?_
 refine Lo u56 rfl ?_
 refine Lo u56 (W13 rfl rfl rfl rfl rfl rfl rfl) ?_
 refine Zd (Zb (Zc (Ym (Gh.cellL (l := p.who.map iW) 2 1 3 rfl rfl (by decide) rfl wApp_c (Nat.le_refl _)) ?_)))
 refine Za (Lo u56 rfl ?_)
 refine Lo u56 (W2r rfl rfl rfl rfl) ?_
 refine Lo u56 rfl ?_
 refine Lo u56 (W2r rfl rfl rfl rfl) ?_
 refine Lo u56 (Zbx rfl rfl rfl rfl rfl rfl rfl XH23 (Zax _) (by decide) hne (by show p.fixed.length * 8 ≤ _ ∧ _; omega)) ?_
 refine Lo u56 rfl ?_
 refine Lo u56 (W13 rfl rfl rfl rfl rfl rfl rfl) ?_
 refine Zd (Zb (Zc (Zc (Za (Lk u56 (.int .i64 0) ?_)))))
 refine Zd (Zb (Zg (Zr (mk 56 72057594037927905) (env' := u56) rfl ?_)))
 refine Zw (fun (k : Nat) => p.rules.length - k) (fun (k : Nat) => [(4, iI (k : Nat))]) (fun (k : Nat) G => (k ≤ p.rules.length) ∧ ∃ lv X, G = (H ++ [.dead, pqB 0 Yj Yj Yj, .cells [iI p.users, fzW p.who, .slice (some (H.length + 4, 0)) p.fixed.length p.fixed.length false 1, lv] true, .dead, .cells (p.fixed.map iI) true]) ++ X ∧ LV (H.length + 5) 3 X lv ((p.rules.take k).flatMap rlB) (p.rules.take k).length) 0 rfl ?_ ?_
 ·refine ⟨?_, ⟨_, [], by rw [List.append_nil]; rfl, LV.nil _ _ _⟩⟩
  exact Nat.zero_le _
 rintro k _ ⟨hk, ⟨lv, X, rfl, hl⟩⟩
 refine ZL (env' := u56) rfl ?_
 refine Zc (Zc (Za (Lm u56 ?_)))
 refine Lo u56 rfl ?_
 refine Lo u56 (W2r rfl rfl rfl rfl) ?_
 refine Lo u56 rfl ?_
 refine Lo u56 rfl ?_
 refine Zd (Zb (Zi _ rfl (fun hc1 => ?_) (fun hc1 => ?_)))
 ·try simp only [qB, qN] at hc1
  refine Zh (Zb (Zc (Zg (Zc (Za (Lk u56 (.slice none 0 0 true 0) ?_))))))
  refine Zd (Zb (Zc ?_))
  have hr1 := Y3 (l := p.rules) (k := k) (by omega)
  have hs1 := h4 _ hr1
  have hs2 := hst _ hr1
  refine Za (Lm u56 ?_)
  refine Lo u56 rfl ?_
  refine Lo u56 (W2r rfl rfl rfl rfl) ?_
  refine Lm u56 ?_
  refine Lo u56 (W18 rfl rfl rfl rfl rfl rfl rfl) ?_
  refine Lo u56 rfl ?_
  refine Lo u56 (W2r rfl rfl rfl rfl) ?_
  refine Lo u56 (Zbx rfl rfl rfl rfl rfl rfl rfl XH23 (Zax _) (by decide) hs2 (by show (p.rules.getD k r0).steps.length * 8 ≤ _ ∧ _; omega)) ?_
  refine La u56 ?_
  refine Zd (Zb (Ym (Gh.freezeL (l := (p.rules.getD k r0).steps.map iI) 5 X.length rfl Xw map_all (Nat.le_refl _) rfl) ?_))
  rw [set_end]
  refine ZK [0, 1, 2, 3, 4, 5, 6, 7, 8, 9, 10, 11, 12, 13, 14, 15, 16, 17, 18, 19] #[0, 1, 0, 4, 0, 28, 60, 124, 0, 256, 0, 1792, 3840, 7936, 0, 32764, 65532, 131071, 262143, 524287] XH3 XH3 XH3 ?_
  refine Oc u56 rfl rfl ?_
  refine Ok u56 rfl (W2r rfl rfl rfl rfl) ?_
  refine Oc u56 rfl rfl ?_
  refine Ok u56 rfl (W2r rfl rfl rfl rfl) ?_
  refine Om u56 ?_
  refine Oc u56 rfl (W18 rfl rfl rfl rfl rfl rfl rfl) ?_
  refine Oc u56 rfl rfl ?_
  refine Ok u56 rfl (W2r rfl rfl rfl rfl) ?_
  refine Oc u56 rfl rfl ?_
  refine Ok u56 rfl (W2r rfl rfl rfl rfl) ?_
  refine Om u56 ?_
  refine Oc u56 rfl (W18 rfl rfl rfl rfl rfl rfl rfl) ?_
  refine Oc u56 rfl rfl ?_
  refine Ok u56 rfl (W2r rfl rfl rfl rfl) ?_
  refine Om u56 ?_
  refine Oc u56 rfl rfl ?_
  refine Oo u56 .grow rfl (Zv rfl rfl (by decide) rfl) ?_
  refine O_opX .turn rfl rfl rfl (Xt rfl rfl rfl rfl rfl rfl rfl (by simp) (hl.app _) rfl rfl (by decide) (by rw [List.length_take]; show (_ + 1) * 40 ≤ _ ∧ _ + 1 ≤ _; omega) (by decide)) rfl rfl ?_
  rintro _ _ ⟨Y1, rfl, rfl, hY1, hY2, hY3⟩
  refine Zbr (env' := u56) rfl ?_
  refine Oc u56 rfl rfl ?_
  refine Oo u56 .turn rfl (W13 rfl rfl rfl rfl rfl rfl rfl) ?_
  refine ZW [] XH3 (trivial) ?_
  refine Zq (Zb (Za (Lm u56 ?_)))
  refine Lo u56 (W14 rfl rfl rfl) ?_
  refine La u56 ?_
  refine Zd (Zt (mk 56 72057594037927905) (env' := u56) rfl ⟨k + 1, ?_, rfl, ?_⟩)
  ·first | omega | (simp only []; omega)
  exact ⟨by omega, _, _, rfl, by rw [Yf (d := r0) (by omega)]; exact LV.pushF hY3⟩
 try simp only [qB, qN] at hc1
 refine Zz (ZA (Zu (Zy (Zb (Zc ?_)))))
 obtain rfl : k = p.rules.length := by omega
 rw [List.take_length] at hl
 refine Ji 2 3 hl rfl rfl (by simp) fun X5 _ _ => ?_
 refine YS (List.append_assoc _ _ _) ?_
 refine Za (Lo u56 (W2p rfl rfl rfl rfl rfl) ?_)
 refine Lo u56 (W13 rfl rfl rfl rfl rfl rfl rfl) ?_
 refine Zd (Zb (Zj ?_))
 refine YQ (.inr rfl) (YV rfl rfl rfl rfl XH0 XH7) ?_
 exact ⟨_, 4, rfl, rfl, rfl⟩
def z0P : Pb := (0, [], [], [], ())
def fxE (p : Pb) (s u : Int) : Int := if pck p ≠ 0 then pck p else if s < 0 ∨ (p.who.length : Int) ≤ s ∨ u < 0 ∨ p.users ≤ u then 1 else 0
def fxP (p : Pb) (s u : Int) : Pb := if fxE p s u = 0 then (p.users, p.who, p.fixed.set s.toNat u, p.rules, ()) else z0P
theorem fxE_ok {p : Pb} {s u : Int} : fxE p s u = 0 ↔ Go.V.Good p ∧ (0 ≤ s ∧ s < p.who.length) ∧ 0 ≤ u ∧ u < p.users := by
 unfold fxE
 constructor
 ·intro h
  split at h
  ·rename_i h1; exact absurd h h1
  rename_i h1
  split at h
  ·cases h
  exact ⟨pck_good.1 (Decidable.of_not_not h1), by omega, by omega⟩
 rintro ⟨g, h1, h2⟩
 rw [if_neg (fun e => e (pck_good.2 g)), if_neg (by omega)]
theorem Zcz {p : Pb} {s u : Int} (h : fxE p s u = 0) : fxP p s u = (p.users, p.who, p.fixed.set s.toNat u, p.rules, ()) := if_pos h
theorem fxP_no {p : Pb} {s u : Int} (h : ¬ fxE p s u = 0) : fxP p s u = z0P := if_neg h
theorem spl_I {l : List Int} {k : Nat} {w : Int} (h : k < l.length) : Zx (l.map iI) (0 + k * 1) [iI w] = (l.set k w).map iI := by
 rw [show 0 + k * 1 = k by omega]
 unfold Zx
 rw [List.map_set, List.set_eq_take_append_cons_drop, if_pos XH31]; simp
theorem fFix_spec {x : SW} (H : Ze) (p : Pb) (s u : Int) (hp : PbL p) : F (psys x) 67 [.agg (pbB p), iI s, iI u] H fun v G => v = .tuple [.agg (pbB (fxP p s u)), iI (fxE p s u)] ∧ G = H := by
 refine Zp Tryd.func67 rfl u44 rfl ?_
 refine Zc (Za (Lo u44 (ZJ rfl rfl rfl) ?_))
 refine Lo u44 (ZP rfl rfl) ?_
 refine Lk u44 (.int .i64 0) ?_
 refine Zd (Zb (Zc (Ym (Gh.freezePtrL (cs := pbB p) 3 0 rfl rfl rfl) ?_)))
 refine Za (Lo u44 (W2p rfl rfl rfl rfl rfl) ?_)
 refine Zs rfl rfl rfl (by exact QE _ _ hp) ?_
 rintro _ _ ⟨rfl, rfl⟩
 refine Le u44 ?_
 refine La u44 ?_
 refine Zd (Zb (Zc (Zc (Za (Lm u44 ?_)))))
 refine Lo u44 rfl ?_
 refine Zd (Zb (Zi _ rfl (fun hc1 => ?_) (fun hc1 => ?_)))
 ·try simp only [qB, qN] at hc1
  refine Zc (Za (Lo u44 rfl ?_))
  refine Lm u44 ?_
  refine Lo u44 (W13 rfl rfl rfl rfl rfl rfl rfl) ?_
  refine La u44 ?_
  refine Zd (Zb (Ym (Gh.cellNilL 1 1 (es' := 1) rfl rfl) ?_))
  refine Ym (Gh.cellNilL 1 2 (es' := 1) rfl rfl) ?_
  refine Ym (Gh.cellNilL 1 3 (es' := 3) rfl rfl) ?_
  refine Zj (Zl (W8e (.inr rfl) (Qp rfl rfl rfl rfl XH21 XH7 rfl) ?_))
  exact W8f
 try simp only [qB, qN] at hc1
 refine Zh (Zb (Zc (Zc (Za (Lm u44 ?_)))))
 refine Lo u44 rfl ?_
 refine Lm u44 ?_
 refine ZB 18 (env1 := u44) (env2 := u44) rfl rfl rfl (fun hg2 => ?_) (fun hg2 => ?_)
 ·try simp only [qB, qN] at hg2
  refine Lf u44 ?_
  refine Lf u44 ?_
  refine Lf u44 ?_
  refine Lf u44 ?_
  refine Lf u44 ?_
  refine Lo u44 (ZF (VVal.bool true) rfl rfl rfl) ?_
  refine Lm u44 ?_
  refine Lf u44 ?_
  refine Lf u44 ?_
  refine Lo u44 (ZF (VVal.bool true) rfl rfl rfl) ?_
  refine Lm u44 ?_
  refine Lf u44 ?_
  refine Lf u44 ?_
  refine Lf u44 ?_
  refine Lf u44 ?_
  refine Lo u44 (ZF (VVal.bool true) rfl rfl rfl) ?_
  refine Zd (Zb (ZN rfl rfl ?_))
  refine Zc (Za (Lo u44 rfl ?_))
  refine Lo u44 (W13 rfl rfl rfl rfl rfl rfl rfl) ?_
  refine Lk u44 (.int .i64 1) ?_
  refine Zd (Zb (Ym (Gh.cellNilL 1 1 (es' := 1) rfl rfl) ?_))
  refine Ym (Gh.cellNilL 1 2 (es' := 1) rfl rfl) ?_
  refine Ym (Gh.cellNilL 1 3 (es' := 3) rfl rfl) ?_
  refine Zj (Zl (W8e (.inr rfl) (Qp rfl rfl rfl rfl XH21 XH7 rfl) ?_))
  exact W8f
 try simp only [qB, qN] at hg2
 refine Lm u44 ?_
 refine Lo u44 rfl ?_
 refine Lo u44 (W2r rfl rfl rfl rfl) ?_
 refine Lo u44 rfl ?_
 refine Lo u44 rfl ?_
 refine Lo u44 (ZY rfl rfl rfl) ?_
 refine Lm u44 ?_
 refine ZB 25 (env1 := u44) (env2 := u44) rfl rfl rfl (fun hg3 => ?_) (fun hg3 => ?_)
 ·try simp only [qB, qN] at hg3
  refine Lf u44 ?_
  refine Lf u44 ?_
  refine Lo u44 (ZF (VVal.bool true) rfl rfl rfl) ?_
  refine Lm u44 ?_
  refine Lf u44 ?_
  refine Lf u44 ?_
  refine Lf u44 ?_
  refine Lf u44 ?_
  refine Lo u44 (ZF (VVal.bool true) rfl rfl rfl) ?_
  refine Zd (Zb (ZN rfl rfl ?_))
  refine Zc (Za (Lo u44 rfl ?_))
  refine Lo u44 (W13 rfl rfl rfl rfl rfl rfl rfl) ?_
  refine Lk u44 (.int .i64 1) ?_
  refine Zd (Zb (Ym (Gh.cellNilL 1 1 (es' := 1) rfl rfl) ?_))
  refine Ym (Gh.cellNilL 1 2 (es' := 1) rfl rfl) ?_
  refine Ym (Gh.cellNilL 1 3 (es' := 3) rfl rfl) ?_
  refine Zj (Zl (W8e (.inr rfl) (Qp rfl rfl rfl rfl XH21 XH7 rfl) ?_))
  exact W8f
 try simp only [qB, qN] at hg3
 refine Lm u44 ?_
 refine Lo u44 rfl ?_
 refine Lo u44 (ZY rfl rfl rfl) ?_
 refine Lm u44 ?_
 refine ZB 29 (env1 := u44) (env2 := u44) rfl rfl rfl (fun hg4 => ?_) (fun hg4 => ?_)
 ·try simp only [qB, qN] at hg4
  refine Lf u44 ?_
  refine Lf u44 ?_
  refine Lf u44 ?_
  refine Lf u44 ?_
  refine Lo u44 (ZF (VVal.bool true) rfl rfl rfl) ?_
  refine Zd (Zb (ZN rfl rfl ?_))
  refine Zc (Za (Lo u44 rfl ?_))
  refine Lo u44 (W13 rfl rfl rfl rfl rfl rfl rfl) ?_
  refine Lk u44 (.int .i64 1) ?_
  refine Zd (Zb (Ym (Gh.cellNilL 1 1 (es' := 1) rfl rfl) ?_))
  refine Ym (Gh.cellNilL 1 2 (es' := 1) rfl rfl) ?_
  refine Ym (Gh.cellNilL 1 3 (es' := 3) rfl rfl) ?_
  refine Zj (Zl (W8e (.inr rfl) (Qp rfl rfl rfl rfl XH21 XH7 rfl) ?_))
  exact W8f
 try simp only [qB, qN] at hg4
 refine Lm u44 ?_
 refine Lo u44 rfl ?_
 refine Lo u44 (W2r rfl rfl rfl rfl) ?_
 refine Lo u44 rfl ?_
 refine Lo u44 (ZY rfl rfl rfl) ?_
 refine Zd (Zb (Zi _ rfl (fun hc5 => ?_) (fun hc5 => ?_)))
 ·try simp only [qB, qN] at hc5
  refine Zc (Za (Lo u44 rfl ?_))
  refine Lo u44 (W13 rfl rfl rfl rfl rfl rfl rfl) ?_
  refine Lk u44 (.int .i64 1) ?_
  refine Zd (Zb (Ym (Gh.cellNilL 1 1 (es' := 1) rfl rfl) ?_))
  refine Ym (Gh.cellNilL 1 2 (es' := 1) rfl rfl) ?_
  refine Ym (Gh.cellNilL 1 3 (es' := 3) rfl rfl) ?_
  refine Zj (Zl (W8e (.inr rfl) (Qp rfl rfl rfl rfl XH21 XH7 rfl) ?_))
  exact W8f
 try simp only [qB, qN] at hc5
 refine Zh (Zb (Zc ?_))
 have hE : fxE p s u = 0 := fxE_ok.2 ⟨pck_good.1 (by assumption), by omega, by omega⟩
 have g := (fxE_ok.1 hE).1
 have g5 := g.fx
 have hs9 := (fxE_ok.1 hE).2.1
 refine Za (Lo u44 (W2p rfl rfl rfl rfl rfl) ?_)
 refine Zs rfl rfl rfl (by exact Twin_spec _ p hp (by omega) (by omega) (fun r hr => List.length_pos_iff.2 (Ql (g.ru r hr)).1)) ?_
 rintro _ _ ⟨Y, j, rfl, rfl, hY⟩
 refine Le u44 ?_
 refine Lo u44 (ZP rfl rfl) ?_
 refine Lo u44 (W13 rfl rfl rfl rfl rfl rfl rfl) ?_
 refine Zd (Zb (Zc (Za (Lo u44 rfl ?_))))
 refine Lo u44 (W2r rfl rfl rfl rfl) ?_
 refine Lm u44 ?_
 refine Lm u44 ?_
 refine Lo u44 (W18 rfl rfl rfl rfl rfl rfl rfl) ?_
 refine Lo u44 (W8g rfl rfl rfl rfl rfl rfl rfl) ?_
 refine Zd (Zb (Zc ?_))
 have hj := ZG hY
 refine Ym (Gh.cellL (H := H ++ [.dead, .cells _ true]) (cs := (p.fixed.set s.toNat u).map iI) (l := (p.fixed.set s.toNat u).map iI) Y.length 2 j (by rw [List.getElem?_append_right (by rw [List.length_set]; exact Nat.le_refl _), List.length_set, Nat.sub_self]; rfl) rfl (by omega) (by rw [Zn (List.getElem?_set_self hj)]; show some (VBlk.cells (Zx (p.fixed.map iI) (0 + s.toNat * 1) [iI u]) true) = _; rw [spl_I (by omega)]) (Yn (by rw [List.length_map, List.length_set])) (Nat.le_refl _)) ?_
 refine Za (Lo u44 (W8h rfl rfl rfl rfl rfl) ?_)
 refine Lo u44 (W8i rfl rfl rfl rfl rfl rfl rfl) ?_
 refine Lk u44 (.int .i64 0) ?_
 refine Zd (Zb (YS (List.append_assoc _ _ _) ?_))
 refine Zj (W8e (.inr rfl) (Qp rfl rfl rfl rfl XH21 XH7 rfl) ?_)
 exact W8f
theorem fx_good {q : Pb} {s u : Int} (h : fxE q s u = 0) : Go.V.Good (fxP q s u) := by
 obtain ⟨g, h1, h2⟩ := fxE_ok.1 h
 rw [Zcz h]
 have g5 := g.fx
 refine ⟨g.n12, g.u64, g.r32, g.u0, ?_, fun i hi => ?_, g.ru⟩
 ·show (q.fixed.set _ _).length = _; rw [List.length_set]; exact g5
 show okW q.users ((q.fixed.set s.toNat u).getD i 0) (q.who.getD i 0) = true
 have hi : i < q.who.length := hi
 have ok := okW_in g hi
 unfold okW
 rw [YJ, Bool.and_eq_true, decide_eq_true_eq, decide_eq_true_eq]
 refine ⟨?_, ok.2⟩
 split
 ·omega
 exact ok.1
theorem fx_hds {q : Pb} {s u : Int} (h : fxE q s u = 0) (hm : myB q s.toNat u = true) {us : List Int} (hd : hds (fxP q s u) us = true) : hds q us = true ∧ us.getD s.toNat 0 = u := by
 obtain ⟨g, h1, h2⟩ := fxE_ok.1 h
 have gx := fx_good h
 have g5 := g.fx
 obtain ⟨_, hl, h3, h4⟩ := hds_iff.1 hd
 have ex := Zcz h
 rw [ex] at hl h3 h4 gx
 have hl : us.length = q.who.length := hl
 have hs : s.toNat < q.who.length := by omega
 have hfx : ∀ i, i < q.who.length → i ≠ s.toNat → myB q i (us.getD i 0) = true := fun i hi hne => by
  have h5 := h3 i hi
  have hw : wrd (q.users, q.who, q.fixed.set s.toNat u, q.rules, ()) i = wrd q i := by
   have hg : (q.fixed.set s.toNat u).getD i 0 = q.fixed.getD i 0 := by rw [YJ, if_neg (fun e : i = s.toNat ∧ _ => hne e.1)]
   show (if 0 ≤ (q.fixed.set s.toNat u).getD i 0 then 1#64 <<< ((q.fixed.set s.toNat u).getD i 0).toNat else q.who.getD i 0) = _
   rw [hg]; rfl
  unfold myB at h5 ⊢
  rw [hw] at h5; exact h5
 have hus : us.getD s.toNat 0 = u := by
  have h5 := h3 s.toNat hs
  rw [myB_f gx hs (by show 0 ≤ (q.fixed.set s.toNat u).getD s.toNat 0; rw [YJ, if_pos ⟨rfl, by omega⟩]; omega), decide_eq_true_eq] at h5
  have h6 : us.getD s.toNat 0 = (q.fixed.set s.toNat u).getD s.toNat 0 := h5
  rw [h6, YJ, if_pos ⟨rfl, by omega⟩]
 refine ⟨hds_iff.2 ⟨g, hl, fun i hi => ?_, h4⟩, hus⟩
 by_cases e : i = s.toNat
 ·subst e; rw [hus]; exact hm
 exact hfx i hi e
theorem fxP_L {p : Pb} {s u : Int} (h : PbL p) : PbL (fxP p s u) := by
 by_cases e : fxE p s u = 0
 ·rw [Zcz e]
  exact ⟨h.u, h.w, by show (p.fixed.set _ _).length ≤ _; rw [List.length_set]; exact h.f, h.r, h.s⟩
 rw [fxP_no e]; exact ⟨by decide, by decide, by decide, by decide, fun r hr => by cases hr⟩
abbrev u53 {a0 a1 a2 a3 a4 a5 a6 a7 a8 a9 a10 a11 a12 a13 a14 a15 a16 a17 a18 a19 a20 a21 a22 a23 a24 a25 a26 a27 a28 a29 a30 a31 a32 a33 a34 a35 a36 a37 a38 a39 a40 a41 a42 a43 a44 a45 a46 a47 a48 a49 a50 a51 a52 : VVal} : VEnv := a0 :: a1 :: a2 :: a3 :: a4 :: a5 :: a6 :: a7 :: a8 :: a9 :: a10 :: a11 :: a12 :: a13 :: a14 :: a15 :: a16 :: a17 :: a18 :: a19 :: a20 :: a21 :: a22 :: a23 :: a24 :: a25 :: a26 :: a27 :: a28 :: a29 :: a30 :: a31 :: a32 :: a33 :: a34 :: a35 :: a36 :: a37 :: a38 :: a39 :: a40 :: a41 :: a42 :: a43 :: a44 :: a45 :: a46 :: a47 :: a48 :: a49 :: a50 :: a51 :: a52 :: []
theorem W8j {T : TypeId → Option VTy} {H : Ze} {op : Op} {ρ : Operand → VVal} {t : TypeId} {a : Operand} {y : VTy} {p : VVal} {n : Nat} {vs : List VVal} (ho : op = .load t a) (ha : ρ a = p) (hy : T t = some y) (hd : Zk y.desc = true) (hn : y.size = n) (h : XF H p n vs := by first | exact .inl ⟨_, _, rfl, XH43⟩ | exact .inr ⟨_, _, _, _, rfl, XH35, XH43⟩) : vop T ρ H op = some (.agg vs, H) := XI ho ha hy hd hn h
theorem W8k {S : V.Sys} {H : Ze} {fn : Func} {ex : Exit} {env : VEnv} {B L : Ze} {v : VVal} {R : VVal → Ze → Prop} (hx : ex = .normal ∨ ex = .ret) (hv : ZX S.C.T env (B ++ L) fn.results = some v) (h : R v B) (hB : BaseOk H B := by exact XH41) (hu : v.under H.length = true := by first | rfl | exact Yu _ _) : fnK S fn H R ex env (B ++ L) := Xk hx hv hB hu h
theorem W8l {P : Prop} (h : P := by first | exact ⟨by rw [liA_no (by assumption)]; rfl, rfl⟩ | exact ⟨by rw [← flK_all h0]; show _ = VVal.fsl _ (flK p p.who.length 0).length 1 false; rw [Yx]; rfl, rfl⟩) : P := h
theorem W8m {T : TypeId → Option VTy} {H : Ze} {op : Op} {ρ : Operand → VVal} {t : TypeId} {a : Operand} {y : VTy} {p v : VVal} (ho : op = .load t a) (ha : ρ a = p) (hy : T t = some y) (hd : Zk y.desc = false) (h : LdOk H p v := by first | exact .inl ⟨_, _, rfl, XH43⟩ | exact .inr ⟨_, _, _, _, rfl, XH35, XH43⟩) : vop T ρ H op = some (v, H) := Yv ho ha hy hd h
theorem W8p {T : TypeId → Option VTy} {H : Ze} {op : Op} {ρ : Operand → VVal} {t : TypeId} {a : Operand} {y : VTy} {p v : VVal} (ho : op = .load t a) (ha : ρ a = p) (hy : T t = some y) (hd : Zk y.desc = false) (h : LdOk H p v := by first | exact .inl ⟨_, _, rfl, XH43⟩ | exact .inr ⟨_, _, _, _, rfl, by exact ZcR rfl rfl, XH43⟩) : vop T ρ H op = some (v, H) := Yv ho ha hy hd h
theorem W8q {T : TypeId → Option VTy} {H : Ze} {op : Op} {ρ : VEnv} {H' : Ze} {t : TypeId} {a : Operand} {i : Nat} {v : VVal} {y : VTy} {b off : Nat} {cs new : List VVal} (ho : op = .store t a (.tmp i)) (hv : ρ[i]? = some v) (ha : ρ.eval a = .ptr (some (b, off))) (hy : T t = some y) (hx : v.cells = some new) (hn : new.length = y.size) (h1 : new.all VVal.one = true) (hb : H[b]? = some (.cells cs true) := by exact ZcR rfl rfl) (hl : off + new.length ≤ cs.length := by show 0 + ((i : Nat) : Int).toNat * 1 + 1 ≤ _; rw [List.length_map, Yx]; omega) (hH : H.set b (.cells (Zx cs off new) true) = H' := by exact (setB rfl (show 1 < 2 by decide)).trans (congrArg (fun z => (H ++ [VBlk.dead, VBlk.cells z true]) ++ _) (flK_st (by omega) (by unfold cLi; simp_all)))) : vop T ρ.eval H op = some (.skip, H') := Z3 ho hv ha hy hx hn h1 hb hl hH
theorem fx_hds_rev {q : Pb} {s u : Int} (h : fxE q s u = 0) {us : List Int} (hd : hds q us = true) (hu : us.getD s.toNat 0 = u) : hds (fxP q s u) us = true := by
 obtain ⟨g, h1, h2⟩ := fxE_ok.1 h
 have gx := fx_good h
 have g5 := g.fx
 obtain ⟨_, hl, h3, h4⟩ := hds_iff.1 hd
 have ex := Zcz h
 rw [ex] at gx ⊢
 have hs : s.toNat < q.who.length := by omega
 refine hds_iff.2 ⟨gx, hl, fun i hi => ?_, h4⟩
 have hi : i < q.who.length := hi
 by_cases e : i = s.toNat
 ·subst e
  rw [myB_f gx hs (by show 0 ≤ (q.fixed.set s.toNat u).getD s.toNat 0; rw [YJ, if_pos ⟨rfl, by omega⟩]; omega), decide_eq_true_eq]
  show us.getD s.toNat 0 = (q.fixed.set s.toNat u).getD s.toNat 0
  rw [YJ, if_pos ⟨rfl, by omega⟩]; exact hu
 have hw : wrd (q.users, q.who, q.fixed.set s.toNat u, q.rules, ()) i = wrd q i := by
  have hg : (q.fixed.set s.toNat u).getD i 0 = q.fixed.getD i 0 := by rw [YJ, if_neg (fun e2 : i = s.toNat ∧ _ => e e2.1)]
  show (if 0 ≤ (q.fixed.set s.toNat u).getD i 0 then 1#64 <<< ((q.fixed.set s.toNat u).getD i 0).toNat else q.who.getD i 0) = _
  rw [hg]; rfl
 have h5 := h3 i hi
 unfold myB at h5 ⊢
 rw [hw]; exact h5
theorem myB_in' {p : Pb} {i : Nat} {u : Int} (g : Go.V.Good p) (hi : i < p.who.length) (h : myB p i u = true) : 0 ≤ u ∧ u < p.users := by
 have ok := (okW_in g hi).1
 by_cases h0 : 0 ≤ p.fixed.getD i 0
 ·rw [myB_f g hi h0, decide_eq_true_eq] at h; omega
 rw [myB_w g hi (by omega), Bool.and_eq_true, decide_eq_true_eq] at h; exact h.1
def cLi (p : Pb) (j v : Nat) : Bool := myB p j (v : Nat) && (leA (fxP p (j : Nat) (v : Nat))).isSome
theorem cLi_iff {p : Pb} {j v : Nat} (g : Go.V.Good p) (hj : j < p.who.length) (hv : (v : Int) < p.users) : cLi p j v = true ↔ ∃ ns : List Nat, hds p (zI ns) = true ∧ ns.getD j 0 = v := by
 have hE : fxE p (j : Nat) (v : Nat) = 0 := fxE_ok.2 ⟨g, by omega, by omega⟩
 unfold cLi
 rw [Bool.and_eq_true]
 constructor
 ·rintro ⟨h1, h2⟩
  obtain ⟨l, hl⟩ := Option.isSome_iff_exists.1 h2
  obtain ⟨h3, h4⟩ := fx_hds hE (by rw [Int.toNat_natCast]; exact h1) (leA_some hl)
  refine ⟨l, h3, ?_⟩
  rw [Int.toNat_natCast] at h4
  have hl2 : j < l.length := by have := (hds_iff.1 h3).2.1; rw [Zbh] at this; omega
  rw [Zcv hl2] at h4
  omega
 rintro ⟨ns, h1, h2⟩
 have hl2 : j < ns.length := by have := (hds_iff.1 h1).2.1; rw [Zbh] at this; omega
 have hz : (zI ns).getD j 0 = (v : Int) := by rw [Zcv hl2, h2]
 refine ⟨by have := (hds_iff.1 h1).2.2.1 j hj; rwa [hz] at this, leA_can (fx_hds_rev hE h1 (by rw [Int.toNat_natCast]; exact hz))⟩
theorem ptP_iff {p : Pb} {a : List Nat} (h : pck p = 0) : a ∈ ptP p ↔ Pat a ∧ a.length = p.who.length ∧ Mat (Z6 (wsP p) a a.length) ∧ ∀ r, r ∈ p.rules → erl r p.who.length (zI a) = true := by
 have g := pck_good.1 h
 have hr : ∀ r, r ∈ p.rules → rck (wsP p).length r = true := fun r hr => by rw [ZT]; exact g.ru r hr
 constructor
 ·intro ha
  obtain ⟨_, h1, h2, _, h3⟩ := Qb ha
  have hk := Je (ws := wsP p) (rs := p.rules) h1 (by rw [ZT]; exact h2) hr
  have h4 : XD (kpB (wsP p) (addR (wsP p).length p.rules p.rules.length)) 0 a = true := by rw [ZT]; exact h3
  have h5 := hk.1 h4
  rw [ZT] at h5
  exact ⟨h1, h2, h5⟩
 rintro ⟨h1, h2, h3, h4⟩
 have hk := Je (ws := wsP p) (rs := p.rules) h1 (by rw [ZT]; exact h2) hr
 have h5 := hk.2 ⟨h3, by rw [ZT]; exact h4⟩
 unfold ptP
 rw [if_pos h, ptT_snd, List.mem_filter]
 refine ⟨?_, ?_⟩
 ·have := Zcd (m := (wsP p).length) (row := []) h1 (by rw [ZT]; simpa using h2) rfl
  exact this
 rw [ZT] at h5; exact h5
theorem live_iff {p : Pb} {j v : Nat} (h : pck p = 0) (hj : j < p.who.length) : (∃ a, a ∈ ptP p ∧ (frW (Z6 (wsP p) a a.length) (a.getD j 0)).getLsbD v = true) ↔ ∃ ns : List Nat, hds p (zI ns) = true ∧ ns.getD j 0 = v := by
 have g := pck_good.1 h
 constructor
 ·rintro ⟨a, ha, hb⟩
  obtain ⟨h1, h2, h3, h4⟩ := (ptP_iff h).1 ha
  have hlt := Pat.lt h1 (Nat.le_refl a.length) (i := j) (by omega)
  obtain ⟨us, h5, h6⟩ := (frW_mat (by rw [YB]; exact hlt)).1 hb
  refine ⟨plN a us, hds_plan.2 ⟨g, plan_of h1 (by rw [ZT]; exact h2) h5 (fun r hr => by rw [ZT]; exact h4 r hr)⟩, ?_⟩
  rw [plN_get (by omega), h6]
 rintro ⟨ns, h1, h2⟩
 obtain ⟨_, hp⟩ := hds_plan.1 h1
 obtain ⟨q1, q2, q3, q4⟩ := of_plan hp
 have q5 := @ptK_pl ns
 have hlt := Pat.lt q1 (Nat.le_refl _) (i := j) (by rw [q2, ZT]; exact hj)
 refine ⟨(ptK ns ns.length).1, (ptP_iff h).2 ⟨q1, by rw [q2, ZT], ⟨_, q3⟩, fun r hr => by have := q4 r hr; rwa [ZT] at this⟩, ?_⟩
 refine (frW_mat (by rw [YB]; exact hlt)).2 ⟨_, q3, ?_⟩
 rw [← plN_get (by rw [q2, ZT]; exact hj), q5, h2]
def flK (p : Pb) (i u : Nat) : List (BitVec 64) := (List.range p.who.length).map fun j => if j < i then wdP (cLi p j) p.users.toNat else if j = i then wdP (cLi p j) u else 0#64
theorem Yx {p : Pb} {i u : Nat} : (flK p i u).length = p.who.length := by unfold flK; simp
theorem XN {p : Pb} {i u j : Nat} (h : j < p.who.length) : (flK p i u).getD j 0 = if j < i then wdP (cLi p j) p.users.toNat else if j = i then wdP (cLi p j) u else 0#64 := by
 unfold flK; simp [List.getD_eq_getElem?_getD, h]
theorem flK_0 {p : Pb} : flK p 0 0 = List.replicate p.who.length 0#64 := by
 apply List.ext_getElem (by rw [Yx, List.length_replicate])
 intro i h1 h2
 have h3 : i < p.who.length := by rw [Yx] at h1; exact h1
 simp [flK, wdP_0]
theorem flK_next {p : Pb} {i : Nat} : flK p i p.users.toNat = flK p (i + 1) 0 := by
 refine YW (by rw [Yx, Yx]) fun j hj => ?_
 rw [Yx] at hj
 rw [XN hj, XN hj]
 by_cases h1 : j < i
 ·rw [if_pos h1, if_pos (by omega)]
 rw [if_neg h1]
 by_cases h2 : j = i
 ·rw [if_pos h2, if_pos (by omega)]
 rw [if_neg h2, if_neg (by omega)]
 split
 ·rw [wdP_0]
 rfl
theorem flK_st {p : Pb} {i u : Nat} (hi : i < p.who.length) (h : cLi p i u = true) : Zx ((flK p i u).map iW) (0 + ((i : Nat) : Int).toNat * 1) [iW ((flK p i u).getD ((i : Nat) : Int).toNat 0 ||| 1#64 <<< u)] = (flK p i (u + 1)).map iW := by
 rw [Int.toNat_natCast, spl_W (by rw [Yx]; exact hi)]
 congr 1
 refine YW (by rw [List.length_set, Yx, Yx]) fun j hj => ?_
 rw [List.length_set, Yx] at hj
 by_cases e : j = i
 ·subst e
  rw [show ((flK p j u).set j ((flK p j u).getD j 0 ||| 1#64 <<< u)).getD j 0 = (flK p j u).getD j 0 ||| 1#64 <<< u by simp [List.getD_eq_getElem?_getD, Yx, hj], XN hj, XN hj, if_neg (by omega), if_pos rfl, if_neg (by omega), if_pos rfl, wdP_yes h]
 rw [show ((flK p i u).set i ((flK p i u).getD i 0 ||| 1#64 <<< u)).getD j 0 = (flK p i u).getD j 0 by simp [List.getD_eq_getElem?_getD, List.getElem?_set, Ne.symm e], XN hj, XN hj]
 by_cases h1 : j < i
 ·rw [if_pos h1, if_pos h1]
 rw [if_neg h1, if_neg h1, if_neg e, if_neg e]
theorem flK_no {p : Pb} {i u : Nat} (h : cLi p i u = false) : flK p i u = flK p i (u + 1) := by
 refine YW (by rw [Yx, Yx]) fun j hj => ?_
 rw [Yx] at hj
 rw [XN hj, XN hj]
 by_cases h1 : j < i
 ·rw [if_pos h1, if_pos h1]
 rw [if_neg h1, if_neg h1]
 by_cases e : j = i
 ·subst e; rw [if_pos rfl, if_pos rfl, wdP_no h]
 rw [if_neg e, if_neg e]
theorem flK_all {p : Pb} (h : pck p = 0) : flK p p.who.length 0 = liA p := by
 have g := pck_good.1 h
 have g2 := g.u64; have g4 := g.u0
 refine YW (by rw [Yx, ZbD h]) fun j hj => ?_
 rw [Yx] at hj
 rw [XN hj, if_pos hj, liA_in h]
 apply BitVec.eq_of_getLsbD_eq
 intro v hv
 rw [Zbw hv, Bool.eq_iff_iff, liF_bit (by rw [ZT]; exact hj) (by rw [List.length_replicate, ZT]) (fun a ha => by have := Qb ha; rw [ZT]; exact ⟨this.2.1, this.2.2.1⟩) (fun e => by simp [List.getD_eq_getElem?_getD, hj] at e)]
 rw [live_iff h hj, Bool.and_eq_true, decide_eq_true_eq]
 constructor
 ·rintro ⟨h1, h2⟩
  exact .inr ((cLi_iff g hj (by omega)).1 h2)
 rintro (h1 | ⟨ns, h1, h2⟩)
 ·simp [List.getD_eq_getElem?_getD, hj] at h1
 have hl2 : j < ns.length := by have := (hds_iff.1 h1).2.1; rw [Zbh] at this; omega
 have hm := (hds_iff.1 h1).2.2.1 j hj
 have hb : (v : Int) < p.users := by
  have := (myB_in' g hj hm).2
  rw [Zcv hl2, h2] at this; exact this
 exact ⟨by omega, (cLi_iff g hj hb).2 ⟨ns, h1, h2⟩⟩
theorem fLive_spec {x : SW} (H : Ze) (p : Pb) (hp : PbL p) : F (psys x) 29 [.agg (pbB p)] H fun v G => v = fzW (liA p) ∧ G = H := by
 refine Zp Tryd.func29 rfl u53 rfl ?_
 refine Zc (Za (Lo u53 (ZJ rfl rfl rfl) ?_))
 refine Lk u53 (.slice none 0 0 true 0) ?_
 refine Zd (Zb (Zc (Zc (Ym (Gh.freezePtrL (cs := pbB p) 1 0 rfl rfl rfl) ?_))))
 refine Za (Lo u53 (W8j rfl rfl rfl rfl rfl) ?_)
 refine Zs rfl rfl rfl (by exact QE _ p hp) ?_
 rintro _ _ ⟨rfl, rfl⟩
 refine Le u53 ?_
 refine Lo u53 rfl ?_
 refine Zd (Zb (Zi _ rfl (fun hc1 => ?_) (fun hc1 => ?_)))
 ·try simp only [qB, qN] at hc1
  refine Zc (Za (Lk u53 (.slice none 0 0 true 0) ?_))
  refine Zd (Zb (Ym (Gh.freezeNil 2 (es' := 1) rfl rfl) ?_))
  refine Zj (Zl (W8k (.inr rfl) (Zf rfl rfl) ?_))
  exact W8l
 try simp only [qB, qN] at hc1
 refine Zh (Zb (Zc ?_))
 have h0 : pck p = 0 := by assumption
 have g := pck_good.1 h0
 have g1 := g.n12; have g5 := g.fx; have g2 := g.u64; have g4 := g.u0
 refine Za (Lo u53 rfl ?_)
 refine Lo u53 (W8m rfl rfl rfl rfl) ?_
 refine Lo u53 rfl ?_
 refine Lo u53 (Yz rfl rfl rfl rfl rfl (by decide) ⟨by omega, Int.le_refl _, by show (p.who.length : Int) * (8 : Nat) ≤ _; omega, by omega⟩) ?_
 refine La u53 ?_
 refine Zd (Zb (Zc (Zc (YS (H' := (H ++ [.dead, .cells ((flK p 0 0).map iW) true]) ++ []) (by rw [flK_0, ← MM.rep_w, List.append_nil]; rfl) ?_))))
 refine Za (Lk u53 (.int .i64 0) ?_)
 refine Zd (Zb (Zg (Zr (mk 53 9007199254740965) (env' := u53) rfl ?_)))
 refine Zw (fun (i : Nat) => p.who.length - i) (fun (i : Nat) => [(4, iI (i : Nat))]) (fun (i : Nat) G => (i ≤ p.who.length) ∧ ∃ X, G = (H ++ [.dead, .cells ((flK p i 0).map iW) true]) ++ X) 0 rfl ?_ ?_
 ·refine ⟨?_, ⟨[], rfl⟩⟩
  exact Nat.zero_le _
 rintro i _ ⟨hi, ⟨X, rfl⟩⟩
 refine ZL (env' := u53) rfl ?_
 refine Zc (Zc (Za (Lm u53 ?_)))
 refine Lm u53 ?_
 refine Lo u53 rfl ?_
 refine Lo u53 rfl ?_
 refine Zd (Zb (Zi _ rfl (fun hc2 => ?_) (fun hc2 => ?_)))
 ·try simp only [qB, qN] at hc2
  refine Zh (Zb (Zc (Zg (Zc (Za (Lk u53 (.int .i64 0) ?_))))))
  refine Zd (Zb (Zg (Zr (mk 53 9007199254740933) (env' := u53) rfl ?_)))
  refine Zw (fun (u : Nat) => p.users.toNat - u) (fun (u : Nat) => [(5, iI (u : Nat))]) (fun (u : Nat) G => (u ≤ p.users.toNat) ∧ ∃ X, G = (H ++ [.dead, .cells ((flK p i u).map iW) true]) ++ X) 0 rfl ?_ ?_
  ·refine ⟨?_, ⟨_, rfl⟩⟩
   exact Nat.zero_le _
  rintro u _ ⟨hu, ⟨X, rfl⟩⟩
  refine ZL (env' := u53) rfl ?_
  refine Zc (Zc (Za (Lm u53 ?_)))
  refine Lo u53 rfl ?_
  refine Lo u53 (W8m rfl rfl rfl rfl) ?_
  refine Lo u53 rfl ?_
  refine Zd (Zb (Zi _ rfl (fun hc3 => ?_) (fun hc3 => ?_)))
  ·try simp only [qB, qN] at hc3
   refine Zh (Zb (Zc (Zg (Zc (Za (Lo u53 (W8j rfl rfl rfl rfl rfl) ?_))))))
   refine Lm u53 ?_
   refine Lm u53 ?_
   refine Zs rfl rfl rfl (by exact fFix_spec _ p (i : Nat) (u : Nat) hp) ?_
   rintro _ _ ⟨rfl, rfl⟩
   refine Le u53 ?_
   refine Lm u53 ?_
   refine Lo u53 rfl ?_
   refine Lo u53 rfl ?_
   refine Lo u53 (ZP rfl rfl) ?_
   refine Lo u53 (W13 rfl rfl rfl rfl rfl rfl rfl) ?_
   refine La u53 ?_
   refine Zd (Zb (Zc (Za (Lo u53 (W8j rfl rfl rfl rfl rfl) ?_))))
   refine Lm u53 ?_
   refine Lm u53 ?_
   refine Zs rfl rfl rfl (by exact May_spec _ p g i (by omega) (u : Nat)) ?_
   rintro _ _ ⟨rfl, rfl⟩
   refine Le u53 ?_
   refine Lm u53 ?_
   refine ZB 38 (env1 := u53) (env2 := u53) rfl rfl rfl (fun hg4 => ?_) (fun hg4 => ?_)
   rotate_left
   ·try simp only [qB, qN] at hg4
    refine Lf u53 ?_
    refine Lf u53 ?_
    refine Lo u53 (ZC (VVal.bool false) rfl rfl rfl) ?_
    refine Zd (Zb (Yc rfl rfl ?_))
    refine Zh (Zq (Zb (Za (Lm u53 ?_))))
    refine Lo u53 (W14 rfl rfl rfl) ?_
    refine La u53 ?_
    refine Zd (Zt (mk 53 9007199254740933) (env' := u53) rfl ⟨u + 1, ?_, rfl, ?_⟩)
    ·first | omega | (simp only []; omega)
    first | exact ⟨by omega, _, rfl⟩ | exact ⟨by omega, _, by rw [flK_no (by unfold cLi; simp_all)]⟩
   try simp only [qB, qN] at hg4
   refine Lo u53 (W8j rfl rfl rfl rfl rfl) ?_
   refine Zs rfl rfl rfl (by exact fCan_spec _ (fxP p (i : Nat) (u : Nat)) (fxP_L hp)) ?_
   rintro _ _ ⟨rfl, rfl⟩
   refine Le u53 ?_
   refine Lo u53 (ZM rfl rfl rfl) ?_
   refine Zd (Zb (Zi _ rfl (fun hc5 => ?_) (fun hc5 => ?_)))
   ·try simp only [qB, qN] at hc5
    refine ZK [0, 1, 2, 3, 4, 5, 6, 7, 8, 9, 10] #[0, 0, 0, 0, 12, 28, 0, 64, 252, 511, 1023] XH3 XH3 XH3 ?_
    refine Om u53 ?_
    refine Om u53 ?_
    refine Om u53 ?_
    refine Om u53 ?_
    refine Oc u53 rfl (W7l rfl rfl rfl rfl rfl rfl rfl) ?_
    refine Ok u53 rfl (W8p rfl rfl rfl rfl) ?_
    refine Om u53 ?_
    refine Oc u53 rfl (Qh rfl rfl rfl XH4) ?_
    refine Oc u53 rfl (ZcG rfl rfl rfl) ?_
    refine Oc u53 rfl (W7l rfl rfl rfl rfl rfl rfl rfl) ?_
    refine Oo u53 .turn rfl (W8q rfl rfl rfl rfl rfl rfl rfl) ?_
    refine ZW [] XH3 (trivial) ?_
    refine Zq (Zb (Za (Lm u53 ?_)))
    refine Lo u53 (W14 rfl rfl rfl) ?_
    refine La u53 ?_
    refine Zd (Zt (mk 53 9007199254740933) (env' := u53) rfl ⟨u + 1, ?_, rfl, ?_⟩)
    ·first | omega | (simp only []; omega)
    first | exact ⟨by omega, _, rfl⟩ | exact ⟨by omega, _, by rw [flK_no (by unfold cLi; simp_all)]⟩
   try simp only [qB, qN] at hc5
   refine Zh (Zq (Zb (Za (Lm u53 ?_))))
   refine Lo u53 (W14 rfl rfl rfl) ?_
   refine La u53 ?_
   refine Zd (Zt (mk 53 9007199254740933) (env' := u53) rfl ⟨u + 1, ?_, rfl, ?_⟩)
   ·first | omega | (simp only []; omega)
   first | exact ⟨by omega, _, rfl⟩ | exact ⟨by omega, _, by rw [flK_no (by unfold cLi; simp_all)]⟩
  try simp only [qB, qN] at hc3
  refine Zz (ZA (Zu (Zy (Zq (Zb (Za (Lm u53 ?_)))))))
  refine Lo u53 (W14 rfl rfl rfl) ?_
  refine La u53 ?_
  refine Zd ?_
  obtain rfl : u = p.users.toNat := by omega
  refine Zt (mk 53 9007199254740965) (env' := u53) rfl ⟨i + 1, ?_, rfl, ?_⟩
  ·first | omega | (simp only []; omega)
  exact ⟨by omega, _, by rw [flK_next]⟩
 try simp only [qB, qN] at hc2
 refine Zz (ZA (Zu (Zy (Zb (Zc (Za (Lm u53 ?_)))))))
 refine La u53 ?_
 refine Zd (Zb ?_)
 obtain rfl : i = p.who.length := by omega
 refine YS (List.append_assoc _ _ _) ?_
 refine Ym (Gh.freezeL (l := (flK p p.who.length 0).map iW) 2 1 rfl rfl (Yn (by simp [Yx])) (Nat.le_refl _) rfl) ?_
 refine Zj (W8k (.inr rfl) (Zf rfl rfl) ?_)
 exact W8l
abbrev u14 {a0 a1 a2 a3 a4 a5 a6 a7 a8 a9 a10 a11 a12 a13 : VVal} : VEnv := a0 :: a1 :: a2 :: a3 :: a4 :: a5 :: a6 :: a7 :: a8 :: a9 :: a10 :: a11 :: a12 :: a13 :: []
theorem W8w {T : TypeId → Option VTy} {H : Ze} {op : Op} {ρ : Operand → VVal} {t : TypeId} {a : Operand} {y : VTy} {p v : VVal} (ho : op = .load t a) (ha : ρ a = p) (hy : T t = some y) (hd : Zk y.desc = false) (h : LdOk H p v := by first | exact .inl ⟨_, _, rfl, by exact mx0 hp h0⟩ | exact .inr ⟨_, _, _, _, rfl, XH35, by exact mx0 hp h0⟩) : vop T ρ H op = some (v, H) := Yv ho ha hy hd h
theorem szP_max {a : List Nat} (hp : Pat a) {k : Nat} (h : k < a.length) : szP a (k + 1) = max (szP a k) (a.getD k 0 + 1) := by
 have := hp k h
 rw [szP]; split <;> omega
theorem mx0 {a : List Nat} (hp : Pat a) (h0 : 0 < a.length) : (a.map fun n : Nat => iI (n : Int))[(0 : Int).toNat * 1]? = some (iI ((szP a 1 : Nat) - 1 : Int)) := by
 have h := Jj (f := fun n : Nat => iI (n : Int)) (l := a) (n := 0) 0 (by omega)
 have h1 := szP_max hp h0
 have h2 := hp 0 h0
 rw [h]
 congr 2
 show ((a.getD 0 0 : Nat) : Int) = _
 rw [h1]
 have : szP a 0 = 0 := rfl
 omega
theorem pLegal_spec {x : SW} (H : Ze) (a : List Nat) (hp : Pat a) (hl : a.length ≤ 25) : F (psys x) 128 [fzN a] H fun v G => v = .bool true ∧ G = H := by
 refine Zp Tryd.func128 rfl u27 rfl ?_
 refine Zc (Za (Lk u27 (.bool false) ?_))
 refine Zd (Zb (Zc (Zc (Za (Lm u27 ?_)))))
 refine Lo u27 rfl ?_
 refine Lo u27 (QA false rfl (by simp; omega)) ?_
 refine Zd (Zb (Yc rfl rfl ?_))
 refine Zh (Zb (Zc (Za (Lk u27 (.int .i64 0) ?_))))
 refine Zd (Zb (Zc (Zc (Za (Lm u27 ?_)))))
 refine Lo u27 rfl ?_
 refine Lo u27 (Z4 (VVal.int .i64 0) (.inl rfl) rfl) ?_
 refine Zd (Zb (Zg (Zr (mk 27 134214135) (env' := u27) rfl ?_)))
 refine Zw (fun (k : Nat) => a.length - k) (fun (k : Nat) => [(3, iI (szP a k : Nat)), (11, iI (k : Nat))]) (fun (k : Nat) G => (k ≤ a.length) ∧ G = H ++ []) 0 rfl ?_ ?_
 ·refine ⟨?_, rfl⟩
  exact Nat.zero_le _
 rintro k _ ⟨hk, rfl⟩
 refine ZL (env' := u27) rfl ?_
 refine Zc (Za (Lo u27 rfl ?_))
 refine Zd (Zb (Zc (Zi _ rfl (fun hc1 => ?_) (fun hc1 => ?_))))
 ·try simp only [qB, qN] at hc1
  refine Zh (Zb (Zc (Zg (Zc (Za (Lo u27 (W18 rfl rfl rfl rfl rfl rfl rfl) ?_))))))
  refine Lo u27 (W6k rfl rfl rfl rfl) ?_
  refine La u27 ?_
  refine Zd (Zb (Zc (Zc ?_)))
  have hpk := hp k (by omega)
  have hsz := @YH a k
  have hE := szP_max hp (k := k) (by omega)
  refine Za (Lm u27 ?_)
  refine Lo u27 (QA false rfl (by simp)) ?_
  refine Lm u27 ?_
  refine Lm u27 ?_
  refine Lm u27 ?_
  refine Lo u27 (QA false rfl (decide_eq_false (by omega))) ?_
  refine Lo u27 (ZY rfl rfl rfl) ?_
  refine Zd (Zb (Yc rfl rfl ?_))
  refine Zh (Zb (Za (Lm u27 ?_)))
  refine Lm u27 ?_
  refine Lo u27 (W14 rfl rfl rfl) ?_
  refine Lo u27 (Xg (u := iI (szP a (k + 1) : Nat)) rfl (congrArg iI (show (if (((a.getD k 0 : Nat) : Int) + 1) > ((szP a k : Nat) : Int) then (((a.getD k 0 : Nat) : Int) + 1) else ((szP a k : Nat) : Int)) = ((szP a (k + 1) : Nat) : Int) by split <;> omega))) ?_
  refine La u27 ?_
  refine Zd (Zq (Zb (Za (Lo u27 (W14 rfl rfl rfl) ?_))))
  refine Lm u27 ?_
  refine Zd (Zt (mk 27 134214135) (env' := u27) rfl ⟨k + 1, ?_, rfl, ?_⟩)
  ·first | omega | (simp only []; omega)
  exact ⟨by omega, rfl⟩
 try simp only [qB, qN] at hc1
 refine Zz (ZA (Zu (Zy (Zb (Zc (Za (Lk u27 (.bool true) ?_)))))))
 refine Zd (Zb (Zj (W10 (.inr rfl) (Zf rfl rfl) ?_)))
 exact ⟨rfl, rfl⟩
theorem sMax_spec {x : SW} (H : Ze) (a : List Nat) (hp : Pat a) (h0 : 0 < a.length) (hl : a.length ≤ 25) : F (psys x) 129 [fzN a] H fun v G => v = iI ((szP a a.length : Nat) - 1 : Int) ∧ G = H := by
 refine Zp Tryd.func129 rfl u25 rfl ?_
 refine Zc (Za (Lk u25 (.int .i64 0) ?_))
 refine Zd (Zb (Zc (Zc (Za (Lm u25 ?_)))))
 refine Lo u25 rfl ?_
 refine Lo u25 (QA false rfl (decide_eq_false (by omega))) ?_
 refine Zd (Zb (Yc rfl rfl ?_))
 refine Zh (Zb (Zc (Za (Lm u25 ?_))))
 refine Lo u25 (W18 rfl rfl rfl rfl rfl rfl rfl) ?_
 refine Lo u25 (W8w rfl rfl rfl rfl) ?_
 refine La u25 ?_
 refine Zd (Zb (Zc (Zc (Za (Lk u25 (.int .i64 1) ?_)))))
 refine Zd (Zb (Zg (Zr (mk 25 33554406) (env' := u25) rfl ?_)))
 refine Zw (fun (i : Nat) => a.length - i) (fun (i : Nat) => [(3, iI ((szP a i : Nat) - 1 : Int)), (4, iI (i : Nat))]) (fun (i : Nat) G => (1 ≤ i ∧ i ≤ a.length) ∧ G = H ++ []) 1 rfl ?_ ?_
 ·refine ⟨?_, rfl⟩
  exact ⟨Nat.le_refl _, h0⟩
 rintro i _ ⟨⟨hi1, hi⟩, rfl⟩
 refine ZL (env' := u25) rfl ?_
 refine Zc (Zc (Za (Lm u25 ?_)))
 refine Lm u25 ?_
 refine Lo u25 rfl ?_
 refine Lo u25 rfl ?_
 refine Zd (Zb (Zi _ rfl (fun hc1 => ?_) (fun hc1 => ?_)))
 ·try simp only [qB, qN] at hc1
  refine Zh (Zb (Zc (Zg ?_)))
  have hpk := hp i (by omega)
  have hsz := @YH a i
  have hE := szP_max hp (k := i) (by omega)
  refine Za (Lm u25 ?_)
  refine Lm u25 ?_
  refine Lm u25 ?_
  refine Lo u25 (W18 rfl rfl rfl rfl rfl rfl rfl) ?_
  refine Lo u25 (W6k rfl rfl rfl rfl) ?_
  refine Lo u25 (Xg (u := iI ((szP a (i + 1) : Nat) - 1 : Int)) rfl (congrArg iI (show (if ((a.getD i 0 : Nat) : Int) > ((szP a i : Nat) : Int) - 1 then ((a.getD i 0 : Nat) : Int) else ((szP a i : Nat) : Int) - 1) = ((szP a (i + 1) : Nat) : Int) - 1 by split <;> omega))) ?_
  refine La u25 ?_
  refine Zd (Zq (Zb (Za (Lm u25 ?_))))
  refine Lo u25 (W14 rfl rfl rfl) ?_
  refine La u25 ?_
  refine Zd (Zt (mk 25 33554406) (env' := u25) rfl ⟨i + 1, ?_, rfl, ?_⟩)
  ·first | omega | (simp only []; omega)
  exact ⟨⟨by omega, by omega⟩, rfl⟩
 try simp only [qB, qN] at hc1
 refine Zz (ZA (Zu (Zy (Zb (Zc (Za (Lm u25 ?_)))))))
 refine La u25 ?_
 refine Zd (Zb (Zj (W10 (.inr rfl) (Zf rfl rfl) ?_)))
 obtain rfl : i = a.length := by omega
 exact ⟨rfl, rfl⟩
theorem JW {x : SW} (H : Ze) (a : List Nat) (hp : Pat a) (hl : a.length ≤ 25) : F (psys x) 87 [fzN a] H fun v G => v = iI (szP a a.length : Nat) ∧ G = H := by
 have hsz := @YH a a.length
 refine Zp Tryd.func87 rfl u14 rfl ?_
 refine Zc (Za (Lk u14 (.int .i64 0) ?_))
 refine Zd (Zb (Zc (Zc (Za (Lm u14 ?_)))))
 refine Zs rfl rfl rfl (by exact pLegal_spec _ _ (by assumption) (by omega)) ?_
 rintro _ _ ⟨rfl, rfl⟩
 refine Le u14 ?_
 refine Lo u14 (QA false rfl rfl) ?_
 refine Lm u14 ?_
 refine Lm u14 ?_
 refine Lo u14 rfl ?_
 refine Lo u14 rfl ?_
 refine Lo u14 (ZY rfl rfl rfl) ?_
 refine Zd (Zb (Zi _ rfl (fun hc1 => ?_) (fun hc1 => ?_)))
 ·try simp only [qB, qN] at hc1
  refine Zc (Za (Lk u14 (.int .i64 0) ?_))
  refine Zd (Zb (Zj (Zl (W10 (.inr rfl) (Zf rfl rfl) ?_))))
  exact ⟨congrArg iI (by omega), rfl⟩
 try simp only [qB, qN] at hc1
 refine Zh (Zb (Zc (Za (Lm u14 ?_))))
 refine Zs rfl rfl rfl (by exact sMax_spec _ _ (by assumption) (by omega) (by omega)) ?_
 rintro _ _ ⟨rfl, rfl⟩
 refine Le u14 ?_
 refine Lo u14 (W14 rfl rfl rfl) ?_
 refine La u14 ?_
 refine Zd (Zb (Zj (W10 (.inr rfl) (Zf rfl rfl) ?_)))
 exact ⟨congrArg iI (by omega), rfl⟩
abbrev SzS : Type := Nat × Nat × Bool
def szN1 (s : SzS) (n : Nat) : SzS := (min (if s.2.2 = true then s.1 else n) n, max s.2.1 n, true)
def szA (l : List (List Nat)) : SzS := l.foldl (fun s a => szN1 s (szP a a.length)) (0, 0, false)
theorem szA_snoc {l : List (List Nat)} {a : List Nat} : szA (l ++ [a]) = szN1 (szA l) (szP a a.length) := by unfold szA; rw [List.foldl_append]; rfl
theorem tSizes_spec {x : SW} (H : Ze) (p : Pb) (hp : PbL p) : F (psys x) 46 [.agg (pbB p)] H fun v G => v = .tuple [iI ((szA (ptP p)).1 : Nat), iI ((szA (ptP p)).2.1 : Nat), .bool (szA (ptP p)).2.2] ∧ G = H := by
 refine Zp Tryd.func46 rfl u25 rfl ?_
 refine Zc (Za (Lo u25 (ZJ rfl rfl rfl) ?_))
 refine Lo u25 (ZP rfl rfl) ?_
 refine Lo u25 (ZP rfl rfl) ?_
 refine Lo u25 (ZP rfl rfl) ?_
 refine Zd (Zb (Zc (Zc (Ym (Gh.freezePtrL (cs := pbB p) 1 0 rfl rfl rfl) ?_))))
 refine Za (Lo u25 (W11 rfl rfl rfl rfl rfl) ?_)
 refine Zs rfl rfl rfl (by exact Qk _ p) ?_
 rintro _ _ ⟨rfl, rfl⟩
 refine Le u25 ?_
 refine Zd (Zb (Zg (Zr (mk 25 33554147) (env' := u25) rfl ?_)))
 refine Jh (fvP p) 2 (fun _ => rfl) (ptP p) (fun l0 h => by cases h) rfl (fun l9 G9 K9 hI9 => XT l9 p hp G9 K9 hI9) (σ := SzS) (fun k s => H ++ [.dead, .cells [iI (s.1 : Nat)] true, .cells [iI (s.2.1 : Nat)] true, .cells [.bool s.2.2] true, k]) (0, 0, false) (fun k => by rw [List.append_assoc]; rfl) (fun k s => by simp) (fun k s => by rw [show (H ++ _ : Ze).length = H.length + 4 by simp]; exact ZI rfl rfl) (fun k k1 s => by rw [show (H ++ _ : Ze).length = H.length + 4 by simp]; exact ZO rfl) (fun pre s => s = szA pre) ?_ (fun j pre c s => False) rfl ?_ ?_ ?_
 ·rfl
 ·intro pre c post s hx hI Lp kr kb hkr hkb
  try dsimp only at hI ⊢
  have hc9 : c ∈ ptP p := by rw [hx]; simp
  obtain ⟨h0, hpc, hcl, _, _⟩ := Qb hc9
  have g1 := (pck_good.1 h0).n12
  refine ZL (env' := u25) rfl ?_
  refine Za (La u25 ?_)
  refine Zd (⟨rfl, s, rfl, ?_⟩)
  try dsimp only
  refine Zg (Zc (Za (Lm u25 ?_)))
  refine Zs rfl rfl rfl (by exact JW _ c hpc (by omega)) ?_
  rintro _ _ ⟨rfl, rfl⟩
  refine Le u25 ?_
  refine La u25 ?_
  refine Zd (Zb (Zc (Zc (Za (Lo u25 (W12 rfl rfl rfl rfl) ?_)))))
  refine Lo u25 rfl ?_
  refine Zd (Zb (Zi _ rfl (fun hc1 => ?_) (fun hc1 => ?_)))
  ·try simp only [qB, qN] at hc1
   refine Za (Lm u25 ?_)
   refine Lo u25 (W13 rfl rfl rfl rfl rfl rfl rfl) ?_
   refine Zd (Zb (ZK [0, 1, 2, 3, 4, 5, 6, 7, 8] #[0, 0, 3, 0, 0, 24, 7, 127, 255] XH3 XH3 XH3 ?_))
   refine Ok u25 rfl (W12 rfl rfl rfl rfl) ?_
   refine Om u25 ?_
   refine Oc u25 rfl rfl ?_
   refine Yb (env' := u25) (x := .look _ _) rfl rfl rfl (W12 rfl rfl rfl rfl) rfl rfl rfl ?_
   refine Om u25 ?_
   refine Oc u25 rfl rfl ?_
   refine Yb (env' := u25) (x := .turn _ _) rfl rfl rfl (W13 rfl rfl rfl rfl rfl rfl rfl) rfl rfl rfl ?_
   refine Oo u25 .turn rfl (W13 rfl rfl rfl rfl rfl rfl rfl) ?_
   refine Oo u25 .turn rfl (Ya (VVal.bool true) rfl rfl rfl rfl rfl rfl rfl XH0 XH5 XH1) ?_
   refine Jz [(3, 6)] XH3 (And.intro ⟨_, _, _, _, ⟨(gA (gA (gA (gA (gA (gL XH3)))))), (gA (gA (gL XH3))), And.intro (W12 rfl rfl rfl rfl) (W12 rfl rfl rfl rfl)⟩⟩ (trivial)) ?_
   refine Zq (⟨(szN1 s (szP c c.length)), [], (by simp [szN1, hc1, Zx]; (try constructor) <;> split <;> omega), .inl ⟨rfl, ?_⟩⟩)
   rw [szA_snoc, ← hI]
  try simp only [qB, qN] at hc1
  refine Zh (Zb (ZK [0, 1, 2, 3, 4, 5, 6, 7, 8] #[0, 0, 3, 0, 0, 24, 7, 127, 255] XH3 XH3 XH3 ?_))
  refine Ok u25 rfl (W12 rfl rfl rfl rfl) ?_
  refine Om u25 ?_
  refine Oc u25 rfl rfl ?_
  refine Yb (env' := u25) (x := .look _ _) rfl rfl rfl (W12 rfl rfl rfl rfl) rfl rfl rfl ?_
  refine Om u25 ?_
  refine Oc u25 rfl rfl ?_
  refine Yb (env' := u25) (x := .turn _ _) rfl rfl rfl (W13 rfl rfl rfl rfl rfl rfl rfl) rfl rfl rfl ?_
  refine Oo u25 .turn rfl (W13 rfl rfl rfl rfl rfl rfl rfl) ?_
  refine Oo u25 .turn rfl (Ya (VVal.bool true) rfl rfl rfl rfl rfl rfl rfl XH0 XH5 XH1) ?_
  refine Jz [(3, 6)] XH3 (And.intro ⟨_, _, _, _, ⟨(gA (gA (gA (gA (gA (gL XH3)))))), (gA (gA (gL XH3))), And.intro (W12 rfl rfl rfl rfl) (W12 rfl rfl rfl rfl)⟩⟩ (trivial)) ?_
  refine Zq (⟨(szN1 s (szP c c.length)), [], (by simp [szN1, hc1, Zx]; (try constructor) <;> split <;> omega), .inl ⟨rfl, ?_⟩⟩)
  rw [szA_snoc, ← hI]
 ·intro s k hk hI J9
  try dsimp only at hI ⊢
  refine Zq (Zb (Zc (ZK [0, 1, 2, 3, 4, 5] #[0, 0, 0, 1, 11, 31] XH3 XH3 XH3 ?_)))
  refine Ok u25 rfl (W12 rfl rfl rfl rfl) ?_
  refine Yb (env' := u25) (x := .look _ _) rfl rfl rfl (W12 rfl rfl rfl rfl) rfl rfl rfl ?_
  refine Yb (env' := u25) (x := .look _ _) rfl rfl rfl (W12 rfl rfl rfl rfl) rfl rfl rfl ?_
  refine Yb (env' := u25) (x := .turn _ _) rfl rfl rfl (W13 rfl rfl rfl rfl rfl rfl rfl) rfl rfl rfl ?_
  refine Yb (env' := u25) (x := .turn _ _) rfl rfl rfl (W13 rfl rfl rfl rfl rfl rfl rfl) rfl rfl rfl ?_
  refine Oo u25 .turn rfl (W13 rfl rfl rfl rfl rfl rfl rfl) ?_
  refine Jz [(1, 3), (2, 3), (2, 4)] XH3 (And.intro ⟨_, _, _, _, ⟨(gA (gA (gA (gA (gL XH3))))), (gA (gA (gL XH3))), And.intro (W12 rfl rfl rfl rfl) (W12 rfl rfl rfl rfl)⟩⟩ (And.intro ⟨_, _, _, _, ⟨(gA (gA (gA (gL XH3)))), (gA (gA (gL XH3))), And.intro (W12 rfl rfl rfl rfl) (W12 rfl rfl rfl rfl)⟩⟩ (And.intro ⟨_, _, _, _, ⟨(gA (gA (gA (gL XH3)))), (gA (gL XH3)), And.intro (W12 rfl rfl rfl rfl) (W12 rfl rfl rfl rfl)⟩⟩ (trivial)))) ?_
  refine Zb (YS (show _ = H ++ ([VBlk.dead, .cells [iI (s.1 : Nat)] true, .cells [iI (s.2.1 : Nat)] true, .cells [.bool s.2.2] true, k] ++ J9) from List.append_assoc _ _ _) ?_)
  refine Zj ?_
  refine W10 (.inr rfl) (vres_cells3 rfl rfl rfl rfl rfl rfl rfl rfl rfl rfl XH0 XH6 XH0 XH6 XH0 XH6) ?_
  exact ⟨by rw [hI], rfl⟩
 rintro j pre c post s k hk hx ⟨⟩ J9
theorem W95 {T : TypeId → Option VTy} {H : Ze} {op : Op} {ρ : VEnv} {H' : Ze} {t : TypeId} {a : Operand} {i : Nat} {v : VVal} {y : VTy} {b off : Nat} {cs new : List VVal} (ho : op = .store t a (.tmp i)) (hv : ρ[i]? = some v) (ha : ρ.eval a = .ptr (some (b, off))) (hy : T t = some y) (hx : v.cells = some new) (hn : new.length = y.size) (h1 : new.all VVal.one = true) (hb : H[b]? = some (.cells cs true) := by exact ZcR rfl rfl) (hl : off + new.length ≤ cs.length := by show 0 + _ * 1 + 1 ≤ vs.length; rw [hlen]; exact Nat.succ_le_of_lt (by show 0 + a.getD k 0 * 1 < _; omega)) (hH : H.set b (.cells (Zx cs off new) true) = H' := by exact (setB rfl (show 0 < 1 from by decide)).trans (by show H ++ List.set _ 0 (VBlk.cells (Zx vs (0 + (a.getD k 0) * 1) [_]) true) ++ _ = _; rw [spl_v (by rw [hlen]; exact hi)])) : vop T ρ.eval H op = some (.skip, H') := Z3 ho hv ha hy hx hn h1 hb hl hH
theorem W97 {S : V.Sys} {H : Ze} {fn : Func} {ex : Exit} {env : VEnv} {B L : Ze} {v : VVal} {R : VVal → Ze → Prop} (hx : ex = .normal ∨ ex = .ret) (hv : ZX S.C.T env (B ++ L) fn.results = some v) (h : R v B) (hB : BaseOk H B := by exact XH41) (hu : v.under H.length = true := by first | rfl | exact bk_under) : fnK S fn H R ex env (B ++ L) := Xk hx hv hB hu h
abbrev f1 : Nat → List VVal := fun n => [iI (n : Int)]
def bkA (a : List Nat) : Nat → List (List Nat)
 | 0 => List.replicate (szP a a.length) []
 | k + 1 => (bkA a k).set (a.getD k 0) ((bkA a k).getD (a.getD k 0) [] ++ [k])
theorem bkA_len {a : List Nat} : ∀ {k : Nat}, (bkA a k).length = szP a a.length
 | 0 => List.length_replicate
 | k + 1 => by rw [bkA, List.length_set]; exact bkA_len
theorem bkA_row {a : List Nat} (hp : Pat a) : ∀ {k : Nat}, k ≤ a.length → ∀ b, b < szP a a.length → ((bkA a k).getD b []).length = (a.take k).count b
 | 0, _, b, hb => by rw [bkA, Jf hb]; rfl
 | k + 1, hk, b, hb => by
  have ih := bkA_row hp (k := k) (by omega) b hb
  have hx : a.getD k 0 < szP a a.length := hp.lt (Nat.le_refl _) (by omega)
  rw [bkA, Qm (by rw [bkA_len]; exact hx), Yf (d := 0) (by omega), List.count_append, List.count_singleton]
  by_cases e : b = a.getD k 0
  ·subst e
   rw [if_pos rfl, List.length_append, ih]; simp
  rw [if_neg e, ih, beq_eq_false_iff_ne.2 (Ne.symm e)]; rfl
def fzBk (rows : List (List Nat)) : VVal := .fsl (rows.map fun l => .fsl (l.flatMap f1) l.length 1 false) rows.length 1 false
theorem bk_under {n : Nat} : ∀ {rows : List (List Nat)}, VVal.underL n (rows.map fun l => VVal.fsl (l.flatMap f1) l.length 1 false) = true
 | [] => rfl
 | r :: rs => by
  show ((VVal.fsl (r.flatMap f1) r.length 1 false).under n && VVal.underL n _) = true
  rw [bk_under, Bool.and_true]; exact Zck (f := f1) (fun a => rfl) r
theorem pBlocks_spec {x : SW} (H : Ze) (a : List Nat) (hp : Pat a) (h0 : 0 < a.length) (hl : a.length ≤ 25) : F (psys x) 90 [fzN a] H fun v G => v = fzBk (bkA a a.length) ∧ G = H := by
 have hsz := @YH a a.length
 have hs0 : a.getD 0 0 < szP a a.length := hp.lt (Nat.le_refl _) h0
 refine Zp Tryd.func90 rfl u31 rfl ?_
 refine Zc (Za (Lk u31 (.slice none 0 0 true 0) ?_))
 refine Zd (Zb (Zc (Za (Lm u31 ?_))))
 refine Zs rfl rfl rfl (by exact JW _ _ (by assumption) (by omega)) ?_
 rintro _ _ ⟨rfl, rfl⟩
 refine Le u31 ?_
 refine Lo u31 (Yz rfl rfl rfl rfl rfl (by decide) ⟨by omega, Int.le_refl _, by show ((szP a a.length : Nat) : Int) * (24 : Nat) ≤ _; omega, by omega⟩) ?_
 refine La u31 ?_
 refine Zd (Zb (Zc (Zc (Za (Lm u31 ?_)))))
 refine Lo u31 rfl ?_
 refine Lo u31 (QA false rfl (by simp; omega)) ?_
 refine Zd (Zb (Yc rfl rfl ?_))
 refine Zh (Zb (Zc (Zc (Za (Lm u31 ?_)))))
 refine Lo u31 rfl ?_
 refine Lo u31 (Z4 (VVal.int .i64 0) (.inl rfl) rfl) ?_
 refine Zd (Zb (Zg (Zr (mk 31 2147454967) (env' := u31) rfl ?_)))
 refine Zw (fun (k : Nat) => a.length - k) (fun (k : Nat) => [(14, iI (k : Nat))]) (fun (k : Nat) G => (k ≤ a.length) ∧ ∃ Z vs, G = (H ++ [VBlk.cells vs true]) ++ Z ∧ RW f1 1 (H.length + 1) Z vs (bkA a k)) 0 rfl ?_ ?_
 ·refine ⟨?_, ⟨[], _, by rw [List.append_nil, ← rep1]; rfl, RW.init⟩⟩
  exact Nat.zero_le _
 rintro k _ ⟨hk, ⟨Z, vs, rfl, hr⟩⟩
 refine ZL (env' := u31) rfl ?_
 refine Zc (Za (Lo u31 rfl ?_))
 refine Zd (Zb (Zc (Zi _ rfl (fun hc1 => ?_) (fun hc1 => ?_))))
 ·try simp only [qB, qN] at hc1
  refine Zh (Zb (Zc (Zg (Zc (Za (Lm u31 ?_))))))
  refine Lo u31 (W18 rfl rfl rfl rfl rfl rfl rfl) ?_
  refine Lo u31 (W6k rfl rfl rfl rfl) ?_
  refine La u31 ?_
  refine La u31 ?_
  refine Zd (Zb ?_)
  have hx := hp.lt (Nat.le_refl a.length) (show k < a.length by omega)
  have hlen := hr.len
  have hi : a.getD k 0 < (bkA a k).length := by rw [bkA_len]; exact hx
  have hv9 := hr.lv _ hi
  have hrow := bkA_row hp (k := k) (by omega) _ hx
  have hcnt : (a.take k).count (a.getD k 0) ≤ (a.take k).length := List.count_le_length
  rw [List.length_take] at hcnt
  refine Za (Lm u31 ?_)
  refine Lm u31 ?_
  refine Lm u31 ?_
  refine Lm u31 ?_
  refine Lo u31 (W1g rfl rfl rfl rfl rfl rfl rfl) ?_
  refine Lo u31 (W46 rfl rfl rfl rfl) ?_
  refine Lm u31 ?_
  refine Lo u31 (Zv rfl rfl (by decide) rfl) ?_
  refine X7 rfl rfl (Xt rfl rfl rfl rfl rfl rfl rfl (by simp) hv9 rfl rfl (by decide) (by show (_ + 1) * 8 ≤ _ ∧ _ + 1 ≤ _; omega) (by decide)) ?_
  rintro _ _ ⟨Y1, rfl, rfl, hY1, hY2, hY3⟩
  refine Le u31 ?_
  refine Lo u31 (W1g rfl rfl rfl rfl rfl rfl rfl) ?_
  refine Lo u31 (W95 rfl rfl rfl rfl rfl rfl rfl) ?_
  refine Zd (Zq (Zb (Za (Lo u31 (W14 rfl rfl rfl) ?_))))
  refine Lm u31 ?_
  refine Zd (Zt (mk 31 2147454967) (env' := u31) rfl ⟨k + 1, ?_, rfl, ?_⟩)
  ·first | omega | (simp only []; omega)
  exact ⟨by omega, _, _, rfl, RW.step hr hi hY2 hY3⟩
 try simp only [qB, qN] at hc1
 refine Zz (ZA (Zu (Zy (Zb (Zc ?_)))))
 obtain rfl : k = a.length := by omega
 refine B_ghRW 0 hr rfl (by simp) fun Z9 => ?_
 refine Ym (Gh.freezeL (l := (bkA a a.length).map fun l => VVal.fsl (l.flatMap f1) l.length 1 false) 3 0 rfl rfl (Yn (by rw [List.length_map]; exact bkA_len.symm)) (Nat.le_refl _) rfl) ?_
 refine Za (Lm u31 ?_)
 refine La u31 ?_
 refine Zd (Zb (Zj (W97 (.inr rfl) (Zf rfl rfl) ?_)))
 exact ⟨by unfold fzBk; rw [bkA_len]; rfl, rfl⟩
theorem W99 {T : TypeId → Option VTy} {H : Ze} {op : Op} {ρ : Operand → VVal} {t : TypeId} {a : Operand} {y : VTy} {p : VVal} {n : Nat} {vs : List VVal} (ho : op = .load t a) (ha : ρ a = p) (hy : T t = some y) (hd : Zk y.desc = true) (hn : y.size = n) (h : XF H p n vs := by exact XH48) : vop T ρ H op = some (.agg vs, H) := XI ho ha hy hd hn h
theorem W9b {T : TypeId → Option VTy} {H : Ze} {op : Op} {ρ : Operand → VVal} {t : TypeId} {a : Operand} {y : VTy} {p v : VVal} (ho : op = .load t a) (ha : ρ a = p) (hy : T t = some y) (hd : Zk y.desc = false) (h : LdOk H p v := by exact XH48) : vop T ρ H op = some (v, H) := Yv ho ha hy hd h
def mxK (rows : List (List Nat)) (j : Nat) : Nat := (rows.take j).foldl (fun m r => max m r.length) 0
def mxB (a : List Nat) : Nat := mxK (bkA a a.length) (bkA a a.length).length
theorem mxK_s {rows : List (List Nat)} {j : Nat} (h : j < rows.length) : mxK rows (j + 1) = max (mxK rows j) (rows.getD j []).length := by
 unfold mxK; rw [Yf (d := []) h, List.foldl_append]; rfl
def ldS (s : Nat × Bool) (m : Nat) : Nat × Bool := if s.2 = false ∨ m < s.1 then (m, true) else s
def ldA (l : List (List Nat)) : Nat × Bool := l.foldl (fun s a => ldS s (mxB a)) (0, false)
theorem Qx {l : List (List Nat)} {a : List Nat} : ldA (l ++ [a]) = ldS (ldA l) (mxB a) := by unfold ldA; rw [List.foldl_append]; rfl
theorem ldS_y {s : Nat × Bool} {m : Nat} (h : s.2 = false ∨ m < s.1) : ldS s m = (m, true) := if_pos h
theorem ldS_n {s : Nat × Bool} {m : Nat} (h : ¬ (s.2 = false ∨ m < s.1)) : ldS s m = s := if_neg h
theorem pBlocks_nil {x : SW} (H : Ze) : F (psys x) 90 [fzN []] H fun v G => v = .slice none 0 0 true 0 ∧ G = H := by
 refine Zp Tryd.func90 rfl u31 rfl ?_
 refine Zc (Za (Lk u31 (.slice none 0 0 true 0) ?_))
 refine Zd (Zb (Zc (Za (Lm u31 ?_))))
 refine Zs rfl rfl rfl (by exact JW _ [] Qg (by decide)) ?_
 rintro _ _ ⟨rfl, rfl⟩
 refine Le u31 ?_
 refine Lo u31 (Yz rfl rfl rfl rfl rfl (by decide) (by decide)) ?_
 refine La u31 ?_
 refine Zd (Zb (Zc (Zc (Za (Lm u31 ?_)))))
 refine Lo u31 rfl ?_
 refine Lo u31 (QA true rfl rfl) ?_
 refine Zd (Zb (ZN rfl rfl ?_))
 refine Zc (Za (Lk u31 (.slice none 0 0 true 0) ?_))
 refine Zd (Zb (Zj (Zl (W10 (.inr rfl) (Zf rfl rfl) ?_))))
 exact ⟨rfl, rfl⟩
theorem tLoad_spec1 {x : SW} (H : Ze) (p : Pb) (hp : PbL p) (hn : 0 < p.who.length) : F (psys x) 48 [.agg (pbB p)] H fun v G => v = .tuple [iI ((ldA (ptP p)).1 : Nat), .bool (ldA (ptP p)).2] ∧ G = H := by
 refine Zp Tryd.func48 rfl u36 rfl ?_
 refine Zc (Za (Lo u36 (ZJ rfl rfl rfl) ?_))
 refine Lk u36 (.int .i64 0) ?_
 refine Lk u36 (.bool false) ?_
 refine Zd (Zb (Zc (Za (Lo u36 (ZP rfl rfl) ?_))))
 refine Lo u36 (ZP rfl rfl) ?_
 refine Lo u36 (Ya (VVal.int .i64 0) rfl rfl rfl rfl rfl rfl rfl XH0 XH5 XH1) ?_
 refine Lo u36 (Ya (VVal.bool false) rfl rfl rfl rfl rfl rfl rfl XH0 XH5 XH1) ?_
 refine Zd (Zb (Zc (Zc (Ym (Gh.freezePtrL (cs := pbB p) 1 0 rfl rfl rfl) ?_))))
 refine Za (Lo u36 (W99 rfl rfl rfl rfl rfl) ?_)
 refine Zs rfl rfl rfl (by exact Qk _ p) ?_
 rintro _ _ ⟨rfl, rfl⟩
 refine Le u36 ?_
 refine Zd (Zb (Zg (Zr (mk 36 68719474639) (env' := u36) rfl ?_)))
 refine Jh (fvP p) 2 (fun _ => rfl) (ptP p) (fun l0 h => by cases h) rfl (fun l9 G9 K9 hI9 => XT l9 p hp G9 K9 hI9) (σ := Nat × Bool) (fun k s => H ++ [.dead, .cells [iI (s.1 : Nat)] true, .cells [.bool s.2] true, k]) (0, false) (fun k => by rw [List.append_assoc]; rfl) (fun k s => by simp) (fun k s => by rw [show (H ++ _ : Ze).length = H.length + 3 by simp]; exact ZI rfl rfl) (fun k k1 s => by rw [show (H ++ _ : Ze).length = H.length + 3 by simp]; exact ZO rfl) (fun pre s => s = ldA pre) ?_ (fun j pre c s => False) rfl ?_ ?_ ?_
 ·rfl
 ·intro pre c post s hx hI Lp kr kb hkr hkb
  try dsimp only at hI ⊢
  have hc9 : c ∈ ptP p := by rw [hx]; simp
  obtain ⟨h0, hpc, hcl, _, _⟩ := Qb hc9
  have g1 := (pck_good.1 h0).n12
  have hbl := @bkA_len c c.length
  have hz9 := @YH c c.length
  refine ZL (env' := u36) rfl ?_
  refine Za (La u36 ?_)
  refine Zd (⟨rfl, s, rfl, ?_⟩)
  try dsimp only
  refine Zg (Zc (Za (Lk u36 (.int .i64 0) ?_)))
  refine Zd (Zb (Zc (Zc (Za (Lm u36 ?_)))))
  refine Zs rfl rfl rfl (by exact pBlocks_spec _ c hpc (by omega) (by omega)) ?_
  rintro _ _ ⟨rfl, rfl⟩
  refine Le u36 ?_
  refine Lo u36 rfl ?_
  refine Lo u36 (Z4 (VVal.int .i64 0) (.inl rfl) rfl) ?_
  refine Zd (Zb (Zg (Zr (mk 36 68719247183) (env' := u36) rfl ?_)))
  refine Zw (fun (j : Nat) => (bkA c c.length).length - j) (fun (j : Nat) => [(7, iI (mxK (bkA c c.length) j : Nat)), (17, iI (j : Nat))]) (fun (j : Nat) G => (j ≤ (bkA c c.length).length) ∧ G = (H ++ [.dead, .cells [iI (s.1 : Nat)] true, .cells [.bool s.2] true, kb]) ++ Lp) 0 rfl ?_ ?_
  ·refine ⟨?_, rfl⟩
   exact Nat.zero_le _
  rintro j _ ⟨hj, rfl⟩
  refine ZL (env' := u36) rfl ?_
  refine Zc (Za (Lo u36 rfl ?_))
  refine Zd (Zb (Zc (Zi _ rfl (fun hc1 => ?_) (fun hc1 => ?_))))
  ·try simp only [qB, qN] at hc1
   refine Zh (Zb (Zc (Zg (Zc ?_))))
   have hj9 : j < (bkA c c.length).length := by omega
   have hE := mxK_s hj9
   refine Za (Lo u36 (W18 rfl rfl rfl rfl rfl rfl rfl) ?_)
   refine Lo u36 (W9b rfl rfl rfl rfl) ?_
   refine La u36 ?_
   refine Zd (Zb (Za (Lm u36 ?_)))
   refine Lm u36 ?_
   refine Lo u36 rfl ?_
   refine Lo u36 (Xg (u := iI (mxK (bkA c c.length) (j + 1) : Nat)) rfl (congrArg iI (show (if (((bkA c c.length).getD j []).length : Int) > ((mxK (bkA c c.length) j : Nat) : Int) then (((bkA c c.length).getD j []).length : Int) else ((mxK (bkA c c.length) j : Nat) : Int)) = ((mxK (bkA c c.length) (j + 1) : Nat) : Int) by split <;> omega))) ?_
   refine La u36 ?_
   refine Zd (Zq (Zb (Za (Lo u36 (W14 rfl rfl rfl) ?_))))
   refine Lm u36 ?_
   refine Zd (Zt (mk 36 68719247183) (env' := u36) rfl ⟨j + 1, ?_, rfl, ?_⟩)
   ·first | omega | (simp only []; omega)
   exact ⟨by omega, rfl⟩
  try simp only [qB, qN] at hc1
  refine Zz (ZA (Zu (Zy (Zb (Zc ?_)))))
  obtain rfl : j = (bkA c c.length).length := by omega
  rw [show mxK (bkA c c.length) (bkA c c.length).length = mxB c from rfl]
  refine Za (Lo u36 (W9b rfl rfl rfl rfl) ?_)
  refine Lo u36 rfl ?_
  refine Lm u36 ?_
  refine ZB 28 (env1 := u36) (env2 := u36) rfl rfl rfl (fun hg2 => ?_) (fun hg2 => ?_)
  ·try simp only [qB, qN] at hg2
   refine Lf u36 ?_
   refine Lf u36 ?_
   refine Lf u36 ?_
   refine Lo u36 (ZF (VVal.bool true) rfl rfl rfl) ?_
   refine Zd (Zb (ZN rfl rfl ?_))
   refine Za (Lm u36 ?_)
   refine Lo u36 (W13 rfl rfl rfl rfl rfl rfl rfl) ?_
   refine Lo u36 (Ya (VVal.bool true) rfl rfl rfl rfl rfl rfl rfl XH0 XH5 XH1) ?_
   refine Zd (Zq (⟨(ldS s (mxB c)), [], XH13, .inl ⟨rfl, ?_⟩⟩))
   rw [Qx, ← hI]
  try simp only [qB, qN] at hg2
  refine Lm u36 ?_
  refine Lo u36 (W9b rfl rfl rfl rfl) ?_
  refine Lo u36 rfl ?_
  refine Lo u36 (ZY rfl rfl rfl) ?_
  refine Zd (Zb (Zi _ rfl (fun hc3 => ?_) (fun hc3 => ?_)))
  ·try simp only [qB, qN] at hc3
   refine Za (Lm u36 ?_)
   refine Lo u36 (W13 rfl rfl rfl rfl rfl rfl rfl) ?_
   refine Lo u36 (Ya (VVal.bool true) rfl rfl rfl rfl rfl rfl rfl XH0 XH5 XH1) ?_
   refine Zd (Zq (⟨(ldS s (mxB c)), [], XH13, .inl ⟨rfl, ?_⟩⟩))
   rw [Qx, ← hI]
  try simp only [qB, qN] at hc3
  refine Zh (Zq (⟨(ldS s (mxB c)), [], XH13, .inl ⟨rfl, ?_⟩⟩))
  rw [Qx, ← hI]
 ·intro s k hk hI J9
  try dsimp only at hI ⊢
  refine Zq (Zb (Zc (ZK [0, 1, 2, 3] #[0, 0, 1, 7] XH3 XH3 XH3 ?_)))
  refine Ok u36 rfl (W9b rfl rfl rfl rfl) ?_
  refine Ok u36 rfl (W9b rfl rfl rfl rfl) ?_
  refine Oc u36 rfl (Yo (.inr rfl) rfl) ?_
  refine Oc u36 rfl (Yo (.inr rfl) rfl) ?_
  refine ZW [] XH3 (trivial) ?_
  refine Zb (YS (show _ = H ++ ([VBlk.dead, .cells [iI (s.1 : Nat)] true, .cells [.bool s.2] true, k] ++ J9) from List.append_assoc _ _ _) ?_)
  refine Zj (W10 (.inr rfl) (Yy rfl rfl rfl) ?_)
  exact ⟨by rw [hI], rfl⟩
 rintro j pre c post s k hk hx ⟨⟩ J9
theorem tLoad_spec0 {x : SW} (H : Ze) (p : Pb) (hp : PbL p) (hn : p.who.length = 0) : F (psys x) 48 [.agg (pbB p)] H fun v G => v = .tuple [iI ((ldA (ptP p)).1 : Nat), .bool (ldA (ptP p)).2] ∧ G = H := by
 refine Zp Tryd.func48 rfl u36 rfl ?_
 refine Zc (Za (Lo u36 (ZJ rfl rfl rfl) ?_))
 refine Lk u36 (.int .i64 0) ?_
 refine Lk u36 (.bool false) ?_
 refine Zd (Zb (Zc (Za (Lo u36 (ZP rfl rfl) ?_))))
 refine Lo u36 (ZP rfl rfl) ?_
 refine Lo u36 (Ya (VVal.int .i64 0) rfl rfl rfl rfl rfl rfl rfl XH0 XH5 XH1) ?_
 refine Lo u36 (Ya (VVal.bool false) rfl rfl rfl rfl rfl rfl rfl XH0 XH5 XH1) ?_
 refine Zd (Zb (Zc (Zc (Ym (Gh.freezePtrL (cs := pbB p) 1 0 rfl rfl rfl) ?_))))
 refine Za (Lo u36 (W99 rfl rfl rfl rfl rfl) ?_)
 refine Zs rfl rfl rfl (by exact Qk _ p) ?_
 rintro _ _ ⟨rfl, rfl⟩
 refine Le u36 ?_
 refine Zd (Zb (Zg (Zr (mk 36 68719474639) (env' := u36) rfl ?_)))
 refine Jh (fvP p) 2 (fun _ => rfl) (ptP p) (fun l0 h => by cases h) rfl (fun l9 G9 K9 hI9 => XT l9 p hp G9 K9 hI9) (σ := Nat × Bool) (fun k s => H ++ [.dead, .cells [iI (s.1 : Nat)] true, .cells [.bool s.2] true, k]) (0, false) (fun k => by rw [List.append_assoc]; rfl) (fun k s => by simp) (fun k s => by rw [show (H ++ _ : Ze).length = H.length + 3 by simp]; exact ZI rfl rfl) (fun k k1 s => by rw [show (H ++ _ : Ze).length = H.length + 3 by simp]; exact ZO rfl) (fun pre s => s = ldA pre) ?_ (fun j pre c s => False) rfl ?_ ?_ ?_
 ·rfl
 ·intro pre c post s hx hI Lp kr kb hkr hkb
  try dsimp only at hI ⊢
  have hc9 : c ∈ ptP p := by rw [hx]; simp
  obtain ⟨h0, hpc, hcl, _, _⟩ := Qb hc9
  have g1 := (pck_good.1 h0).n12
  have hbl := @bkA_len c c.length
  have hz9 := @YH c c.length
  obtain rfl : c = [] := List.eq_nil_of_length_eq_zero (by omega)
  refine ZL (env' := u36) rfl ?_
  refine Za (La u36 ?_)
  refine Zd (⟨rfl, s, rfl, ?_⟩)
  try dsimp only
  refine Zg (Zc (Za (Lk u36 (.int .i64 0) ?_)))
  refine Zd (Zb (Zc (Zc (Za (Lm u36 ?_)))))
  refine Zs rfl rfl rfl (by exact pBlocks_nil _) ?_
  rintro _ _ ⟨rfl, rfl⟩
  refine Le u36 ?_
  refine Lo u36 rfl ?_
  refine Lo u36 (Z4 (VVal.int .i64 0) (.inl rfl) rfl) ?_
  refine Zd (Zb (Zg (Zr (mk 36 68719247183) (env' := u36) rfl ?_)))
  refine Zw (fun (j : Nat) => 0 - j) (fun (j : Nat) => [(7, iI (0 : Nat)), (17, iI (j : Nat))]) (fun (j : Nat) G => (j ≤ 0) ∧ G = (H ++ [.dead, .cells [iI (s.1 : Nat)] true, .cells [.bool s.2] true, kb]) ++ Lp) 0 rfl ?_ ?_
  ·refine ⟨?_, rfl⟩
   exact Nat.zero_le _
  rintro j _ ⟨hj, rfl⟩
  refine ZL (env' := u36) rfl ?_
  refine Zc (Za (Lo u36 rfl ?_))
  refine Zd (Zb (Zc (Zi _ rfl (fun hc1 => ?_) (fun hc1 => ?_))))
  ·try simp only [qB, qN] at hc1
   exact absurd hc1 (by omega)
  try simp only [qB, qN] at hc1
  refine Zz (ZA (Zu (Zy (Zb (Zc ?_)))))
  obtain rfl : j = 0 := by omega
  rw [show (0 : Nat) = mxB [] from rfl]
  refine Za (Lo u36 (W9b rfl rfl rfl rfl) ?_)
  refine Lo u36 rfl ?_
  refine Lm u36 ?_
  refine ZB 28 (env1 := u36) (env2 := u36) rfl rfl rfl (fun hg2 => ?_) (fun hg2 => ?_)
  ·try simp only [qB, qN] at hg2
   refine Lf u36 ?_
   refine Lf u36 ?_
   refine Lf u36 ?_
   refine Lo u36 (ZF (VVal.bool true) rfl rfl rfl) ?_
   refine Zd (Zb (ZN rfl rfl ?_))
   refine Za (Lm u36 ?_)
   refine Lo u36 (W13 rfl rfl rfl rfl rfl rfl rfl) ?_
   refine Lo u36 (Ya (VVal.bool true) rfl rfl rfl rfl rfl rfl rfl XH0 XH5 XH1) ?_
   refine Zd (Zq (⟨(ldS s (mxB [])), [], XH12, .inl ⟨rfl, ?_⟩⟩))
   rw [Qx, ← hI]
  try simp only [qB, qN] at hg2
  refine Lm u36 ?_
  refine Lo u36 (W9b rfl rfl rfl rfl) ?_
  refine Lo u36 rfl ?_
  refine Lo u36 (ZY rfl rfl rfl) ?_
  refine Zd (Zb (Zi _ rfl (fun hc3 => ?_) (fun hc3 => ?_)))
  ·try simp only [qB, qN] at hc3
   refine Za (Lm u36 ?_)
   refine Lo u36 (W13 rfl rfl rfl rfl rfl rfl rfl) ?_
   refine Lo u36 (Ya (VVal.bool true) rfl rfl rfl rfl rfl rfl rfl XH0 XH5 XH1) ?_
   refine Zd (Zq (⟨(ldS s (mxB [])), [], XH12, .inl ⟨rfl, ?_⟩⟩))
   rw [Qx, ← hI]
  try simp only [qB, qN] at hc3
  refine Zh (Zq (⟨(ldS s (mxB [])), [], XH12, .inl ⟨rfl, ?_⟩⟩))
  rw [Qx, ← hI]
 ·intro s k hk hI J9
  try dsimp only at hI ⊢
  refine Zq (Zb (Zc (ZK [0, 1, 2, 3] #[0, 0, 1, 7] XH3 XH3 XH3 ?_)))
  refine Ok u36 rfl (W9b rfl rfl rfl rfl) ?_
  refine Ok u36 rfl (W9b rfl rfl rfl rfl) ?_
  refine Oc u36 rfl (Yo (.inr rfl) rfl) ?_
  refine Oc u36 rfl (Yo (.inr rfl) rfl) ?_
  refine ZW [] XH3 (trivial) ?_
  refine Zb (YS (show _ = H ++ ([VBlk.dead, .cells [iI (s.1 : Nat)] true, .cells [.bool s.2] true, k] ++ J9) from List.append_assoc _ _ _) ?_)
  refine Zj (W10 (.inr rfl) (Yy rfl rfl rfl) ?_)
  exact ⟨by rw [hI], rfl⟩
 rintro j pre c post s k hk hx ⟨⟩ J9
structure Pm (t : List Int) : Prop where
 rg : ∀ i, i < t.length → 0 ≤ t.getD i 0 ∧ t.getD i 0 < t.length
 ij : ∀ i j, i < t.length → j < t.length → t.getD i 0 = t.getD j 0 → i = j
section
variable {t : List Int} {q : Pb}
end
theorem fget0N {l : List Int} {k : Nat} (h : k < l.length) : (l.map iI)[0 + ((k : Nat) : Int).toNat * 1]? = some (iI (l.getD k 0)) := by rw [Nat.zero_add]; exact YT (0 : Int) h
theorem tLoad_any {x : SW} (H : Ze) (p : Pb) (hp : PbL p) : F (psys x) 48 [.agg (pbB p)] H fun v G => v = .tuple [iI ((ldA (ptP p)).1 : Nat), .bool (ldA (ptP p)).2] ∧ G = H := by
 by_cases h : p.who.length = 0
 ·exact tLoad_spec0 H p hp h
 exact tLoad_spec1 H p hp (by omega)
end Go.Proofs.YtccgigdjkghieaaDoor.VT
