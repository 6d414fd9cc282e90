/- Proved: Rows.HardyGradeCardSaid, the statement HardyGrade with its card, of the given program at the commit; no conditions beyond those in the statement. -/
import Derived.Test.YtgbahioegcpjiaaDoorC6x14
set_option autoImplicit false
set_option linter.unusedVariables false
set_option linter.unusedSimpArgs false
set_option maxHeartbeats 4000000
set_option maxRecDepth 100000
namespace Go.Proofs.YtgbahioegcpjiaaDoor.VT
open Go Go.V Go.RowKit
abbrev u28 {a0 a1 a2 a3 a4 a5 a6 a7 a8 a9 a10 a11 a12 a13 a14 a15 a16 a17 a18 a19 a20 a21 a22 a23 a24 a25 a26 a27 : VVal} : VEnv := a0 :: a1 :: a2 :: a3 :: a4 :: a5 :: a6 :: a7 :: a8 :: a9 :: a10 :: a11 :: a12 :: a13 :: a14 :: a15 :: a16 :: a17 :: a18 :: a19 :: a20 :: a21 :: a22 :: a23 :: a24 :: a25 :: a26 :: a27 :: []
abbrev u30 {a0 a1 a2 a3 a4 a5 a6 a7 a8 a9 a10 a11 a12 a13 a14 a15 a16 a17 a18 a19 a20 a21 a22 a23 a24 a25 a26 a27 a28 a29 : VVal} : VEnv := a0 :: a1 :: a2 :: a3 :: a4 :: a5 :: a6 :: a7 :: a8 :: a9 :: a10 :: a11 :: a12 :: a13 :: a14 :: a15 :: a16 :: a17 :: a18 :: a19 :: a20 :: a21 :: a22 :: a23 :: a24 :: a25 :: a26 :: a27 :: a28 :: a29 :: []
theorem W78 {T : TypeId → Option VTy} {H : Zf} {op : Op} {ρ : Operand → VVal} {t : TypeId} {a : Operand} {y : VTy} {p v : VVal} (ho : op = .load t a) (ha : ρ a = p) (hy : T t = some y) (hd : Zn y.desc = false) (h : LdOk H p v := by first | exact .inl ⟨_, _, rfl, XH35⟩ | exact .inr ⟨_, _, _, _, rfl, by exact getB rfl rfl, XH35⟩) : vop T ρ H op = some (v, H) := Yx ho ha hy hd h
theorem W79 {T : TypeId → Option VTy} {H : Zf} {op : Op} {ρ : VEnv} {H' : Zf} {t : TypeId} {a : Operand} {i : Nat} {v : VVal} {y : VTy} {b off : Nat} {cs new : List VVal} (ho : op = .store t a (.tmp i)) (hv : ρ[i]? = some v) (ha : ρ.eval a = .ptr (some (b, off))) (hy : T t = some y) (hx : v.cells = some new) (hn : new.length = y.size) (h1 : new.all VVal.one = true) (hb : H[b]? = some (.cells cs true) := by exact getB rfl rfl) (hl : off + new.length ≤ cs.length := by exact XH37) (hH : H.set b (.cells (ZJ cs off new) true) = H' := by exact setB rfl (show 1 < 3 by decide)) : vop T ρ.eval H op = some (.skip, H') := Z7 ho hv ha hy hx hn h1 hb hl hH
theorem W7b {S : V.Sys} {H : Zf} {fn : Func} {ex : Exit} {env : VEnv} {B L : Zf} {v : VVal} {R : VVal → Zf → Prop} (hx : ex = .normal ∨ ex = .ret) (hv : ZP S.C.T env (B ++ L) fn.results = some v) (h : R v B) (hB : BaseOk H B := by exact XH38) (hu : v.under H.length = true := by exact Yt _ _) : fnK S fn H R ex env (B ++ L) := YQ hx hv hB hu h
theorem W7d {S : V.Sys} {H : Zf} {fn : Func} {ex : Exit} {env : VEnv} {B L : Zf} {v : VVal} {R : VVal → Zf → Prop} (hx : ex = .normal ∨ ex = .ret) (hv : ZP S.C.T env (B ++ L) fn.results = some v) (h : R v B) (hB : BaseOk H B := by exact XH38) (hu : v.under H.length = true := by first | rfl | exact (show ((fzN _).under H.length && (true && true)) = true by rw [show (fzN _).under H.length = true from Yt _ _]; rfl)) : fnK S fn H R ex env (B ++ L) := YQ hx hv hB hu h
theorem W7e {P : Prop} (h : P := by first | exact ⟨by rw [waV_no (waN_no (by omega))]; rfl, rfl⟩ | exact ⟨by rw [he, h3 XH19, (by first | assumption | simp_all : ok = false)]; rfl, rfl⟩ | (have hok : ok = true := by first | assumption | simp_all); exact ⟨by rw [he, hok, h2 hok]; show VVal.tuple [fzN (pl (wl l) 0), .bool true] = _; rw [fi_pl g (hwa.symm.trans (h2 hok))], rfl⟩) : P := h
theorem W7h {P : Prop} (h : P := by first | exact ⟨congrArg iI (grN_no (by assumption)).symm, rfl⟩ | exact ⟨congrArg iI ((grN_in XH19).trans (hgr.trans (grS_hit (by omega) (h1.symm.trans XH19)))).symm, rfl⟩ | exact ⟨congrArg iI ((grN_in XH19).trans (hgr.trans (grS_end (by omega)))).symm, rfl⟩) : P := h
theorem Places_spec {x : SW} (H : Zf) (w : BitVec 64) : F (psys x) 89 [.agg [iW w]] H fun v G => v = fzN (pl w 0) ∧ G = H := by
 refine Zq Tryd.func89 rfl u13 rfl ?_
 refine Zd (Za ?_)
 refine Lo u13 (Zs rfl rfl rfl) ?_
 refine Lo u13 (Zg (VVal.slice none 0 0 true 0) (.inr rfl) rfl) ?_
 refine Ze (Zc (Zd (Za ?_)))
 refine Lo u13 (Zv rfl rfl) ?_
 refine Ze (Zc (Zd (Zd ?_)))
 refine ZX (Gh.freezePtrL (cs := [iW w]) 1 0 rfl rfl rfl) ?_
 refine Za ?_
 refine Lo u13 (W11 rfl rfl rfl rfl rfl) ?_
 refine Zr rfl rfl rfl (by exact All_spec _ _) ?_
 rintro _ _ ⟨rfl, rfl⟩
 refine Le u13 ?_
 refine Ze (Zc (Zk ?_))
 refine Zt (mk 13 8119) (env' := u13) rfl ?_
 refine B_rangeM cI (pl w 0) (fun l0 h => by cases h) rfl (fun l G R h => All1_spec _ _ _ _ h) (σ := VVal × Zf) (fun k s => (H ++ [.dead, .cells [s.1] true, k]) ++ s.2) (.slice none 0 0 true 0, []) (fun k => by rw [List.append_assoc]; exact (List.append_nil _).symm) (fun k s => by rw [List.length_append]; exact getB rfl rfl) (fun k k1 s => by rw [List.length_append]; exact setB rfl (show 2 < 3 by decide)) (fun pre s => LV (H.length + 3) 1 s.2 s.1 (rcN pre) pre.length) ?_ (fun j pre c s => False) rfl ?_ ?_ ?_
 ·exact LV.nil _ _ _
 ·intro pre c post s hx hI kr kb hkr hkb
  obtain ⟨lv, X⟩ := s
  try dsimp only at hI ⊢
  have hc : c ∈ pl w 0 := by rw [hx]; simp
  have hpl : pre.length < 64 := by have h9 := pl_le w; rw [hx, List.length_append, List.length_cons] at h9; omega
  refine ZQ (env' := u13) rfl ?_
  refine Za ?_
  refine Lo u13 (Zb (.inr rfl) rfl) ?_
  refine Ze ?_
  refine ⟨rfl, (lv, X), rfl, ?_⟩
  try dsimp only
  refine Zk (Za ?_)
  refine Lo u13 (W78 rfl rfl rfl rfl) ?_
  refine Lo u13 (Zb (.inl rfl) rfl) ?_
  refine Lo u13 (Zx rfl rfl (by decide) rfl) ?_
  refine YB rfl rfl (YF rfl rfl rfl rfl rfl rfl rfl (by simp) hI rfl rfl (by decide) (by show (pre.length + 1) * 8 ≤ _ ∧ _; omega) (by decide)) ?_
  rintro _ _ ⟨Y3, rfl, rfl, hY1, hY2, hY3⟩
  refine Le u13 ?_
  refine Lo u13 (W79 rfl rfl rfl rfl rfl rfl rfl) ?_
  refine Ze (ZA ?_)
  refine ⟨(_, _), rfl, .inl ⟨rfl, ?_⟩⟩
  rw [List.length_append]; exact LV.pushN hY3
 ·intro s k hk hI
  obtain ⟨lv, X⟩ := s
  try dsimp only at hI ⊢
  refine ZA (Zc (Zd ?_))
  refine YW (H := H) 1 0 hI rfl rfl (by simp) fun X5 _ _ => ?_
  refine Yw (List.append_assoc _ _ _) ?_
  refine Za ?_
  refine Lo u13 (W12 rfl rfl rfl rfl) ?_
  refine Lo u13 (Zb (.inr rfl) rfl) ?_
  refine Ze (Zc (Zi ?_))
  refine W7b (.inr rfl) (Zh rfl rfl) ?_
  exact ⟨rfl, rfl⟩
 ·rintro j pre c post s k hk hx ⟨⟩
def waV (p : Pb) (m : Int) : VVal := match waN p m with
  | some l => .tuple [fzN l, .bool true]
  | none => .tuple [fzN [], .bool false]
theorem waV_eq (p : Pb) (m : Int) : ∃ l ok, waV p m = .tuple [fzN l, .bool ok] ∧ ok = (waN p m).isSome ∧ (ok = true → waN p m = some l) ∧ (ok = false → l = []) := by
  unfold waV
  cases h : waN p m with
  | none => exact ⟨[], false, rfl, rfl, fun e => (by cases e), fun _ => rfl⟩
  | some l => exact ⟨l, true, rfl, rfl, fun _ => rfl, fun e => by cases e⟩
theorem waV_no {p : Pb} {m : Int} (h : waN p m = none) : waV p m = .tuple [fzN [], .bool false] := by unfold waV; rw [h]
theorem waV_some {p : Pb} {m : Int} {l : List Nat} (h : waN p m = some l) : waV p m = .tuple [fzN l, .bool true] := by unfold waV; rw [h]
theorem grN_no {p : Pb} (h : ¬ pck p = 0) : grN p = -1 := if_neg h
theorem grN_in {p : Pb} (h : pck p = 0) : grN p = grS (fun k => (waN p (k : Nat)).isSome) 0 (4 - 0) := if_pos h
theorem waN_no {p : Pb} {m : Int} (h : ¬ (pck p = 0 ∧ 0 ≤ m ∧ m ≤ 3)) : waN p m = none := if_neg h
theorem waN_in {p : Pb} {m : Int} (h : pck p = 0 ∧ 0 ≤ m ∧ m ≤ 3) : waN p m = fiN (loB p) p.users.toNat m.toNat [] 0 := if_pos h
theorem fi_pl {p : Pb} {m : Nat} {l : List Nat} (g : Go.V.Good p) (h : fiN (loB p) p.users.toNat m [] 0 = some l) : pl (wl l) 0 = l := by
  have g2 := g.u64
  obtain ⟨h1, h2, _, _⟩ := fiN_asc (by omega) (by simp) (fun x hx => by cases hx) h
  exact pl_wl h1 fun x hx => by have := h2 x hx; omega
theorem Weak_spec {x : SW} (H : Zf) (p : Pb) (hp : PbL p) (m : Int) (hm : -9223372036854775808 ≤ m ∧ m < 9223372036854775808) : F (psys x) 48 [.agg (pbB p), iI m] H fun v G => v = waV p m ∧ G = H := by
 refine Zq Tryd.func48 rfl u30 rfl ?_
 refine Zd (Za ?_)
 refine Lo u30 (Zs rfl rfl rfl) ?_
 refine Lo u30 (Zg (VVal.slice none 0 0 true 0) (.inr rfl) rfl) ?_
 refine Lo u30 (Zg (VVal.bool false) (.inr rfl) rfl) ?_
 refine Ze (Zc (Zd (Zd ?_)))
 refine ZX (Gh.freezePtrL (cs := pbB p) 2 0 rfl rfl rfl) ?_
 refine Za ?_
 refine Lo u30 (W2p rfl rfl rfl rfl rfl) ?_
 refine Zr rfl rfl rfl (by exact Yr _ p hp) ?_
 rintro _ _ ⟨rfl, rfl⟩
 refine Le u30 ?_
 refine Lo u30 (rfl) ?_
 refine Lo u30 (Zb (.inl rfl) rfl) ?_
 refine ZH 11 (env1 := u30) (env2 := u30) rfl rfl rfl (fun hg1 => ?_) (fun hg1 => ?_)
 ·try simp only [qB, qN] at hg1
  refine Lf u30 ?_
  refine Lf u30 ?_
  refine Lo u30 (ZL (VVal.bool true) rfl rfl rfl) ?_
  refine Lo u30 (Zb (.inl rfl) rfl) ?_
  refine Lf u30 ?_
  refine Lf u30 ?_
  refine Lo u30 (ZL (VVal.bool true) rfl rfl rfl) ?_
  refine Ze (Zc ?_)
  refine ZO rfl rfl ?_
  refine Zd (Za ?_)
  refine Lo u30 (Zg (VVal.slice none 0 0 true 0) (.inr rfl) rfl) ?_
  refine Lo u30 (Zg (VVal.bool false) (.inr rfl) rfl) ?_
  refine Ze (Zc ?_)
  first | refine ZX (Gh.freezeNil 4 (es' := 1) rfl rfl) ?_ | skip
  refine Zi (Zm ?_)
  refine W7d (.inr rfl) (Z3 rfl rfl rfl) ?_
  exact W7e
 ·try simp only [qB, qN] at hg1
  refine Lo u30 (Zb (.inl rfl) rfl) ?_
  refine Lo u30 (rfl) ?_
  refine Lo u30 (ZU rfl rfl rfl) ?_
  refine Lo u30 (Zb (.inl rfl) rfl) ?_
  refine ZH 15 (env1 := u30) (env2 := u30) rfl rfl rfl (fun hg2 => ?_) (fun hg2 => ?_)
  ·try simp only [qB, qN] at hg2
   refine Lf u30 ?_
   refine Lf u30 ?_
   refine Lo u30 (ZL (VVal.bool true) rfl rfl rfl) ?_
   refine Ze (Zc ?_)
   refine ZO rfl rfl ?_
   refine Zd (Za ?_)
   refine Lo u30 (Zg (VVal.slice none 0 0 true 0) (.inr rfl) rfl) ?_
   refine Lo u30 (Zg (VVal.bool false) (.inr rfl) rfl) ?_
   refine Ze (Zc ?_)
   first | refine ZX (Gh.freezeNil 4 (es' := 1) rfl rfl) ?_ | skip
   refine Zi (Zm ?_)
   refine W7d (.inr rfl) (Z3 rfl rfl rfl) ?_
   exact W7e
  ·try simp only [qB, qN] at hg2
   refine Lo u30 (Zb (.inl rfl) rfl) ?_
   refine Lo u30 (rfl) ?_
   refine Lo u30 (ZU rfl rfl rfl) ?_
   refine Ze (Zc ?_)
   refine Zl _ rfl (fun hc3 => ?_) (fun hc3 => ?_)
   ·try simp only [qB, qN] at hc3
    refine Zd (Za ?_)
    refine Lo u30 (Zg (VVal.slice none 0 0 true 0) (.inr rfl) rfl) ?_
    refine Lo u30 (Zg (VVal.bool false) (.inr rfl) rfl) ?_
    refine Ze (Zc ?_)
    first | refine ZX (Gh.freezeNil 4 (es' := 1) rfl rfl) ?_ | skip
    refine Zi (Zm ?_)
    refine W7d (.inr rfl) (Z3 rfl rfl rfl) ?_
    exact W7e
   ·try simp only [qB, qN] at hc3
    refine Zj (Zc (Zd ?_))
    have hk : pck p = 0 := by first | assumption | simp_all
    have g := pck_good.1 hk
    have hmm : 0 ≤ m ∧ m ≤ 3 := by constructor <;> (first | omega | (simp at *; omega))
    obtain ⟨n, rfl⟩ : ∃ n : Nat, m = n := ⟨m.toNat, by omega⟩
    have hwa := waN_in (p := p) (m := (n : Int)) ⟨hk, hmm⟩
    rw [Int.toNat_natCast] at hwa
    refine Za ?_
    refine Lo u30 (W2p rfl rfl rfl rfl rfl) ?_
    refine Lo u30 (rfl) ?_
    refine Lo u30 (Zb (.inl rfl) rfl) ?_
    refine Zr rfl rfl rfl (by exact first_spec p hp g n (by omega) _ [] 0 rfl) ?_
    rintro v _ ⟨hv, rfl⟩; obtain ⟨l, ok, he, h1, h2, h3⟩ := waV_eq p (n : Int); rw [← hwa, ← h1] at hv; subst hv
    refine Le u30 ?_
    refine Lo u30 (Zb (.inl rfl) rfl) ?_
    refine Lo u30 (rfl) ?_
    refine Lo u30 (rfl) ?_
    refine Lo u30 (Zv rfl rfl) ?_
    refine Lo u30 (W13 rfl rfl rfl rfl rfl rfl rfl) ?_
    refine Lo u30 (Zb (.inr rfl) rfl) ?_
    refine Ze (Zc (Zd (Zd (Za ?_))))
    refine Lo u30 (Zb (.inl rfl) rfl) ?_
    refine Lo u30 (rfl) ?_
    refine Ze (Zc ?_)
    refine Zl _ rfl (fun hc4 => ?_) (fun hc4 => ?_)
    ·try simp only [qB, qN] at hc4
     refine Zd (Za ?_)
     refine Lo u30 (Zg (VVal.slice none 0 0 true 0) (.inr rfl) rfl) ?_
     refine Lo u30 (Zg (VVal.bool false) (.inr rfl) rfl) ?_
     refine Ze (Zc ?_)
     first | refine ZX (Gh.freezeNil 4 (es' := 1) rfl rfl) ?_ | skip
     refine Zi (Zm ?_)
     refine W7d (.inr rfl) (Z3 rfl rfl rfl) ?_
     exact W7e
    ·try simp only [qB, qN] at hc4
     refine Zj (Zc (Zd (Za ?_)))
     refine Lo u30 (W2p rfl rfl rfl rfl rfl) ?_
     refine Zr rfl rfl rfl (by exact Places_spec _ _) ?_
     rintro _ _ ⟨rfl, rfl⟩
     refine Le u30 ?_
     refine Lo u30 (Zb (.inr rfl) rfl) ?_
     refine Lo u30 (Zg (VVal.bool true) (.inr rfl) rfl) ?_
     refine Ze (Zc ?_)
     first | refine ZX (Gh.freezeNil 4 (es' := 1) rfl rfl) ?_ | skip
     refine Zi ?_
     refine W7d (.inr rfl) (Z3 rfl rfl rfl) ?_
     exact W7e
theorem Grade_spec {x : SW} (H : Zf) (p : Pb) (hp : PbL p) : F (psys x) 52 [.agg (pbB p)] H fun v G => v = iI (grN p) ∧ G = H := by
 refine Zq Tryd.func52 rfl u22 rfl ?_
 refine Zd (Za ?_)
 refine Lo u22 (Zs rfl rfl rfl) ?_
 refine Lo u22 (Zg (VVal.int .i64 0) (.inr rfl) rfl) ?_
 refine Ze (Zc (Zd (Zd ?_)))
 refine ZX (Gh.freezePtrL (cs := pbB p) 1 0 rfl rfl rfl) ?_
 refine Za ?_
 refine Lo u22 (W2p rfl rfl rfl rfl rfl) ?_
 refine Zr rfl rfl rfl (by exact Yr _ p hp) ?_
 rintro _ _ ⟨rfl, rfl⟩
 refine Le u22 ?_
 refine Lo u22 (rfl) ?_
 refine Ze (Zc ?_)
 refine Zl _ rfl (fun hc1 => ?_) (fun hc1 => ?_)
 ·try simp only [qB, qN] at hc1
  refine Zd (Za ?_)
  refine Lo u22 (Zg (VVal.int .i64 (-1)) (.inr rfl) rfl) ?_
  refine Ze (Zc (Zi (Zm ?_)))
  refine W10 (.inr rfl) (Zh rfl rfl) ?_
  exact W7h
 ·try simp only [qB, qN] at hc1
  refine Zj (Zc (Zd (Zd (Za ?_))))
  refine Lo u22 (Zg (VVal.int .i64 0) (.inl rfl) rfl) ?_
  refine Ze (Zc (Zk ?_))
  refine Zt (mk 22 4193789) (env' := u22) rfl ?_
  refine Zz (fun (k : Nat) => 4 - k) (fun (k : Nat) => [(9, iI (k : Nat))]) (fun (k : Nat) G => (k ≤ 4 ∧ grS (fun k => (waN p (k : Nat)).isSome) 0 (4 - 0) = grS (fun k => (waN p (k : Nat)).isSome) k (4 - k)) ∧ G = H ++ [.dead]) 0 rfl ?_ ?_
  ·refine ⟨?_, rfl⟩
   exact ⟨Nat.zero_le _, rfl⟩
  rintro k _ ⟨⟨hk, hgr⟩, rfl⟩
  refine ZQ (env' := u22) rfl ?_
  refine Zd (Za ?_)
  refine Lo u22 (rfl) ?_
  refine Ze (Zc (Zd ?_))
  refine Zl _ rfl (fun hc2 => ?_) (fun hc2 => ?_)
  ·try simp only [qB, qN] at hc2
   refine Zj (Zc (Zd (Zk (Zd (Za ?_)))))
   refine Lo u22 (Zb (.inl rfl) rfl) ?_
   refine Lo u22 (Zb (.inr rfl) rfl) ?_
   refine Ze (Zc (Zd (Za ?_)))
   refine Lo u22 (W2p rfl rfl rfl rfl rfl) ?_
   refine Lo u22 (Zb (.inl rfl) rfl) ?_
   refine Zr rfl rfl rfl (by exact Weak_spec _ p hp (k : Nat) (by omega)) ?_
   rintro v _ ⟨hv, rfl⟩; obtain ⟨l, ok, he, h1, h2, h3⟩ := waV_eq p ((k : Nat) : Int); rw [he] at hv; subst hv
   refine Le u22 ?_
   refine Lo u22 (Zb (.inl rfl) rfl) ?_
   refine Lo u22 (rfl) ?_
   refine Lo u22 (rfl) ?_
   refine Lo u22 (Zb (.inr rfl) rfl) ?_
   refine Lo u22 (Zb (.inr rfl) rfl) ?_
   refine Ze (Zc (Zd (Za ?_)))
   refine Lo u22 (Zb (.inl rfl) rfl) ?_
   refine Ze (Zc ?_)
   refine Zl _ rfl (fun hc3 => ?_) (fun hc3 => ?_)
   ·try simp only [qB, qN] at hc3
    refine Zd (Za ?_)
    refine Lo u22 (Zb (.inl rfl) rfl) ?_
    refine Lo u22 (W1y rfl rfl rfl) ?_
    refine Lo u22 (Zb (.inr rfl) rfl) ?_
    refine Ze (Zc (Zi (ZB (Zm (Z5 (ZB (Zm ?_)))))))
    refine W10 (.inr rfl) (Zh rfl rfl) ?_
    exact W7h
   ·try simp only [qB, qN] at hc3
    refine Zj (ZA (Zc (Za ?_)))
    refine Lo u22 (W14 rfl rfl rfl) ?_
    refine Lo u22 (Zb (.inl rfl) rfl) ?_
    refine Ze ?_
    refine Zw (mk 22 4193789) (env' := u22) rfl ⟨k + 1, ?_, rfl, ?_⟩
    ·first | omega | (simp only []; omega)
    ·exact ⟨⟨by omega, hgr.trans (grS_on (by omega) (h1.symm.trans XH19))⟩, rfl⟩
  ·try simp only [qB, qN] at hc2
   refine ZF (ZD (Zu (ZE (Zc (Zd (Za ?_))))))
   refine Lo u22 (Zg (VVal.int .i64 3) (.inr rfl) rfl) ?_
   refine Ze (Zc (Zi ?_))
   refine W10 (.inr rfl) (Zh rfl rfl) ?_
   exact W7h
def ph : Pb := (3, [1#64, 6#64], [-1, -1], [], ())
theorem ph_L : PbL ph := ⟨by decide, by decide, by decide, by decide, fun r hr => by cases hr⟩
theorem ph_w : waN ph 2 = some [0, 1] := by decide +kernel
theorem ph_n : neP ph = 1#64 := by decide +kernel
theorem ph_g : grN ph = 0 := by decide +kernel
theorem ph_v : waV ph 2 = .tuple [fzI [0, 1], .bool true] := by rw [waV_some ph_w]; rfl
theorem hwakes_spec {x : SW} (H : Zf) : F (psys x) 47 [] H fun v G => v = .bool true ∧ G = H := by
 refine Zq Tryd.func47 rfl u28 rfl ?_
 refine Zd (Za ?_)
 refine Lo u28 (Zg (VVal.bool false) (.inr rfl) rfl) ?_
 refine Ze (Zc (Zd (Za ?_)))
 refine Lo u28 (Zx rfl rfl (by decide) rfl) ?_
 refine Lo u28 (Zx rfl rfl (by decide) rfl) ?_
 refine Lo u28 (rfl) ?_
 refine Lo u28 (Zv rfl rfl) ?_
 refine Lo u28 (W13 rfl rfl rfl rfl rfl rfl rfl) ?_
 refine Ze (Zc (Zd (Za ?_)))
 refine L_gh (Gh.cellL (l := [iW 1#64, iW 6#64]) 2 1 0 rfl rfl (by decide) rfl rfl (Nat.le_refl _)) ?_
 refine L_gh (Gh.cellL (l := [iI (-1), iI (-1)]) 2 2 1 rfl rfl (by decide) rfl rfl (Nat.le_refl _)) ?_
 refine L_gh (Gh.cellNilL 2 3 (es' := 3) rfl rfl) ?_
 refine Lo u28 (W11 rfl rfl rfl rfl rfl) ?_
 refine Zr rfl rfl rfl (by exact Weak_spec _ ph ph_L 2 (by decide)) ?_
 rintro v _ ⟨hv, rfl⟩; rw [ph_v] at hv; subst hv
 refine Le u28 ?_
 refine Lo u28 (Zb (.inl rfl) rfl) ?_
 refine Lo u28 (rfl) ?_
 refine Lo u28 (rfl) ?_
 refine Lo u28 (Zb (.inr rfl) rfl) ?_
 refine Lo u28 (Zb (.inr rfl) rfl) ?_
 refine Ze (Zc (Zd (Za ?_)))
 refine Lo u28 (W11 rfl rfl rfl rfl rfl) ?_
 refine Zr rfl rfl rfl (by exact Needed_spec _ ph ph_L) ?_
 rintro v _ ⟨hv, rfl⟩; rw [ph_n] at hv; subst hv
 refine Le u28 ?_
 refine Lo u28 (v_is true rfl rfl) ?_
 refine Lo u28 (Zb (.inl rfl) rfl) ?_
 refine Lo u28 (Zb (.inl rfl) rfl) ?_
 refine Lo u28 (ZN rfl rfl rfl) ?_
 refine Lo u28 (Zb (.inl rfl) rfl) ?_
 refine Lo u28 (Zb (.inl rfl) rfl) ?_
 refine Lo u28 (Zx rfl rfl (by decide) rfl) ?_
 refine L_gh (Gh.freezeL (l := [iI 0, iI 1]) 20 3 rfl rfl rfl (Nat.le_refl _) rfl) ?_
 refine Zr rfl rfl rfl (by exact kInts_spec _ [0, 1] [0, 1] (by decide)) ?_
 rintro v _ ⟨hv, rfl⟩; obtain rfl : v = .bool true := hv.trans (congrArg VVal.bool (by decide))
 refine Le u28 ?_
 refine Lo u28 (ZN rfl rfl rfl) ?_
 refine Lo u28 (Zb (.inl rfl) rfl) ?_
 refine Lo u28 (W11 rfl rfl rfl rfl rfl) ?_
 refine Zr rfl rfl rfl (by exact Grade_spec _ ph ph_L) ?_
 rintro v _ ⟨hv, rfl⟩; rw [ph_g] at hv; subst hv
 refine Le u28 ?_
 refine Lo u28 (v_is true rfl rfl) ?_
 refine Lo u28 (ZN rfl rfl rfl) ?_
 refine Lo u28 (Zb (.inr rfl) rfl) ?_
 refine Ze (Zc (Zi ?_))
 refine W10 (.inr rfl) (Zh rfl rfl) ?_
 exact ⟨rfl, rfl⟩
abbrev seB (w : BitVec 64) : VBlk := .cells [iW w] true
abbrev jN (u : Nat) : VVal := iI (u : Nat)
theorem not_of_f {b : Bool} (h : b = false) : ¬ b = true := by rw [h]; decide
theorem beq_nat {a b : Nat} : ((a : Int) == (b : Int)) = (a == b) := Bool.eq_iff_iff.2 (by rw [beq_iff_eq, beq_iff_eq]; omega)
theorem find_no' {pre : List Nat} {f : Nat → Bool} (h : ∀ v, v ∈ pre → f v = false) : pre.find? f = none := List.find?_eq_none.2 fun v hv => by rw [h v hv]; decide
theorem find_yes {pre post : List Nat} {c : Nat} {f : Nat → Bool} (h : ∀ v, v ∈ pre → f v = false) (hc : f c = true) : (pre ++ c :: post).find? f = some c := by
  rw [List.find?_append, find_no' h, List.find?_cons, hc]; rfl
theorem full0 {l : List (BitVec 64)} : Yf l 0#64 = true ↔ Mat l := by rw [fullB_iff, msk_0]
def szV (l : List (BitVec 64)) : Int := if l.length ≤ 12 then (szN l : Nat) else 0
def leV (rows : List (BitVec 64)) : VVal := if rows.length ≤ 12 ∧ Yf rows 0#64 = true then .tuple [fzN (lst rows 0#64), .bool true] else .tuple [fzN [], .bool false]
abbrev u38 {a0 a1 a2 a3 a4 a5 a6 a7 a8 a9 a10 a11 a12 a13 a14 a15 a16 a17 a18 a19 a20 a21 a22 a23 a24 a25 a26 a27 a28 a29 a30 a31 a32 a33 a34 a35 a36 a37 : VVal} : VEnv := a0 :: a1 :: a2 :: a3 :: a4 :: a5 :: a6 :: a7 :: a8 :: a9 :: a10 :: a11 :: a12 :: a13 :: a14 :: a15 :: a16 :: a17 :: a18 :: a19 :: a20 :: a21 :: a22 :: a23 :: a24 :: a25 :: a26 :: a27 :: a28 :: a29 :: a30 :: a31 :: a32 :: a33 :: a34 :: a35 :: a36 :: a37 :: []
abbrev u39 {a0 a1 a2 a3 a4 a5 a6 a7 a8 a9 a10 a11 a12 a13 a14 a15 a16 a17 a18 a19 a20 a21 a22 a23 a24 a25 a26 a27 a28 a29 a30 a31 a32 a33 a34 a35 a36 a37 a38 : VVal} : VEnv := a0 :: a1 :: a2 :: a3 :: a4 :: a5 :: a6 :: a7 :: a8 :: a9 :: a10 :: a11 :: a12 :: a13 :: a14 :: a15 :: a16 :: a17 :: a18 :: a19 :: a20 :: a21 :: a22 :: a23 :: a24 :: a25 :: a26 :: a27 :: a28 :: a29 :: a30 :: a31 :: a32 :: a33 :: a34 :: a35 :: a36 :: a37 :: a38 :: []
theorem W7n {P : Prop} (h : P := by first | exact ⟨by rw [myB_f g hi (by assumption), beq_d], rfl⟩ | exact ⟨by rw [myB_w g hi (by omega), decide_eq_false (by omega)]; rfl, rfl⟩ | exact ⟨by rw [myB_w g hi (by omega), decide_eq_true (by omega), Bool.true_and]; exact congrArg VVal.bool bit_eq, rfl⟩) : P := h
theorem W7o {P : Prop} (h : P := by first | exact ⟨rfl, rfl⟩ | (exfalso; omega)) : P := h
theorem May_spec {x : SW} (H : Zf) (p : Pb) (g : Go.V.Good p) (i : Nat) (hi : i < p.who.length) (u : Int) : F (psys x) 64 [.agg (pbB p), iI (i : Nat), iI u] H fun v G => v = .bool (myB p i u) ∧ G = H := by
 have g5 := g.fx
 refine Zq Tryd.func64 rfl u39 rfl ?_
 refine Zd (Za ?_)
 refine Lo u39 (Zs rfl rfl rfl) ?_
 refine Lo u39 (Zg (VVal.bool false) (.inr rfl) rfl) ?_
 refine Ze (Zc (Zd (Zd (Za ?_))))
 refine Lo u39 (rfl) ?_
 refine Lo u39 (W2r rfl rfl rfl rfl) ?_
 refine Lo u39 (Zb (.inl rfl) rfl) ?_
 refine Lo u39 (W18 rfl rfl rfl rfl rfl rfl rfl) ?_
 refine Lo u39 (W2r rfl rfl rfl rfl) ?_
 refine Lo u39 (rfl) ?_
 refine Ze (Zc ?_)
 refine Zl _ rfl (fun hc1 => ?_) (fun hc1 => ?_)
 ·try simp only [qB, qN] at hc1
  refine Zd (Za ?_)
  refine Lo u39 (Zb (.inl rfl) rfl) ?_
  refine Lo u39 (rfl) ?_
  refine Lo u39 (W2r rfl rfl rfl rfl) ?_
  refine Lo u39 (Zb (.inl rfl) rfl) ?_
  refine Lo u39 (W18 rfl rfl rfl rfl rfl rfl rfl) ?_
  refine Lo u39 (W2r rfl rfl rfl rfl) ?_
  refine Lo u39 (rfl) ?_
  refine Lo u39 (Zb (.inr rfl) rfl) ?_
  refine Ze (Zc (Zi (Zm ?_)))
  refine W10 (.inr rfl) (Zh rfl rfl) ?_
  exact W7n
 ·try simp only [qB, qN] at hc1
  refine Zj (Zc (Zd (Za ?_)))
  refine Lo u39 (Zb (.inl rfl) rfl) ?_
  refine Lo u39 (rfl) ?_
  refine Lo u39 (Zb (.inl rfl) rfl) ?_
  refine ZH 22 (env1 := u39) (env2 := u39) rfl rfl rfl (fun hg2 => ?_) (fun hg2 => ?_)
  ·try simp only [qB, qN] at hg2
   refine Lo u39 (Zb (.inl rfl) rfl) ?_
   refine Lo u39 (rfl) ?_
   refine Lo u39 (W2r rfl rfl rfl rfl) ?_
   refine Lo u39 (rfl) ?_
   refine Lo u39 (ZN rfl rfl rfl) ?_
   refine Lo u39 (Zb (.inl rfl) rfl) ?_
   refine ZH 28 (env1 := u39) (env2 := u39) rfl rfl rfl (fun hg3 => ?_) (fun hg3 => ?_)
   ·try simp only [qB, qN] at hg3
    refine Lo u39 (rfl) ?_
    refine Lo u39 (W2r rfl rfl rfl rfl) ?_
    refine Lo u39 (Zb (.inl rfl) rfl) ?_
    refine Lo u39 (W18 rfl rfl rfl rfl rfl rfl rfl) ?_
    refine Lo u39 (W2r rfl rfl rfl rfl) ?_
    refine Lo u39 (Zb (.inl rfl) rfl) ?_
    refine Lo u39 (v_shrW rfl rfl rfl XH5) ?_
    refine Lo u39 (v_andW (b := 1#64) rfl rfl rfl) ?_
    refine Lo u39 (rfl) ?_
    refine Lo u39 (ZN rfl rfl rfl) ?_
    refine Lo u39 (Zb (.inr rfl) rfl) ?_
    refine Ze (Zc (Zi ?_))
    refine W10 (.inr rfl) (Zh rfl rfl) ?_
    exact W7n
   ·try simp only [qB, qN] at hg3
    refine Lf u39 ?_
    refine Lf u39 ?_
    refine Lf u39 ?_
    refine Lf u39 ?_
    refine Lf u39 ?_
    refine Lf u39 ?_
    refine Lf u39 ?_
    refine Lf u39 ?_
    refine Lf u39 ?_
    refine Lo u39 (ZI (VVal.bool false) rfl rfl rfl) ?_
    refine Lo u39 (Zb (.inr rfl) rfl) ?_
    refine Ze (Zc (Zi ?_))
    refine W10 (.inr rfl) (Zh rfl rfl) ?_
    exact W7n
  ·try simp only [qB, qN] at hg2
   refine Lf u39 ?_
   refine Lf u39 ?_
   refine Lf u39 ?_
   refine Lf u39 ?_
   refine Lo u39 (ZI (VVal.bool false) rfl rfl rfl) ?_
   refine Lo u39 (Zb (.inl rfl) rfl) ?_
   refine Lf u39 ?_
   refine Lf u39 ?_
   refine Lf u39 ?_
   refine Lf u39 ?_
   refine Lf u39 ?_
   refine Lf u39 ?_
   refine Lf u39 ?_
   refine Lf u39 ?_
   refine Lf u39 ?_
   refine Lo u39 (ZI (VVal.bool false) rfl rfl rfl) ?_
   refine Lo u39 (Zb (.inr rfl) rfl) ?_
   refine Ze (Zc (Zi ?_))
   refine W10 (.inr rfl) (Zh rfl rfl) ?_
   exact W7n
theorem szP_succ {a : List Nat} {k : Nat} : szP a (k + 1) = if a.getD k 0 = szP a k then szP a k + 1 else szP a k := rfl
theorem Legal_spec {x : SW} (H : Zf) (a : List Nat) (ha : Pat a) (hl : a.length ≤ 12) : F (psys x) 131 [fzN a] H fun v G => v = .bool true ∧ G = H := by
 refine Zq Tryd.func131 rfl u38 rfl ?_
 refine Zd (Za ?_)
 refine Lo u38 (Zg (VVal.bool false) (.inr rfl) rfl) ?_
 refine Ze (Zc (Zd (Zd (Za ?_))))
 refine Lo u38 (Zb (.inl rfl) rfl) ?_
 refine Lo u38 (rfl) ?_
 refine Lo u38 (rfl) ?_
 refine Ze (Zc ?_)
 refine Zl _ rfl (fun hc1 => ?_) (fun hc1 => ?_)
 ·try simp only [qB, qN] at hc1
  refine Zd (Za ?_)
  refine Lo u38 (Zg (VVal.bool false) (.inr rfl) rfl) ?_
  refine Ze (Zc (Zi (Zm ?_)))
  refine W10 (.inr rfl) (Zh rfl rfl) ?_
  exact W7o
 ·try simp only [qB, qN] at hc1
  refine Zj (Zc (Zd (Za ?_)))
  refine Lo u38 (Zg (VVal.int .i64 (-1)) (.inr rfl) rfl) ?_
  refine Ze (Zc (Zd (Zd (Za ?_))))
  refine Lo u38 (Zg (VVal.int .i64 0) (.inr rfl) rfl) ?_
  refine Ze (Zc (Zk ?_))
  refine Zt (mk 38 274877906918) (env' := u38) rfl ?_
  refine Zz (fun (k : Nat) => a.length - k) (fun (k : Nat) => [(3, iI (((szP a k : Nat) : Int) - 1)), (4, iI (k : Nat))]) (fun (k : Nat) G => (k ≤ a.length) ∧ G = H ++ []) 0 rfl ?_ ?_
  ·refine ⟨?_, rfl⟩
   exact Nat.zero_le _
  rintro k _ ⟨hk, rfl⟩
  refine ZQ (env' := u38) rfl ?_
  refine Zd (Zd (Za ?_))
  refine Lo u38 (Zb (.inl rfl) rfl) ?_
  refine Lo u38 (Zb (.inl rfl) rfl) ?_
  refine Lo u38 (rfl) ?_
  refine Lo u38 (rfl) ?_
  refine Ze (Zc ?_)
  refine Zl _ rfl (fun hc2 => ?_) (fun hc2 => ?_)
  ·try simp only [qB, qN] at hc2
   refine Zj (Zc (Zd (Zk (Zd (Zd ?_)))))
   have hpk := ha k (by omega)
   have hz := @szP_le a k
   refine Za ?_
   refine Lo u38 (Zb (.inl rfl) rfl) ?_
   refine Lo u38 (Zb (.inl rfl) rfl) ?_
   refine Lo u38 (W18 rfl rfl rfl rfl rfl rfl rfl) ?_
   refine Lo u38 (W4x rfl rfl rfl rfl) ?_
   refine Lo u38 (rfl) ?_
   refine Lo u38 (Zb (.inl rfl) rfl) ?_
   refine ZH 19 (env1 := u38) (env2 := u38) rfl rfl rfl (fun hg3 => ?_) (fun hg3 => ?_)
   ·try simp only [qB, qN] at hg3
    refine Lf u38 ?_
    refine Lf u38 ?_
    refine Lf u38 ?_
    refine Lf u38 ?_
    refine Lf u38 ?_
    refine Lf u38 ?_
    refine Lf u38 ?_
    refine Lo u38 (ZL (VVal.bool true) rfl rfl rfl) ?_
    refine Ze (Zc ?_)
    refine ZO rfl rfl ?_
    refine Zd (Za ?_)
    refine Lo u38 (Zg (VVal.bool false) (.inr rfl) rfl) ?_
    refine Ze (Zc (Zi (Zm (ZB (Zm (Z5 (ZB (Zm ?_))))))))
    refine W10 (.inr rfl) (Zh rfl rfl) ?_
    exact W7o
   ·try simp only [qB, qN] at hg3
    refine Lo u38 (Zb (.inl rfl) rfl) ?_
    refine Lo u38 (Zb (.inl rfl) rfl) ?_
    refine Lo u38 (W18 rfl rfl rfl rfl rfl rfl rfl) ?_
    refine Lo u38 (W4x rfl rfl rfl rfl) ?_
    refine Lo u38 (Zb (.inl rfl) rfl) ?_
    refine Lo u38 (W14 rfl rfl rfl) ?_
    refine Lo u38 (rfl) ?_
    refine Lo u38 (ZU rfl rfl rfl) ?_
    refine Ze (Zc ?_)
    refine Zl _ rfl (fun hc4 => ?_) (fun hc4 => ?_)
    ·try simp only [qB, qN] at hc4
     refine Zd (Za ?_)
     refine Lo u38 (Zg (VVal.bool false) (.inr rfl) rfl) ?_
     refine Ze (Zc (Zi (Zm (ZB (Zm (Z5 (ZB (Zm ?_))))))))
     refine W10 (.inr rfl) (Zh rfl rfl) ?_
     exact W7o
    ·try simp only [qB, qN] at hc4
     refine Zj (Zc (Zd (Za ?_)))
     refine Lo u38 (Zb (.inl rfl) rfl) ?_
     refine Lo u38 (Zb (.inl rfl) rfl) ?_
     refine Lo u38 (W18 rfl rfl rfl rfl rfl rfl rfl) ?_
     refine Lo u38 (W4x rfl rfl rfl rfl) ?_
     refine Lo u38 (Zb (.inl rfl) rfl) ?_
     refine Lo u38 (rfl) ?_
     refine Ze (Zc ?_)
     refine Zl _ rfl (fun hc5 => ?_) (fun hc5 => ?_)
     ·try simp only [qB, qN] at hc5
      refine Za ?_
      refine Lo u38 (Zb (.inl rfl) rfl) ?_
      refine Lo u38 (Zb (.inl rfl) rfl) ?_
      refine Lo u38 (W18 rfl rfl rfl rfl rfl rfl rfl) ?_
      refine Lo u38 (W4x rfl rfl rfl rfl) ?_
      refine Lo u38 (Zb (.inr rfl) rfl) ?_
      refine Ze (ZA (Zc (Za ?_)))
      refine Lo u38 (Zb (.inl rfl) rfl) ?_
      refine Lo u38 (W14 rfl rfl rfl) ?_
      refine Lo u38 (Zb (.inr rfl) rfl) ?_
      refine Ze ?_
      first
        | (have hE : ((a.getD k 0 : Nat) : Int) = ((szP a (k + 1) : Nat) : Int) - 1 := by rw [szP_succ, if_pos (by omega)]; omega); rw [hE]
        | (have hE : szP a k = szP a (k + 1) := by rw [szP_succ, if_neg (by omega)]); rw [hE]
      refine Zw (mk 38 274877906918) (env' := u38) rfl ⟨k + 1, ?_, rfl, ?_⟩
      ·first | omega | (simp only []; omega)
      ·exact ⟨by omega, rfl⟩
     ·try simp only [qB, qN] at hc5
      refine Zj (ZA (Zc (Za ?_)))
      refine Lo u38 (Zb (.inl rfl) rfl) ?_
      refine Lo u38 (W14 rfl rfl rfl) ?_
      refine Lo u38 (Zb (.inr rfl) rfl) ?_
      refine Ze ?_
      first
        | (have hE : ((a.getD k 0 : Nat) : Int) = ((szP a (k + 1) : Nat) : Int) - 1 := by rw [szP_succ, if_pos (by omega)]; omega); rw [hE]
        | (have hE : szP a k = szP a (k + 1) := by rw [szP_succ, if_neg (by omega)]); rw [hE]
      refine Zw (mk 38 274877906918) (env' := u38) rfl ⟨k + 1, ?_, rfl, ?_⟩
      ·first | omega | (simp only []; omega)
      ·exact ⟨by omega, rfl⟩
  ·try simp only [qB, qN] at hc2
   refine ZF (ZD (Zu (ZE (Zc (Zd (Za ?_))))))
   refine Lo u38 (Zg (VVal.bool true) (.inr rfl) rfl) ?_
   refine Ze (Zc (Zi ?_))
   refine W10 (.inr rfl) (Zh rfl rfl) ?_
   exact W7o
theorem top_spec {x : SW} (H : Zf) (a : List Nat) (ha : Pat a) (hl : a.length ≤ 12) : F (psys x) 132 [fzN a] H fun v G => v = iI (((szP a a.length : Nat) : Int) - 1) ∧ G = H := by
 refine Zq Tryd.func132 rfl u22 rfl ?_
 refine Zd (Za ?_)
 refine Lo u22 (Zg (VVal.int .i64 0) (.inr rfl) rfl) ?_
 refine Ze (Zc (Zd (Za ?_)))
 refine Lo u22 (Zg (VVal.int .i64 (-1)) (.inr rfl) rfl) ?_
 refine Ze (Zc (Zd (Zd (Za ?_))))
 refine Lo u22 (Zg (VVal.int .i64 0) (.inr rfl) rfl) ?_
 refine Ze (Zc (Zk ?_))
 refine Zt (mk 22 4194278) (env' := u22) rfl ?_
 refine Zz (fun (k : Nat) => a.length - k) (fun (k : Nat) => [(3, iI (((szP a k : Nat) : Int) - 1)), (4, iI (k : Nat))]) (fun (k : Nat) G => (k ≤ a.length) ∧ G = H ++ []) 0 rfl ?_ ?_
 ·refine ⟨?_, rfl⟩
  exact Nat.zero_le _
 rintro k _ ⟨hk, rfl⟩
 refine ZQ (env' := u22) rfl ?_
 refine Zd (Zd (Za ?_))
 refine Lo u22 (Zb (.inl rfl) rfl) ?_
 refine Lo u22 (Zb (.inl rfl) rfl) ?_
 refine Lo u22 (rfl) ?_
 refine Lo u22 (rfl) ?_
 refine Ze (Zc ?_)
 refine Zl _ rfl (fun hc1 => ?_) (fun hc1 => ?_)
 ·try simp only [qB, qN] at hc1
  refine Zj (Zc (Zd (Zk (Zd ?_))))
  have hpk := ha k (by omega)
  have hz := @szP_le a k
  refine Za ?_
  refine Lo u22 (Zb (.inl rfl) rfl) ?_
  refine Lo u22 (Zb (.inl rfl) rfl) ?_
  refine Lo u22 (W18 rfl rfl rfl rfl rfl rfl rfl) ?_
  refine Lo u22 (W4x rfl rfl rfl rfl) ?_
  refine Lo u22 (Zb (.inl rfl) rfl) ?_
  refine Lo u22 (rfl) ?_
  refine Ze (Zc ?_)
  refine Zl _ rfl (fun hc2 => ?_) (fun hc2 => ?_)
  ·try simp only [qB, qN] at hc2
   refine Za ?_
   refine Lo u22 (Zb (.inl rfl) rfl) ?_
   refine Lo u22 (Zb (.inl rfl) rfl) ?_
   refine Lo u22 (W18 rfl rfl rfl rfl rfl rfl rfl) ?_
   refine Lo u22 (W4x rfl rfl rfl rfl) ?_
   refine Lo u22 (Zb (.inr rfl) rfl) ?_
   refine Ze (ZA (Zc (Za ?_)))
   refine Lo u22 (Zb (.inl rfl) rfl) ?_
   refine Lo u22 (W14 rfl rfl rfl) ?_
   refine Lo u22 (Zb (.inr rfl) rfl) ?_
   refine Ze ?_
   first
     | (have hE : ((a.getD k 0 : Nat) : Int) = ((szP a (k + 1) : Nat) : Int) - 1 := by rw [szP_succ, if_pos (by omega)]; omega); rw [hE]
     | (have hE : szP a k = szP a (k + 1) := by rw [szP_succ, if_neg (by omega)]); rw [hE]
   refine Zw (mk 22 4194278) (env' := u22) rfl ⟨k + 1, ?_, rfl, ?_⟩
   ·first | omega | (simp only []; omega)
   ·exact ⟨by omega, rfl⟩
  ·try simp only [qB, qN] at hc2
   refine Zj (ZA (Zc (Za ?_)))
   refine Lo u22 (Zb (.inl rfl) rfl) ?_
   refine Lo u22 (W14 rfl rfl rfl) ?_
   refine Lo u22 (Zb (.inr rfl) rfl) ?_
   refine Ze ?_
   first
     | (have hE : ((a.getD k 0 : Nat) : Int) = ((szP a (k + 1) : Nat) : Int) - 1 := by rw [szP_succ, if_pos (by omega)]; omega); rw [hE]
     | (have hE : szP a k = szP a (k + 1) := by rw [szP_succ, if_neg (by omega)]); rw [hE]
   refine Zw (mk 22 4194278) (env' := u22) rfl ⟨k + 1, ?_, rfl, ?_⟩
   ·first | omega | (simp only []; omega)
   ·exact ⟨by omega, rfl⟩
 ·try simp only [qB, qN] at hc1
  refine ZF (ZD (Zu (ZE (Zc (Zd (Za ?_))))))
  refine Lo u22 (Zb (.inl rfl) rfl) ?_
  refine Lo u22 (Zb (.inr rfl) rfl) ?_
  refine Ze (Zc (Zi ?_))
  refine W10 (.inr rfl) (Zh rfl rfl) ?_
  obtain rfl : k = a.length := by omega
  exact ⟨rfl, rfl⟩
theorem Size_spec {x : SW} (H : Zf) (a : List Nat) (ha : Pat a) (hl : a.length ≤ 12) : F (psys x) 101 [fzN a] H fun v G => v = iI (szP a a.length : Nat) ∧ G = H := by
 have hz := @szP_le a a.length
 refine Zq Tryd.func101 rfl u9 rfl ?_
 refine Zd (Za ?_)
 refine Lo u9 (Zg (VVal.int .i64 0) (.inr rfl) rfl) ?_
 refine Ze (Zc (Zd (Zd (Za ?_))))
 refine Lo u9 (Zb (.inl rfl) rfl) ?_
 refine Zr rfl rfl rfl (by exact Legal_spec _ _ ha hl) ?_
 rintro _ _ ⟨rfl, rfl⟩
 refine Le u9 ?_
 refine Lo u9 (rfl) ?_
 refine Ze (Zc ?_)
 refine ZY rfl rfl ?_
 refine Zj (Zc (Zd (Za ?_)))
 refine Lo u9 (Zb (.inl rfl) rfl) ?_
 refine Zr rfl rfl rfl (by exact top_spec _ _ ha hl) ?_
 rintro _ _ ⟨rfl, rfl⟩
 refine Le u9 ?_
 refine Lo u9 (v_val (v_addI rfl rfl rfl (by omega)) (show iI ((((szP a a.length : Nat) : Int) - 1) + 1) = iI (szP a a.length : Nat) by congr 1; omega)) ?_
 refine Lo u9 (Zb (.inr rfl) rfl) ?_
 refine Ze (Zc (Zi ?_))
 refine W10 (.inr rfl) (Zh rfl rfl) ?_
 exact ⟨rfl, rfl⟩
def bkK (a : List Nat) (b k : Nat) : List Nat := (List.range k).filter fun i => a.getD i 0 == b
abbrev bkL (a : List Nat) (b : Nat) : List Nat := bkK a b a.length
theorem bkK_yes {a : List Nat} {b k : Nat} (h : a.getD k 0 = b) : bkK a b (k + 1) = bkK a b k ++ [k] := by
  unfold bkK; rw [List.range_succ, List.filter_append, List.filter_cons, if_pos (by rw [h]; exact beq_self_eq_true b)]; rfl
theorem bkK_no {a : List Nat} {b k : Nat} (h : ¬ a.getD k 0 = b) : bkK a b (k + 1) = bkK a b k := by
  unfold bkK; rw [List.range_succ, List.filter_append, List.filter_cons, if_neg (by simpa using h)]; simp
theorem bkK_len {a : List Nat} {b k : Nat} : (bkK a b k).length ≤ k := by
  unfold bkK; exact Nat.le_trans (List.length_filter_le _ _) (by simp)
theorem bkL_mem {a : List Nat} {b i : Nat} : i ∈ bkL a b ↔ i < a.length ∧ a.getD i 0 = b := by
  unfold bkL bkK; rw [List.mem_filter, List.mem_range, beq_iff_eq]
abbrev bkC (a : List Nat) (b : Nat) : List VVal := (List.range b).map fun c => fzN (bkL a c)
theorem bkC_succ {a : List Nat} {b : Nat} : bkC a (b + 1) = bkC a b ++ [fzN (bkL a b)] := by
  show (List.range (b + 1)).map _ = _; rw [List.range_succ, List.map_append]; rfl
theorem bkC_get {a : List Nat} {b i : Nat} (h : i < b) : (bkC a b)[((i : Nat) : Int).toNat * 1]? = some (fzN (bkL a i)) := by
  rw [Int.toNat_natCast, Nat.mul_one]; simp [h]
theorem Blocks_spec {x : SW} (H : Zf) (a : List Nat) (ha : Pat a) (hl : a.length ≤ 12) : F (psys x) 130 [fzN a] H fun v G => v = .fsl (bkC a (szP a a.length)) (szP a a.length) 1 false ∧ G = H := by
 have hz := @szP_le a a.length
 refine Zq Tryd.func130 rfl u38 rfl ?_
 refine Zd (Za ?_)
 refine Lo u38 (Zg (VVal.slice none 0 0 true 0) (.inr rfl) rfl) ?_
 refine Ze (Zc (Zd (Za ?_)))
 refine Lo u38 (Zg (VVal.slice none 0 0 true 0) (.inr rfl) rfl) ?_
 refine Ze (Zc (Zd (Zd (Za ?_))))
 refine Lo u38 (Zb (.inl rfl) rfl) ?_
 refine Zr rfl rfl rfl (by exact Legal_spec _ _ ha hl) ?_
 rintro _ _ ⟨rfl, rfl⟩
 refine Le u38 ?_
 refine Lo u38 (rfl) ?_
 refine Ze (Zc ?_)
 refine ZY rfl rfl ?_
 refine Zj (Zc (Zd (Zd (Za ?_))))
 refine Lo u38 (Zg (VVal.int .i64 0) (.inr rfl) rfl) ?_
 refine Ze (Zc (Zk ?_))
 refine Zt (mk 38 274877906918) (env' := u38) rfl ?_
 refine Zz (fun (⟨b, lv⟩ : Nat × VVal) => szP a a.length - b) (fun (⟨b, lv⟩ : Nat × VVal) => [(3, lv), (4, iI (b : Nat))]) (fun (⟨b, lv⟩ : Nat × VVal) G => (b ≤ szP a a.length) ∧ ∃ X, G = H ++ X ∧ LV H.length 1 X lv (bkC a b) b) ⟨0, _⟩ rfl ?_ ?_
 ·refine ⟨?_, ⟨_, rfl, LV.nil _ _ _⟩⟩
  exact Nat.zero_le _
 rintro ⟨b, lv⟩ _ ⟨hb, ⟨X, rfl, hlv⟩⟩
 refine ZQ (env' := u38) rfl ?_
 refine Zd (Zd (Za ?_))
 refine Lo u38 (Zb (.inl rfl) rfl) ?_
 refine Lo u38 (Zb (.inl rfl) rfl) ?_
 refine Zr rfl rfl rfl (by exact top_spec _ _ ha hl) ?_
 rintro _ _ ⟨rfl, rfl⟩
 refine Le u38 ?_
 refine Lo u38 (rfl) ?_
 refine Ze (Zc ?_)
 refine Zl _ rfl (fun hc1 => ?_) (fun hc1 => ?_)
 ·try simp only [qB, qN] at hc1
  refine Zj (Zc (Zd (Zk (Zd (Za ?_)))))
  refine Lo u38 (Zg (VVal.slice none 0 0 true 0) (.inr rfl) rfl) ?_
  refine Ze (Zc (Zd (Zd (Za ?_))))
  refine Lo u38 (Zg (VVal.int .i64 0) (.inr rfl) rfl) ?_
  refine Ze (Zc (Zk ?_))
  refine Zt (mk 38 274877906822) (env' := u38) rfl ?_
  refine Zz (fun (⟨k, ov⟩ : Nat × VVal) => a.length - k) (fun (⟨k, ov⟩ : Nat × VVal) => [(5, ov), (6, iI (k : Nat))]) (fun (⟨k, ov⟩ : Nat × VVal) G => (k ≤ a.length) ∧ ∃ X, G = H ++ X ∧ LV H.length 1 X lv (bkC a b) b ∧ LV H.length 1 X ov (rcN (bkK a b k)) (bkK a b k).length ∧ Dj lv ov) ⟨0, _⟩ rfl ?_ ?_
  ·refine ⟨?_, ⟨X, rfl, hlv, LV.nil _ _ _, Dj.nil _⟩⟩
   exact Nat.zero_le _
  rintro ⟨k, ov⟩ _ ⟨hk, ⟨X, rfl, hlv, hov, hd⟩⟩
  refine ZQ (env' := u38) rfl ?_
  refine Zd (Zd (Za ?_))
  refine Lo u38 (Zb (.inl rfl) rfl) ?_
  refine Lo u38 (Zb (.inl rfl) rfl) ?_
  refine Lo u38 (rfl) ?_
  refine Lo u38 (rfl) ?_
  refine Ze (Zc ?_)
  refine Zl _ rfl (fun hc2 => ?_) (fun hc2 => ?_)
  ·try simp only [qB, qN] at hc2
   refine Zj (Zc (Zd (Zk (Zd (Za ?_)))))
   refine Lo u38 (Zb (.inl rfl) rfl) ?_
   refine Lo u38 (Zb (.inl rfl) rfl) ?_
   refine Lo u38 (W18 rfl rfl rfl rfl rfl rfl rfl) ?_
   refine Lo u38 (W4x rfl rfl rfl rfl) ?_
   refine Lo u38 (Zb (.inl rfl) rfl) ?_
   refine Lo u38 (rfl) ?_
   refine Ze (Zc ?_)
   refine Zl _ rfl (fun hc3 => ?_) (fun hc3 => ?_)
   ·try simp only [qB, qN] at hc3
    refine Za ?_
    refine Lo u38 (Zb (.inl rfl) rfl) ?_
    refine Lo u38 (Zb (.inl rfl) rfl) ?_
    refine Lo u38 (Zx rfl rfl (by decide) rfl) ?_
    refine YB rfl rfl (v_appX rfl rfl rfl rfl rfl rfl rfl hov rfl rfl (by decide) (by have := @bkK_len a b k; show (_ + 1) * 8 ≤ _ ∧ _ + 1 ≤ _; omega) (by decide)) ?_
    rintro _ _ ⟨Y1, rfl, rfl, hY1, hY2, hY3⟩
    refine Le u38 ?_
    refine Lo u38 (Zb (.inr rfl) rfl) ?_
    refine Ze (ZA (Zc (Za ?_)))
    refine Lo u38 (Zb (.inl rfl) rfl) ?_
    refine Lo u38 (W14 rfl rfl rfl) ?_
    refine Lo u38 (Zb (.inr rfl) rfl) ?_
    refine Ze ?_
    refine Zw (mk 38 274877906822) (env' := u38) rfl ⟨⟨k + 1, _⟩, ?_, rfl, ?_⟩
    ·first | omega | (simp only []; omega)
    ·first | exact ⟨by omega, _, rfl, LV.keepN hY3 hlv hd hY2, by rw [bkK_yes (by omega)]; exact LV.pushN hY3, LV.djN hY3 hlv⟩ | exact ⟨by omega, _, rfl, hlv, by rw [bkK_no (by omega)]; exact hov, hd⟩
   ·try simp only [qB, qN] at hc3
    refine Zj (ZA (Zc (Za ?_)))
    refine Lo u38 (Zb (.inl rfl) rfl) ?_
    refine Lo u38 (W14 rfl rfl rfl) ?_
    refine Lo u38 (Zb (.inr rfl) rfl) ?_
    refine Ze ?_
    refine Zw (mk 38 274877906822) (env' := u38) rfl ⟨⟨k + 1, _⟩, ?_, rfl, ?_⟩
    ·first | omega | (simp only []; omega)
    ·first | exact ⟨by omega, _, rfl, LV.keepN hY3 hlv hd hY2, by rw [bkK_yes (by omega)]; exact LV.pushN hY3, LV.djN hY3 hlv⟩ | exact ⟨by omega, _, rfl, hlv, by rw [bkK_no (by omega)]; exact hov, hd⟩
  ·try simp only [qB, qN] at hc2
   refine ZF (ZD (Zu (ZE (Zc ?_))))
   obtain rfl : k = a.length := by omega
   refine B_ghLV (env' := u38) 5 hov rfl rfl fun X4 hX4 hF4 => ?_
   have hlv := LV.keep hlv hd hF4
   refine Za ?_
   refine Lo u38 (Zb (.inl rfl) rfl) ?_
   refine Lo u38 (Zb (.inl rfl) rfl) ?_
   refine Lo u38 (Zx rfl rfl (by decide) rfl) ?_
   refine YB rfl rfl (v_appX rfl rfl rfl rfl rfl rfl rfl hlv rfl rfl (by decide) (by show (b + 1) * 24 ≤ _ ∧ b + 1 ≤ _; omega) (by decide)) ?_
   rintro _ _ ⟨Y1, rfl, rfl, hY1, hY2, hY3⟩
   refine Le u38 ?_
   refine Lo u38 (Zb (.inr rfl) rfl) ?_
   refine Ze (ZA (Zc (Za ?_)))
   refine Lo u38 (Zb (.inl rfl) rfl) ?_
   refine Lo u38 (W14 rfl rfl rfl) ?_
   refine Lo u38 (Zb (.inr rfl) rfl) ?_
   refine Ze ?_
   refine Zw (mk 38 274877906918) (env' := u38) rfl ⟨⟨b + 1, _⟩, ?_, rfl, ?_⟩
   ·first | omega | (simp only []; omega)
   ·exact ⟨by omega, _, rfl, by rw [bkC_succ]; exact hY3⟩
 ·try simp only [qB, qN] at hc1
  refine ZF (ZD (Zu (ZE (Zc (Zd (Za ?_))))))
  refine Lo u38 (Zb (.inl rfl) rfl) ?_
  refine Lo u38 (Zb (.inr rfl) rfl) ?_
  refine Ze (Zc (Zi ?_))
  refine E_gh (.inr rfl) (Zh rfl rfl) (Gh.ansLV (BaseOk.refl _) hlv (VVal.underL_map (f := fun c => fzN (bkL a c)) fun c => Yt _ _)) ?_
  obtain rfl : b = szP a a.length := by omega
  exact ⟨rfl, rfl⟩
abbrev u58 {a0 a1 a2 a3 a4 a5 a6 a7 a8 a9 a10 a11 a12 a13 a14 a15 a16 a17 a18 a19 a20 a21 a22 a23 a24 a25 a26 a27 a28 a29 a30 a31 a32 a33 a34 a35 a36 a37 a38 a39 a40 a41 a42 a43 a44 a45 a46 a47 a48 a49 a50 a51 a52 a53 a54 a55 a56 a57 : VVal} : VEnv := a0 :: a1 :: a2 :: a3 :: a4 :: a5 :: a6 :: a7 :: a8 :: a9 :: a10 :: a11 :: a12 :: a13 :: a14 :: a15 :: a16 :: a17 :: a18 :: a19 :: a20 :: a21 :: a22 :: a23 :: a24 :: a25 :: a26 :: a27 :: a28 :: a29 :: a30 :: a31 :: a32 :: a33 :: a34 :: a35 :: a36 :: a37 :: a38 :: a39 :: a40 :: a41 :: a42 :: a43 :: a44 :: a45 :: a46 :: a47 :: a48 :: a49 :: a50 :: a51 :: a52 :: a53 :: a54 :: a55 :: a56 :: a57 :: []
theorem W7r {T : TypeId → Option VTy} {H : Zf} {op : Op} {ρ : Operand → VVal} {t : TypeId} {a : Operand} {y : VTy} {p v : VVal} (ho : op = .load t a) (ha : ρ a = p) (hy : T t = some y) (hd : Zn y.desc = false) (h : LdOk H p v := by exact XH43) : vop T ρ H op = some (v, H) := Yx ho ha hy hd h
theorem W7t {T : TypeId → Option VTy} {H : Zf} {op : Op} {ρ : Operand → VVal} {t : TypeId} {a : Operand} {y : VTy} {p : VVal} {n : Nat} {vs : List VVal} (ho : op = .load t a) (ha : ρ a = p) (hy : T t = some y) (hd : Zn y.desc = true) (hn : y.size = n) (h : LdOkA H p n vs := by exact XH43) : vop T ρ H op = some (.agg vs, H) := v_ldA ho ha hy hd hn h
theorem W7y {P : Prop} (h : P := by first | exact ⟨by rw [erlA_no (k := k) (by omega) (by assumption)], rfl⟩ | exact ⟨by rw [erlA_all (by omega) hall], rfl⟩) : P := h
theorem myB_lt {p : Pb} {i u : Nat} (g : Go.V.Good p) (hi : i < p.who.length) (h : (wrd p i).getLsbD u = true) : u < p.users.toNat := by
  have h1 : myB p i (u : Nat) = true := myB_nat.2 h
  have g4 := g.u0
  by_cases hf : 0 ≤ p.fixed.getD i 0
  · rw [myB_f g hi hf, decide_eq_true_eq] at h1
    have := (okW_in g hi).1; omega
  · rw [myB_w g hi (by omega), Bool.and_eq_true, decide_eq_true_eq] at h1; omega
abbrev rwP (p : Pb) (a : List Nat) (i : Nat) : Nat → Bool := fun u => (bkL a i).all fun j => myB p j (u : Nat)
theorem row_is {p : Pb} {a : List Nat} {i : Nat} (g : Go.V.Good p) (ha : Pat a) (hl : a.length = p.who.length) (hi : i < szP a a.length) : wdP (rwP p a i) p.users.toNat = (Ya (wsP p) a a.length).getD i 0 := by
  refine Yy fun v hv => ?_
  rw [wdP_bit hv, Bool.eq_iff_iff, Bool.and_eq_true, decide_eq_true_eq, blk_bit ha hi, List.all_eq_true]
  constructor
  · rintro ⟨_, h⟩ j hj e
    have := h j (bkL_mem.2 ⟨hj, e⟩)
    rw [myB_nat] at this
    rw [wsP_get (by omega)]; exact this
  · intro h
    refine ⟨?_, fun j hj => ?_⟩
    · obtain ⟨j, hj, e⟩ := pat_onto ha hi
      have := h j hj e
      rw [wsP_get (by omega)] at this
      exact myB_lt g (by omega) this
    · obtain ⟨h1, h2⟩ := bkL_mem.1 hj
      have := h j h1 h2
      rw [wsP_get (by omega)] at this
      exact myB_nat.2 this
theorem allN_step {l : List Nat} {k : Nat} {f : Nat → Bool} (h : k < l.length) : (l.take (k + 1)).all f = ((l.take k).all f && f (l.getD k 0)) := by
  rw [Yc (d := 0) h, List.all_append, List.all_cons, List.all_nil, Bool.and_true]
theorem bkL_at {a : List Nat} {b k : Nat} (h : k < (bkL a b).length) : (bkL a b).getD k 0 < a.length := by
  have : (bkL a b).getD k 0 ∈ bkL a b := by rw [List.getD_eq_getElem?_getD, List.getElem?_eq_getElem h]; simp
  exact (bkL_mem.1 this).1
theorem Rows_spec {x : SW} (H : Zf) (p : Pb) (g : Go.V.Good p) (a : List Nat) (ha : Pat a) (hl : a.length = p.who.length) : F (psys x) 100 [.agg (pbB p), fzN a] H fun v G => v = fzW (Ya (wsP p) a a.length) ∧ G = H := by
 have g1 := g.n12; have g2 := g.u64; have g4 := g.u0
 have hz := @szP_le a a.length
 have hbl := @Yz (wsP p) a a.length
 refine Zq Tryd.func100 rfl u58 rfl ?_
 refine Zd (Za ?_)
 refine Lo u58 (Zs rfl rfl rfl) ?_
 refine Lo u58 (Zg (VVal.slice none 0 0 true 0) (.inr rfl) rfl) ?_
 refine Ze (Zc (Zd ?_))
 refine ZX (Gh.freezePtrL (cs := pbB p) 2 0 rfl rfl rfl) ?_
 refine Za ?_
 refine Lo u58 (Zg (VVal.slice none 0 0 true 0) (.inr rfl) rfl) ?_
 refine Ze (Zc (Zd (Za ?_)))
 refine Lo u58 (Zb (.inl rfl) rfl) ?_
 refine Zr rfl rfl rfl (by exact Blocks_spec _ a ha (by omega)) ?_
 rintro _ _ ⟨rfl, rfl⟩
 refine Le u58 ?_
 refine Lo u58 (Zb (.inr rfl) rfl) ?_
 refine Ze (Zc (Zd (Zd (Za ?_))))
 refine Lo u58 (Zg (VVal.int .i64 0) (.inr rfl) rfl) ?_
 refine Ze (Zc (Zk ?_))
 refine Zt (mk 58 288230376151711515) (env' := u58) rfl ?_
 refine Zz (fun (⟨i, lv⟩ : Nat × VVal) => szP a a.length - i) (fun (⟨i, lv⟩ : Nat × VVal) => [(5, lv), (7, iI (i : Nat))]) (fun (⟨i, lv⟩ : Nat × VVal) G => (i ≤ szP a a.length) ∧ ∃ X, G = H ++ X ∧ LV H.length 1 X lv (((Ya (wsP p) a a.length).take i).map iW) ((Ya (wsP p) a a.length).take i).length) ⟨0, _⟩ rfl ?_ ?_
 ·refine ⟨?_, ⟨_, rfl, LV.nil _ _ _⟩⟩
  exact Nat.zero_le _
 rintro ⟨i, lv⟩ _ ⟨hi, ⟨X, rfl, hlv⟩⟩
 refine ZQ (env' := u58) rfl ?_
 refine Zd (Zd (Za ?_))
 refine Lo u58 (Zb (.inl rfl) rfl) ?_
 refine Lo u58 (Zb (.inl rfl) rfl) ?_
 refine Lo u58 (rfl) ?_
 refine Lo u58 (rfl) ?_
 refine Ze (Zc ?_)
 refine Zl _ rfl (fun hc1 => ?_) (fun hc1 => ?_)
 ·try simp only [qB, qN] at hc1
  refine Zj (Zc (Zd (Zk (Zd (Za ?_)))))
  refine Lo u58 (Zg (VVal.int .u64 0) (.inr rfl) rfl) ?_
  refine Ze (Zc (Zd (Zd (Za ?_))))
  refine Lo u58 (Zg (VVal.int .i64 0) (.inr rfl) rfl) ?_
  refine Ze (Zc (Zk ?_))
  refine Zt (mk 58 288230376151710747) (env' := u58) rfl ?_
  refine Zz (fun (u : Nat) => p.users.toNat - u) (fun (u : Nat) => [(8, iW (wdP (rwP p a i) u)), (9, iI (u : Nat))]) (fun (u : Nat) G => (u ≤ p.users.toNat) ∧ G = H ++ X) 0 (by rw [show wdP (rwP p a i) 0 = 0#64 from wdP_0 _]; rfl) ?_ ?_
  ·refine ⟨?_, rfl⟩
   exact Nat.zero_le _
  rintro u _ ⟨hu, rfl⟩
  refine ZQ (env' := u58) rfl ?_
  refine Zd (Zd (Za ?_))
  refine Lo u58 (Zb (.inl rfl) rfl) ?_
  refine Lo u58 (rfl) ?_
  refine Lo u58 (W7r rfl rfl rfl rfl) ?_
  refine Lo u58 (rfl) ?_
  refine Ze (Zc ?_)
  refine Zl _ rfl (fun hc2 => ?_) (fun hc2 => ?_)
  ·try simp only [qB, qN] at hc2
   refine Zj (Zc (Zd (Zk (Zd (Za ?_)))))
   refine Lo u58 (Zg (VVal.bool true) (.inr rfl) rfl) ?_
   refine Ze (Zc (Zd (Zd (Za ?_))))
   refine Lo u58 (Zg (VVal.int .i64 0) (.inr rfl) rfl) ?_
   refine Ze (Zc (Zk ?_))
   refine Zt (mk 58 288230376151707675) (env' := u58) rfl ?_
   refine Zz (fun (⟨k, okb⟩ : Nat × Bool) => (bkL a i).length - k) (fun (⟨k, okb⟩ : Nat × Bool) => [(10, .bool okb), (11, iI (k : Nat))]) (fun (⟨k, okb⟩ : Nat × Bool) G => (k ≤ (bkL a i).length ∧ okb = ((bkL a i).take k).all fun j => myB p j (u : Nat)) ∧ G = H ++ X) ⟨0, true⟩ rfl ?_ ?_
   ·refine ⟨?_, rfl⟩
    exact ⟨Nat.zero_le _, rfl⟩
   rintro ⟨k, okb⟩ _ ⟨⟨hk, hok⟩, rfl⟩
   refine ZQ (env' := u58) rfl ?_
   refine Zd (Zd ?_)
   have hbk : (bkL a i).length ≤ a.length := bkK_len
   refine Za ?_
   refine Lo u58 (Zb (.inl rfl) rfl) ?_
   refine Lo u58 (Zb (.inl rfl) rfl) ?_
   refine Lo u58 (Zb (.inl rfl) rfl) ?_
   refine Lo u58 (W18 rfl rfl rfl rfl rfl rfl rfl) ?_
   refine Lo u58 (W7r rfl rfl rfl rfl) ?_
   refine Lo u58 (rfl) ?_
   refine Lo u58 (rfl) ?_
   refine Ze (Zc ?_)
   refine Zl _ rfl (fun hc3 => ?_) (fun hc3 => ?_)
   ·try simp only [qB, qN] at hc3
    refine Zj (Zc (Zd (Zk ?_)))
    refine ZV [0, 1, 2, 3, 4, 5, 6, 7, 8, 9, 10, 11, 12, 13] #[0, 1, 3, 3, 3, 27, 59, 3, 251, 507, 3, 2047, 4095, 8191] XH1 XH1 XH1 ?_
    refine Oo u58 .calm rfl (Zb (.inl rfl) rfl) ?_
    refine Oo u58 .calm rfl (Zb (.inl rfl) rfl) ?_
    refine O_split 36 (env1 := u58) (env2 := u58) rfl rfl rfl (fun hg4 => ?_) (fun hg4 => ?_)
    ·try simp only [qB, qN] at hg4
     refine Oo u58 .look rfl (W7t rfl rfl rfl rfl rfl) ?_
     refine Oo u58 .calm rfl (Zb (.inl rfl) rfl) ?_
     refine Oo u58 .calm rfl (Zb (.inl rfl) rfl) ?_
     refine Oo u58 .calm rfl (W18 rfl rfl rfl rfl rfl rfl rfl) ?_
     refine Oo u58 .look rfl (W7r rfl rfl rfl rfl) ?_
     refine Oo u58 .calm rfl (Zb (.inl rfl) rfl) ?_
     refine Oo u58 .calm rfl (W18 rfl rfl rfl rfl rfl rfl rfl) ?_
     refine Oo u58 .look rfl (W7r rfl rfl rfl rfl) ?_
     refine Oo u58 .calm rfl (Zb (.inl rfl) rfl) ?_
     refine ZW (env' := u58) rfl rfl rfl rfl rfl (by exact May_spec _ p g ((bkL a i).getD k 0) (by have := bkL_at (a := a) (b := i) (k := k) (by omega); omega) (u : Nat)) XH7 rfl rfl ?_
     refine Oo u58 .calm rfl (ZN rfl rfl rfl) ?_
     refine Oo u58 .calm rfl (Zb (.inr rfl) rfl) ?_
     refine ZS [] XH1 (trivial) ?_
     refine ZA (Zc (Za ?_))
     refine Lo u58 (Zb (.inl rfl) rfl) ?_
     refine Lo u58 (W14 rfl rfl rfl) ?_
     refine Lo u58 (Zb (.inr rfl) rfl) ?_
     refine Ze ?_
     refine Zw (mk 58 288230376151707675) (env' := u58) rfl ⟨⟨k + 1, _⟩, ?_, rfl, ?_⟩
     ·first | omega | (simp only []; omega)
     ·first | exact ⟨⟨by omega, by rw [allN_step (by omega), ← hok, (show okb = true by assumption), Bool.true_and]⟩, rfl⟩ | exact ⟨⟨by omega, by rw [allN_step (by omega), ← hok, (show okb = false by simp_all), Bool.false_and]⟩, rfl⟩
    ·try simp only [qB, qN] at hg4
     refine Of u58 rfl ?_
     refine Of u58 rfl ?_
     refine Of u58 rfl ?_
     refine Of u58 rfl ?_
     refine Of u58 rfl ?_
     refine Of u58 rfl ?_
     refine Of u58 rfl ?_
     refine Of u58 rfl ?_
     refine Of u58 rfl ?_
     refine Of u58 rfl ?_
     refine Oo u58 .calm rfl (ZI (VVal.bool false) rfl rfl rfl) ?_
     refine Oo u58 .calm rfl (Zb (.inr rfl) rfl) ?_
     refine ZS [] XH1 (trivial) ?_
     refine ZA (Zc (Za ?_))
     refine Lo u58 (Zb (.inl rfl) rfl) ?_
     refine Lo u58 (W14 rfl rfl rfl) ?_
     refine Lo u58 (Zb (.inr rfl) rfl) ?_
     refine Ze ?_
     refine Zw (mk 58 288230376151707675) (env' := u58) rfl ⟨⟨k + 1, _⟩, ?_, rfl, ?_⟩
     ·first | omega | (simp only []; omega)
     ·first | exact ⟨⟨by omega, by rw [allN_step (by omega), ← hok, (show okb = true by assumption), Bool.true_and]⟩, rfl⟩ | exact ⟨⟨by omega, by rw [allN_step (by omega), ← hok, (show okb = false by simp_all), Bool.false_and]⟩, rfl⟩
   ·try simp only [qB, qN] at hc3
    refine ZF (ZD (Zu (ZE (Zc (Zd (Za ?_))))))
    refine Lo u58 (Zb (.inl rfl) rfl) ?_
    refine Ze (Zc ?_)
    refine Zl _ rfl (fun hc5 => ?_) (fun hc5 => ?_)
    ·try simp only [qB, qN] at hc5
     refine Za ?_
     refine Lo u58 (Zb (.inl rfl) rfl) ?_
     refine Lo u58 (Zb (.inl rfl) rfl) ?_
     refine Lo u58 (v_shl1 rfl rfl rfl XH5) ?_
     refine Lo u58 (v_orW rfl rfl rfl) ?_
     refine Lo u58 (Zb (.inr rfl) rfl) ?_
     refine Ze (ZA (Zc (Za ?_)))
     refine Lo u58 (Zb (.inl rfl) rfl) ?_
     refine Lo u58 (W14 rfl rfl rfl) ?_
     refine Lo u58 (Zb (.inr rfl) rfl) ?_
     refine Ze ?_
     obtain rfl : k = (bkL a i).length := by omega
     rw [List.take_length] at hok
     first
       | (have hE : (wdP (rwP p a i) u) ||| 1#64 <<< (u : Int).toNat = wdP (rwP p a i) (u + 1) := wdP_yes (hok.symm.trans (by assumption))); rw [hE]
       | (have hE : (wdP (rwP p a i) u) = wdP (rwP p a i) (u + 1) := wdP_no (hok.symm.trans (by assumption))); rw [hE]
     refine Zw (mk 58 288230376151710747) (env' := u58) rfl ⟨u + 1, ?_, rfl, ?_⟩
     ·first | omega | (simp only []; omega)
     ·exact ⟨by omega, rfl⟩
    ·try simp only [qB, qN] at hc5
     refine Zj (ZA (Zc (Za ?_)))
     refine Lo u58 (Zb (.inl rfl) rfl) ?_
     refine Lo u58 (W14 rfl rfl rfl) ?_
     refine Lo u58 (Zb (.inr rfl) rfl) ?_
     refine Ze ?_
     obtain rfl : k = (bkL a i).length := by omega
     rw [List.take_length] at hok
     first
       | (have hE : (wdP (rwP p a i) u) ||| 1#64 <<< (u : Int).toNat = wdP (rwP p a i) (u + 1) := wdP_yes (hok.symm.trans (by assumption))); rw [hE]
       | (have hE : (wdP (rwP p a i) u) = wdP (rwP p a i) (u + 1) := wdP_no (hok.symm.trans (by assumption))); rw [hE]
     refine Zw (mk 58 288230376151710747) (env' := u58) rfl ⟨u + 1, ?_, rfl, ?_⟩
     ·first | omega | (simp only []; omega)
     ·exact ⟨by omega, rfl⟩
  ·try simp only [qB, qN] at hc2
   refine ZF (ZD (Zu (ZE (Zc ?_))))
   obtain rfl : u = p.users.toNat := by omega
   rw [row_is g ha hl (by omega)]
   refine Za ?_
   refine Lo u58 (Zb (.inl rfl) rfl) ?_
   refine Lo u58 (Zb (.inl rfl) rfl) ?_
   refine Lo u58 (Zx rfl rfl (by decide) rfl) ?_
   refine YB rfl rfl (v_appX rfl rfl rfl rfl rfl rfl rfl hlv rfl rfl (by decide) XH18 (by decide)) ?_
   rintro _ _ ⟨Y1, rfl, rfl, hY1, hY2, hY3⟩
   refine Le u58 ?_
   refine Lo u58 (Zb (.inr rfl) rfl) ?_
   refine Ze (ZA (Zc (Za ?_)))
   refine Lo u58 (Zb (.inl rfl) rfl) ?_
   refine Lo u58 (W14 rfl rfl rfl) ?_
   refine Lo u58 (Zb (.inr rfl) rfl) ?_
   refine Ze ?_
   refine Zw (mk 58 288230376151711515) (env' := u58) rfl ⟨⟨i + 1, _⟩, ?_, rfl, ?_⟩
   ·first | omega | (simp only []; omega)
   ·exact ⟨by omega, _, rfl, by rw [Yc (d := 0) (by omega)]; exact LV.pushW hY3⟩
 ·try simp only [qB, qN] at hc1
  refine ZF (ZD (Zu (ZE (Zc (Zd (Za ?_))))))
  refine Lo u58 (Zb (.inl rfl) rfl) ?_
  refine Lo u58 (Zb (.inr rfl) rfl) ?_
  refine Ze (Zc (Zi ?_))
  refine E_gh (.inr rfl) (Zh rfl rfl) (Gh.ansLV (BaseOk.refl _) hlv (Y0 _ _)) ?_
  rw [List.take_of_length_le (by omega)]
  exact ⟨rfl, rfl⟩
theorem fEarlyN {x : SW} (H : Zf) (r : Rul) (n : Int) (a : List Nat) (hl : r.steps.length ≤ 1000000) : F (psys x) 127 [.agg (rlB r), iI n, fzN a] H fun v G => v = .bool (erl r n (zI a)) ∧ G = H := by
  rw [fzN_is]; exact fEarly_spec H r n (zI a) hl
theorem erlA_no {n : Nat} {rs : List Rul} {a : List Nat} {k : Nat} (hk : k < rs.length) (h : erl (rs.getD k r0) n (zI a) = false) : erlA n rs a = false := all_bad (f := fun r => erl r n (zI a)) hk h
theorem erlA_all {n : Nat} {rs : List Rul} {a : List Nat} {k : Nat} (hk : rs.length ≤ k) (h : (rs.take k).all (fun r => erl r n (zI a)) = true) : erlA n rs a = true := all_full hk h
theorem early_spec {x : SW} (H : Zf) (p : Pb) (hp : PbL p) (a : List Nat) : F (psys x) 149 [.agg (pbB p), fzN a] H fun v G => v = .bool (erlA p.who.length p.rules a) ∧ G = H := by
 have h1 := hp.w; have h3 := hp.r; have h4 := hp.s
 refine Zq Tryd.func149 rfl u24 rfl ?_
 refine Zd (Za ?_)
 refine Lo u24 (Zs rfl rfl rfl) ?_
 refine Lo u24 (Zg (VVal.bool false) (.inr rfl) rfl) ?_
 refine Ze (Zc (Zd (Zd ?_)))
 refine ZX (Gh.freezePtrL (cs := pbB p) 2 0 rfl rfl rfl) ?_
 refine Za ?_
 refine Lo u24 (Zg (VVal.int .i64 0) (.inr rfl) rfl) ?_
 refine Ze (Zc (Zk ?_))
 refine Zt (mk 24 16777177) (env' := u24) rfl ?_
 refine Zz (fun (k : Nat) => p.rules.length - k) (fun (k : Nat) => [(5, iI (k : Nat))]) (fun (k : Nat) G => (k ≤ p.rules.length ∧ (p.rules.take k).all (fun r => erl r p.who.length (zI a)) = true) ∧ G = H ++ [.dead]) 0 rfl ?_ ?_
 ·refine ⟨?_, rfl⟩
  exact ⟨Nat.zero_le _, rfl⟩
 rintro k _ ⟨⟨hk, hall⟩, rfl⟩
 refine ZQ (env' := u24) rfl ?_
 refine Zd (Zd (Za ?_))
 refine Lo u24 (Zb (.inl rfl) rfl) ?_
 refine Lo u24 (rfl) ?_
 refine Lo u24 (W2r rfl rfl rfl rfl) ?_
 refine Lo u24 (rfl) ?_
 refine Lo u24 (rfl) ?_
 refine Ze (Zc ?_)
 refine Zl _ rfl (fun hc1 => ?_) (fun hc1 => ?_)
 ·try simp only [qB, qN] at hc1
  refine Zj (Zc (Zd (Zk (Zd ?_))))
  refine ZV [0, 1, 2, 3, 4, 5, 6, 7, 8, 9, 10] #[0, 1, 0, 7, 15, 0, 32, 96, 0, 511, 1023] XH1 XH1 XH1 ?_
  refine Oo u24 .calm rfl (rfl) ?_
  refine Oo u24 .look rfl (W2r rfl rfl rfl rfl) ?_
  refine Oo u24 .calm rfl (Zb (.inl rfl) rfl) ?_
  refine Oo u24 .calm rfl (W18 rfl rfl rfl rfl rfl rfl rfl) ?_
  refine Oo u24 .look rfl (W2p rfl rfl rfl rfl rfl) ?_
  refine Oo u24 .calm rfl (rfl) ?_
  refine Oo u24 .look rfl (W2r rfl rfl rfl rfl) ?_
  refine Oo u24 .look rfl (rfl) ?_
  refine Oo u24 .calm rfl (Zb (.inl rfl) rfl) ?_
  refine ZW (env' := u24) rfl rfl rfl rfl rfl (by exact fEarlyN _ _ _ _ (h4 _ (YT (by omega)))) XH7 rfl rfl ?_
  refine Oo u24 .calm rfl (rfl) ?_
  refine ZS [] XH1 (trivial) ?_
  refine Zc ?_
  refine Zl _ rfl (fun hc2 => ?_) (fun hc2 => ?_)
  ·try simp only [qB, qN] at hc2
   refine Zd (Za ?_)
   refine Lo u24 (Zg (VVal.bool false) (.inr rfl) rfl) ?_
   refine Ze (Zc (Zi (ZB (Zm (Z5 (ZB (Zm ?_)))))))
   refine W10 (.inr rfl) (Zh rfl rfl) ?_
   exact W7y
  ·try simp only [qB, qN] at hc2
   refine Zj (ZA (Zc (Za ?_)))
   refine Lo u24 (Zb (.inl rfl) rfl) ?_
   refine Lo u24 (W14 rfl rfl rfl) ?_
   refine Lo u24 (Zb (.inr rfl) rfl) ?_
   refine Ze ?_
   refine Zw (mk 24 16777177) (env' := u24) rfl ⟨k + 1, ?_, rfl, ?_⟩
   ·first | omega | (simp only []; omega)
   ·exact ⟨⟨by omega, all_step (by omega) hall (by assumption)⟩, rfl⟩
 ·try simp only [qB, qN] at hc1
  refine ZF (ZD (Zu (ZE (Zc (Zd (Za ?_))))))
  refine Lo u24 (Zg (VVal.bool true) (.inr rfl) rfl) ?_
  refine Ze (Zc (Zi ?_))
  refine W10 (.inr rfl) (Zh rfl rfl) ?_
  exact W7y
abbrev u69 {a0 a1 a2 a3 a4 a5 a6 a7 a8 a9 a10 a11 a12 a13 a14 a15 a16 a17 a18 a19 a20 a21 a22 a23 a24 a25 a26 a27 a28 a29 a30 a31 a32 a33 a34 a35 a36 a37 a38 a39 a40 a41 a42 a43 a44 a45 a46 a47 a48 a49 a50 a51 a52 a53 a54 a55 a56 a57 a58 a59 a60 a61 a62 a63 a64 a65 a66 a67 a68 : VVal} : VEnv := a0 :: a1 :: a2 :: a3 :: a4 :: a5 :: a6 :: a7 :: a8 :: a9 :: a10 :: a11 :: a12 :: a13 :: a14 :: a15 :: a16 :: a17 :: a18 :: a19 :: a20 :: a21 :: a22 :: a23 :: a24 :: a25 :: a26 :: a27 :: a28 :: a29 :: a30 :: a31 :: a32 :: a33 :: a34 :: a35 :: a36 :: a37 :: a38 :: a39 :: a40 :: a41 :: a42 :: a43 :: a44 :: a45 :: a46 :: a47 :: a48 :: a49 :: a50 :: a51 :: a52 :: a53 :: a54 :: a55 :: a56 :: a57 :: a58 :: a59 :: a60 :: a61 :: a62 :: a63 :: a64 :: a65 :: a66 :: a67 :: a68 :: []
theorem W80 {T : TypeId → Option VTy} {H : Zf} {op : Op} {ρ : Operand → VVal} {t : TypeId} {a : Operand} {y : VTy} {p v : VVal} (ho : op = .load t a) (ha : ρ a = p) (hy : T t = some y) (hd : Zn y.desc = false) (h : LdOk H p v := by first | exact .inl ⟨_, _, rfl, by first | exact fget (α := BitVec 64) 0 (by omega) | exact fget0 (α := Int) 0 (by omega) | rfl⟩ | exact .inr ⟨_, _, _, _, rfl, by first | exact tr_q hqH | exact tr_p hpH hpq, by first | exact fget (α := BitVec 64) 0 (by omega) | exact fget0 (α := Int) 0 (by omega) | rfl⟩) : vop T ρ H op = some (v, H) := Yx ho ha hy hd h
theorem W82 {T : TypeId → Option VTy} {H : Zf} {op : Op} {ρ : VEnv} {H' : Zf} {t : TypeId} {a : Operand} {i : Nat} {v : VVal} {y : VTy} {b off : Nat} {cs new : List VVal} (ho : op = .store t a (.tmp i)) (hv : ρ[i]? = some v) (ha : ρ.eval a = .ptr (some (b, off))) (hy : T t = some y) (hx : v.cells = some new) (hn : new.length = y.size) (h1 : new.all VVal.one = true) (hb : H[b]? = some (.cells cs true) := by first | exact tr_q hqH | exact tr_p hpH hpq) (hl : off + new.length ≤ cs.length := by exact XH37) (hH : H.set b (.cells (ZJ cs off new) true) = H' := by exact tr_setq hqH) : vop T ρ.eval H op = some (.skip, H') := Z7 ho hv ha hy hx hn h1 hb hl hH
theorem W83 {T : TypeId → Option VTy} {H : Zf} {op : Op} {ρ : Operand → VVal} {t : TypeId} {a : Operand} {y : VTy} {p v : VVal} (ho : op = .load t a) (ha : ρ a = p) (hy : T t = some y) (hd : Zn y.desc = false) (h : LdOk H p v := by first | exact .inl ⟨_, _, rfl, by exact fget0 (α := Int) (l := s1.1) 0 (by omega)⟩ | exact .inr ⟨_, _, _, _, rfl, by first | exact tr_q hqH | exact tr_p hpH hpq, by exact fget0 (α := Int) (l := s1.1) 0 (by omega)⟩) : vop T ρ H op = some (v, H) := Yx ho ha hy hd h
theorem W84 {T : TypeId → Option VTy} {H : Zf} {op : Op} {ρ : VEnv} {H' : Zf} {t : TypeId} {a : Operand} {i : Nat} {v : VVal} {y : VTy} {b off : Nat} {cs new : List VVal} (ho : op = .store t a (.tmp i)) (hv : ρ[i]? = some v) (ha : ρ.eval a = .ptr (some (b, off))) (hy : T t = some y) (hx : v.cells = some new) (hn : new.length = y.size) (h1 : new.all VVal.one = true) (hb : H[b]? = some (.cells cs true) := by first | exact tr_q hqH | exact tr_p hpH hpq) (hl : off + new.length ≤ cs.length := by first | exact has_len (s := (s1.1, 0#64)) (show i < s1.1.length by omega) | exact has_len (s := (trn rows n k (s1.1, s1.2 ||| 1#64 <<< u)).2) (by rw [trn_len]; show i < s1.1.length; omega)) (hH : H.set b (.cells (ZJ cs off new) true) = H' := by first | exact tr_setp hpH hpq (show i < s1.1.length by omega) | exact tr_setp hpH hpq (by rw [trn_len]; show i < s1.1.length; omega)) : vop T ρ.eval H op = some (.skip, H') := Z7 ho hv ha hy hx hn h1 hb hl hH
theorem W85 {S : V.Sys} {H : Zf} {fn : Func} {ex : Exit} {env : VEnv} {B L : Zf} {v : VVal} {R : VVal → Zf → Prop} (hx : ex = .normal ∨ ex = .ret) (hv : ZP S.C.T env (B ++ L) fn.results = some v) (h : R v B) (hB : BaseOk H B := by exact tr_base) (hu : v.under H.length = true := by first | rfl | simp [VVal.under, VVal.underL, *]) : fnK S fn H R ex env (B ++ L) := YQ hx hv hB hu h
theorem W86 {P : Prop} (h : P := by first | (obtain rfl : u = 64 := by omega); exact ⟨by rw [hg]; rfl, by rw [hg]; rfl⟩ | exact ⟨by rw [hg, hf, if_pos (by omega)], by rw [hg, hf, if_pos (by omega)]; rfl⟩ | exact ⟨by rw [hg, hf, if_neg (by omega), if_pos (by assumption)], by rw [hg, hf, if_neg (by omega), if_pos (by assumption)]; rfl⟩) : P := h
abbrev haB (has : List Int) : VBlk := .cells (has.map iI) true
def trH (H : Zf) (p q : Nat) (s : HSt) : Zf := (H.set p (haB s.1)).set q (seB s.2)
section
variable {H L : Zf} {p q : Nat} {s : HSt}
theorem trH_len {n : Nat} (h : H.length = n) : (trH H p q s).length = n := by unfold trH; rw [List.length_set, List.length_set]; exact h
theorem trH_id {has : List Int} {w : BitVec 64} (hp : H[p]? = some (haB has)) (hq : H[q]? = some (seB w)) : trH H p q (has, w) = H := by
  unfold trH; rw [← YM hp, ← YM hq]
theorem tr_q (hq : q < H.length) : (trH H p q s ++ L)[q]? = some (seB s.2) := by
  unfold trH; exact Zp (List.getElem?_set_self (by rw [List.length_set]; exact hq))
theorem tr_p (hp : p < H.length) (hpq : p ≠ q) : (trH H p q s ++ L)[p]? = some (haB s.1) := by
  unfold trH; exact Zp (by rw [List.getElem?_set_ne (Ne.symm hpq)]; exact List.getElem?_set_self hp)
theorem tr_setq {w : BitVec 64} (hq : q < H.length) : (trH H p q s ++ L).set q (seB w) = trH H p q (s.1, w) ++ L := by
  rw [Ye (by rw [trH_len rfl]; exact hq)]; unfold trH; rw [List.set_set]
theorem tr_setp0 {k : VBlk} (hp : p < H.length) (hpq : p ≠ q) : (trH H p q s ++ L).set p k = (H.set p k).set q (seB s.2) ++ L := by
  rw [Ye (by rw [trH_len rfl]; exact hp)]; unfold trH
  rw [List.set_comm _ _ (Ne.symm hpq), List.set_set]
theorem splice_i {l : List Int} {k : Nat} {r : Int} (h : k < l.length) : ZJ (l.map iI) (0 + k * 1) [iI r] = (l.set k r).map iI := by
  rw [show 0 + k * 1 = k by omega]
  unfold ZJ
  rw [List.map_set, List.set_eq_take_append_cons_drop, if_pos (by rw [List.length_map]; exact h)]; simp
theorem tr_setp {i : Nat} {r : Int} (hp : p < H.length) (hpq : p ≠ q) (hi : i < s.1.length) : (trH H p q s ++ L).set p (.cells (ZJ (s.1.map iI) (0 + i * 1) [iI r]) true) = trH H p q (s.1.set i r, s.2) ++ L := by
  rw [splice_i hi, tr_setp0 hp hpq]; rfl
theorem tr_tr {t : HSt} (hp : p < H.length) (hq : q < H.length) (hpq : p ≠ q) : trH (trH H p q s ++ L) p q t = trH H p q t ++ L := by
  have : trH (trH H p q s ++ L) p q t = ((trH H p q s ++ L).set p (haB t.1)).set q (seB t.2) := rfl
  rw [this, tr_setp0 hp hpq, Ye (by simp; exact hq), List.set_set]; rfl
theorem tr_base : BaseOk H (trH H p q s) := BaseOk.set (BaseOk.set (BaseOk.refl _) _ (by show VVal.underL _ (s.1.map iI) = true; exact mapI_under _ _)) _ rfl
theorem has_len {i : Nat} {v : VVal} (h : i < s.1.length) : 0 + i * 1 + [v].length ≤ (s.1.map iI).length := by
  show 0 + i * 1 + 1 ≤ (s.1.map iI).length
  rw [List.length_map]; omega
end
theorem trn_len {rows : List (BitVec 64)} : ∀ {n i : Nat} {s : HSt}, (trn rows n i s).2.1.length = s.1.length := by
  have hL : ∀ (g : Nat → HSt → Bool × HSt), (∀ k s, (g k s).2.1.length = s.1.length) → ∀ (i : Nat) (l : List Nat) (s : HSt), (trL g rows i l s).2.1.length = s.1.length := by
    intro g hg i l
    induction l with
    | nil => intro s; rfl
    | cons u l ih =>
      intro s
      rw [trL]
      split
      · exact ih s
      · split
        · simp
        · split
          · simp [hg]
          · rw [ih, hg]
  intro n
  induction n with
  | zero => intro i s; rfl
  | succ n ih => intro i s; rw [trn]; exact hL _ (fun k s => ih) i _ s
theorem trn_sub {rows : List (BitVec 64)} : ∀ {n i : Nat} {s : HSt}, subW s.2 (trn rows n i s).2.2 := by
  have hL : ∀ (g : Nat → HSt → Bool × HSt), (∀ k s, subW s.2 (g k s).2.2) → ∀ (i : Nat) (l : List Nat) (s : HSt), (∀ u, u ∈ l → u < 64) → subW s.2 (trL g rows i l s).2.2 := by
    intro g hg i l
    induction l with
    | nil => intro s _ _ h; exact h
    | cons u l ih =>
      intro s hl
      have hu := hl u (List.mem_cons_self ..)
      have hl' : ∀ v, v ∈ l → v < 64 := fun v hv => hl v (List.mem_cons_of_mem _ hv)
      have h1 : subW s.2 (s.2 ||| 1#64 <<< u) := fun a ha => (or1 hu).2 (.inl ha)
      have h2 := hg (fndK s.1 u) (s.1, s.2 ||| 1#64 <<< u)
      rw [trL]
      split
      · exact ih s hl'
      · split
        · exact h1
        · split
          · exact fun a ha => h2 a (h1 a ha)
          · exact fun a ha => ih _ hl' a (h2 a (h1 a ha))
  intro n
  induction n with
  | zero => intro i s _ h; exact h
  | succ n ih => intro i s; rw [trn]; exact hL _ (fun k s => ih) i _ s fun u hu => List.mem_range.1 hu
theorem sh_not0 {d : BitVec 64} {k : Nat} (h : ¬ d >>> k &&& 1#64 = 0#64) : d.getLsbD k = true := by rw [sh0] at h; simpa using h
theorem YR {g : Nat → HSt → Bool × HSt} {rows : List (BitVec 64)} {i u : Nat} {s : HSt} (hu : u < 64) : trL g rows i ((List.range 64).drop u) s = if (rows.getD i 0).getLsbD u = false ∨ s.2.getLsbD u = true then trL g rows i ((List.range 64).drop (u + 1)) s
    else if fndK s.1 u = s.1.length then (true, (s.1.set i (u : Int), s.2 ||| 1#64 <<< u))
    else if (g (fndK s.1 u) (s.1, s.2 ||| 1#64 <<< u)).1 = true then (true, ((g (fndK s.1 u) (s.1, s.2 ||| 1#64 <<< u)).2.1.set i (u : Int), (g (fndK s.1 u) (s.1, s.2 ||| 1#64 <<< u)).2.2))
    else trL g rows i ((List.range 64).drop (u + 1)) (g (fndK s.1 u) (s.1, s.2 ||| 1#64 <<< u)).2 := by
  rw [List.drop_eq_getElem_cons (by simpa using hu), trL]; simp only [List.getElem_range]
theorem turn_in {x : SW} {p q n : Nat} {ex : Bool} {rows : List (BitVec 64)} (hpq : p ≠ q) (ih : ∀ (H : Zf) (i : Nat) (has : List Int) (S : BitVec 64), H[p]? = some (haB has) → H[q]? = some (seB S) → i < rows.length → has.length = rows.length → 64 - YC 64 S < n → F (psys x) 161 [fzW rows, .slice (some (p, 0)) rows.length rows.length ex 1, .ptr (some (q, 0)), iI (i : Nat)] H fun v G => v = .bool (trn rows n i (has, S)).1 ∧ G = trH H p q (trn rows n i (has, S)).2) (H L : Zf) (s : HSt) (hp : p < H.length) (hq : q < H.length) (i : Nat) (hi : i < rows.length) (hk : s.1.length = rows.length) (hm : 64 - YC 64 s.2 < n) :
    F (psys x) 161 [fzW rows, .slice (some (p, 0)) rows.length rows.length ex 1, .ptr (some (q, 0)), iI (i : Nat)] (trH H p q s ++ L) fun v G => v = .bool (trn rows n i s).1 ∧ G = trH H p q (trn rows n i s).2 ++ L := by
  have := ih (trH H p q s ++ L) i s.1 s.2 (tr_p hp hpq) (tr_q hq) hi hk hm
  rw [tr_tr hp hq hpq] at this
  exact this
theorem turn_s {x : SW} (p q n : Nat) (ex : Bool) (rows : List (BitVec 64)) (hpq : p ≠ q) (h62 : rows.length ≤ 1000000) (ih : ∀ (H : Zf) (i : Nat) (has : List Int) (S : BitVec 64), H[p]? = some (haB has) → H[q]? = some (seB S) → i < rows.length → has.length = rows.length → 64 - YC 64 S < n → F (psys x) 161 [fzW rows, .slice (some (p, 0)) rows.length rows.length ex 1, .ptr (some (q, 0)), iI (i : Nat)] H fun v G => v = .bool (trn rows n i (has, S)).1 ∧ G = trH H p q (trn rows n i (has, S)).2) (H : Zf) (i : Nat) (has : List Int) (S : BitVec 64) (hp : H[p]? = some (haB has)) (hq : H[q]? = some (seB S)) (hi : i < rows.length) (hhl : has.length = rows.length) (hm : 64 - YC 64 S < n + 1) : F (psys x) 161 [fzW rows, .slice (some (p, 0)) rows.length rows.length ex 1, .ptr (some (q, 0)), iI (i : Nat)] H fun v G => v = .bool (trn rows (n + 1) i (has, S)).1 ∧ G = trH H p q (trn rows (n + 1) i (has, S)).2 := by
 have hpH := ZC hp
 have hqH := ZC hq
 refine Zq Tryd.func161 rfl u69 rfl ?_
 refine Zd (Za ?_)
 refine Lo u69 (Zg (VVal.bool false) (.inr rfl) rfl) ?_
 refine Ze (Zc (Zd (Zd (Za ?_))))
 refine Lo u69 (Zg (VVal.int .i64 0) (.inr rfl) rfl) ?_
 refine Ze (Zc (Zk ?_))
 refine Zt (mk 69 590295810358705651184) (env' := u69) rfl ?_
 refine Zz (fun (⟨u, s1⟩ : Nat × HSt) => 64 - u) (fun (⟨u, s1⟩ : Nat × HSt) => [(9, iI (u : Nat))]) (fun (⟨u, s1⟩ : Nat × HSt) G => (u ≤ 64 ∧ s1.1.length = rows.length ∧ 64 - YC 64 s1.2 ≤ n ∧ trn rows (n + 1) i (has, S) = trL (trn rows n) rows i ((List.range 64).drop u) s1) ∧ G = trH H p q s1 ++ []) ⟨0, (has, S)⟩ rfl ?_ ?_
 ·refine ⟨?_, (by rw [trH_id hp hq])⟩
  exact ⟨Nat.zero_le _, hhl, by show 64 - YC 64 S ≤ n; omega, rfl⟩
 rintro ⟨u, s1⟩ _ ⟨⟨hu, hl1, hcm, hg⟩, rfl⟩
 refine ZQ (env' := u69) rfl ?_
 have hil : i < s1.1.length := by omega
 refine Zd (Zd (Za ?_))
 refine Lo u69 (Zb (.inl rfl) rfl) ?_
 refine Lo u69 (rfl) ?_
 refine Ze (Zc ?_)
 refine Zl _ rfl (fun hc1 => ?_) (fun hc1 => ?_)
 ·try simp only [qB] at hc1
  refine Zj (Zc (Zd (Zk (Zd (Zd (Za ?_))))))
  refine Lo u69 (Zb (.inl rfl) rfl) ?_
  refine Lo u69 (Zb (.inl rfl) rfl) ?_
  refine Lo u69 (W18 rfl rfl rfl rfl rfl rfl rfl) ?_
  refine Lo u69 (W80 rfl rfl rfl rfl) ?_
  refine Lo u69 (Zb (.inl rfl) rfl) ?_
  refine Lo u69 (v_shrW rfl rfl rfl XH5) ?_
  refine Lo u69 (v_andW (b := 1#64) rfl rfl rfl) ?_
  refine Lo u69 (rfl) ?_
  refine Lo u69 (Zb (.inl rfl) rfl) ?_
  refine ZH 23 (env1 := u69) (env2 := u69) rfl rfl rfl (fun hg2 => ?_) (fun hg2 => ?_)
  ·try simp only [qB] at hg2
   refine Lf u69 ?_
   refine Lf u69 ?_
   refine Lf u69 ?_
   refine Lf u69 ?_
   refine Lf u69 ?_
   refine Lf u69 ?_
   refine Lf u69 ?_
   refine Lo u69 (ZL (VVal.bool true) rfl rfl rfl) ?_
   refine Ze (Zc ?_)
   refine ZO rfl rfl ?_
   refine ZF (ZD (ZE (Zc (Za ?_))))
   refine Lo u69 (Zb (.inl rfl) rfl) ?_
   refine Lo u69 (W14 rfl rfl rfl) ?_
   refine Lo u69 (Zb (.inr rfl) rfl) ?_
   refine Ze ?_
   refine Zw (mk 69 590295810358705651184) (env' := u69) rfl ⟨⟨u + 1, s1⟩, ?_, rfl, ?_⟩
   ·first | omega | (simp only []; omega)
   ·first | exact ⟨⟨by omega, hl1, hcm, by rw [hg, YR (by omega), if_pos (.inl (sh0.1 (by assumption)))]⟩, rfl⟩ | exact ⟨⟨by omega, hl1, hcm, by rw [hg, YR (by omega), if_pos (.inr (sh1.1 (by assumption)))]⟩, rfl⟩ | exact ⟨⟨by omega, trn_len.trans hl1, XH12, by rw [hg, hf, if_neg (by omega), if_neg (not_of_f (by assumption))]⟩, rfl⟩
  ·try simp only [qB] at hg2
   refine Lo u69 (Zb (.inl rfl) rfl) ?_
   refine Lo u69 (rfl) ?_
   refine Lo u69 (W80 rfl rfl rfl rfl) ?_
   refine Lo u69 (Zb (.inl rfl) rfl) ?_
   refine Lo u69 (v_shrW rfl rfl rfl XH5) ?_
   refine Lo u69 (v_andW (b := 1#64) rfl rfl rfl) ?_
   refine Lo u69 (rfl) ?_
   refine Lo u69 (ZU rfl rfl rfl) ?_
   refine Ze (Zc ?_)
   refine Zl _ rfl (fun hc3 => ?_) (fun hc3 => ?_)
   ·try simp only [qB] at hc3
    refine ZF (ZD (ZE (Zc (Za ?_))))
    refine Lo u69 (Zb (.inl rfl) rfl) ?_
    refine Lo u69 (W14 rfl rfl rfl) ?_
    refine Lo u69 (Zb (.inr rfl) rfl) ?_
    refine Ze ?_
    refine Zw (mk 69 590295810358705651184) (env' := u69) rfl ⟨⟨u + 1, s1⟩, ?_, rfl, ?_⟩
    ·first | omega | (simp only []; omega)
    ·first | exact ⟨⟨by omega, hl1, hcm, by rw [hg, YR (by omega), if_pos (.inl (sh0.1 (by assumption)))]⟩, rfl⟩ | exact ⟨⟨by omega, hl1, hcm, by rw [hg, YR (by omega), if_pos (.inr (sh1.1 (by assumption)))]⟩, rfl⟩ | exact ⟨⟨by omega, trn_len.trans hl1, XH12, by rw [hg, hf, if_neg (by omega), if_neg (not_of_f (by assumption))]⟩, rfl⟩
   ·try simp only [qB] at hc3
    refine Zj (Zc (Zd ?_))
    have hu64 : u < 64 := by omega
    have hbit : (rows.getD i 0).getLsbD u = true := sh_not0 (by assumption)
    have hseen : s1.2.getLsbD u = false := sh1n.1 (by assumption)
    have hcond : ¬ ((rows.getD i 0).getLsbD u = false ∨ s1.2.getLsbD u = true) := fun e => e.elim (fun h => by rw [hbit] at h; cases h) (fun h => by rw [hseen] at h; cases h)
    have hcg := come_grow (s := s1.2) (t := s1.2 ||| 1#64 <<< u) (fun a ha => (or1 hu64).2 (.inl ha)) ⟨u, (or1 hu64).2 (.inr rfl), hseen⟩
    have hcl := come_le (s1.2 ||| 1#64 <<< u)
    rw [YR hu64, if_neg hcond] at hg
    refine ZV [0, 1, 2, 3, 4, 5, 6, 7, 8] #[0, 0, 2, 6, 0, 16, 62, 127, 255] XH1 XH1 XH1 ?_
    refine Oo u69 .calm rfl (Zb (.inl rfl) rfl) ?_
    refine Oo u69 .calm rfl (Zb (.inl rfl) rfl) ?_
    refine Oo u69 .calm rfl (rfl) ?_
    refine Oo u69 .look rfl (W80 rfl rfl rfl rfl) ?_
    refine Oo u69 .calm rfl (Zb (.inl rfl) rfl) ?_
    refine Oo u69 .calm rfl (v_shl1 rfl rfl rfl XH5) ?_
    refine Oo u69 .calm rfl (v_orW rfl rfl rfl) ?_
    refine Oo u69 .calm rfl (rfl) ?_
    refine Oo u69 .turn rfl (W82 rfl rfl rfl rfl rfl rfl rfl) ?_
    refine ZS [] XH1 (trivial) ?_
    refine Zc (Zd (Za ?_))
    refine Lo u69 (Zg (VVal.int .i64 0) (.inr rfl) rfl) ?_
    refine Ze (Zc (Zd (Zk ?_)))
    refine Zt (mk 69 590295810358705650160) (env' := u69) rfl ?_
    refine Zz (fun (k : Nat) => rows.length - k) (fun (k : Nat) => [(10, iI (k : Nat))]) (fun (k : Nat) G => (k ≤ rows.length ∧ ∀ j, j < k → s1.1.getD j 0 ≠ (u : Int)) ∧ G = trH H p q (s1.1, s1.2 ||| 1#64 <<< u) ++ []) 0 rfl ?_ ?_
    ·refine ⟨?_, rfl⟩
     exact ⟨Nat.zero_le _, fun j h => by omega⟩
    rintro k _ ⟨⟨hk, hno⟩, rfl⟩
    refine ZQ (env' := u69) rfl ?_
    refine Zd (Zd (Za ?_))
    refine Lo u69 (Zb (.inl rfl) rfl) ?_
    refine Lo u69 (Zb (.inl rfl) rfl) ?_
    refine Lo u69 (rfl) ?_
    refine Lo u69 (rfl) ?_
    refine Lo u69 (Zb (.inl rfl) rfl) ?_
    refine ZH 44 (env1 := u69) (env2 := u69) rfl rfl rfl (fun hg4 => ?_) (fun hg4 => ?_)
    ·try simp only [qB] at hg4
     refine Lo u69 (Zb (.inl rfl) rfl) ?_
     refine Lo u69 (Zb (.inl rfl) rfl) ?_
     refine Lo u69 (W18 rfl rfl rfl rfl rfl rfl rfl) ?_
     refine Lo u69 (W83 rfl rfl rfl rfl) ?_
     refine Lo u69 (Zb (.inl rfl) rfl) ?_
     refine Lo u69 (rfl) ?_
     refine Lo u69 (ZN rfl rfl rfl) ?_
     refine Ze (Zc ?_)
     refine Zl _ rfl (fun hc5 => ?_) (fun hc5 => ?_)
     ·try simp only [qB] at hc5
      refine Zj (Zc (Zk (Za ?_)))
      refine Lo u69 (Zb (.inl rfl) rfl) ?_
      refine Lo u69 (W14 rfl rfl rfl) ?_
      refine Lo u69 (Zb (.inr rfl) rfl) ?_
      refine Ze (ZA ?_)
      refine Zw (mk 69 590295810358705650160) (env' := u69) rfl ⟨k + 1, ?_, rfl, ?_⟩
      ·first | omega | (simp only []; omega)
      ·exact ⟨⟨by omega, fun j hj => by by_cases e : j = k; (subst e; assumption); exact hno j (by omega)⟩, rfl⟩
     ·try simp only [qB] at hc5
      refine ZF (ZD (Zu (ZE (Zc (Zd ?_)))))
      have hf : fndK s1.1 u = k := fndK_is (by omega) hno (by first | exact .inr (by assumption) | exact .inl (by omega))
      refine Za ?_
      refine Lo u69 (Zb (.inl rfl) rfl) ?_
      refine Lo u69 (Zb (.inl rfl) rfl) ?_
      refine Lo u69 (rfl) ?_
      refine Lo u69 (rfl) ?_
      refine Lo u69 (Zb (.inl rfl) rfl) ?_
      refine ZH 58 (env1 := u69) (env2 := u69) rfl rfl rfl (fun hg6 => ?_) (fun hg6 => ?_)
      ·try simp only [qB] at hg6
       refine Lf u69 ?_
       refine Lf u69 ?_
       refine Lf u69 ?_
       refine Lf u69 ?_
       refine Lf u69 ?_
       refine Lo u69 (ZL (VVal.bool true) rfl rfl rfl) ?_
       refine Ze (Zc ?_)
       refine ZO rfl rfl ?_
       refine Zd (Za ?_)
       refine Lo u69 (Zb (.inl rfl) rfl) ?_
       refine Lo u69 (Zb (.inl rfl) rfl) ?_
       refine Lo u69 (Zb (.inl rfl) rfl) ?_
       refine Lo u69 (W18 rfl rfl rfl rfl rfl rfl rfl) ?_
       refine Lo u69 (W84 rfl rfl rfl rfl rfl rfl rfl) ?_
       refine Ze (Zc (Zd (Za ?_)))
       refine Lo u69 (Zg (VVal.bool true) (.inr rfl) rfl) ?_
       refine Ze (Zc (Zi (ZB (Zm (Z5 (ZB (Zm ?_)))))))
       refine W85 (.inr rfl) (Zh rfl rfl) ?_
       exact W86
      ·try simp only [qB] at hg6
       refine Lo u69 (Zb (.inl rfl) rfl) ?_
       refine Lo u69 (Zb (.inl rfl) rfl) ?_
       refine Lo u69 (Zb (.inl rfl) rfl) ?_
       refine Lo u69 (Zb (.inl rfl) rfl) ?_
       refine Zr rfl rfl rfl XH31 ?_
       rintro _ _ ⟨rfl, rfl⟩
       refine Le u69 ?_
       refine Lo u69 (ZU rfl rfl rfl) ?_
       refine Ze (Zc ?_)
       refine Zl _ rfl (fun hc7 => ?_) (fun hc7 => ?_)
       ·try simp only [qB] at hc7
        refine Zd (Za ?_)
        refine Lo u69 (Zb (.inl rfl) rfl) ?_
        refine Lo u69 (Zb (.inl rfl) rfl) ?_
        refine Lo u69 (Zb (.inl rfl) rfl) ?_
        refine Lo u69 (W18 rfl rfl rfl rfl rfl rfl rfl) ?_
        refine Lo u69 (W84 rfl rfl rfl rfl rfl rfl rfl) ?_
        refine Ze (Zc (Zd (Za ?_)))
        refine Lo u69 (Zg (VVal.bool true) (.inr rfl) rfl) ?_
        refine Ze (Zc (Zi (ZB (Zm (Z5 (ZB (Zm ?_)))))))
        refine W85 (.inr rfl) (Zh rfl rfl) ?_
        exact W86
       ·try simp only [qB] at hc7
        refine Zj (ZA (Zc (Za ?_)))
        refine Lo u69 (Zb (.inl rfl) rfl) ?_
        refine Lo u69 (W14 rfl rfl rfl) ?_
        refine Lo u69 (Zb (.inr rfl) rfl) ?_
        refine Ze ?_
        refine Zw (mk 69 590295810358705651184) (env' := u69) rfl ⟨⟨u + 1, (trn rows n k (s1.1, s1.2 ||| 1#64 <<< u)).2⟩, ?_, rfl, ?_⟩
        ·first | omega | (simp only []; omega)
        ·first | exact ⟨⟨by omega, hl1, hcm, by rw [hg, YR (by omega), if_pos (.inl (sh0.1 (by assumption)))]⟩, rfl⟩ | exact ⟨⟨by omega, hl1, hcm, by rw [hg, YR (by omega), if_pos (.inr (sh1.1 (by assumption)))]⟩, rfl⟩ | exact ⟨⟨by omega, trn_len.trans hl1, XH12, by rw [hg, hf, if_neg (by omega), if_neg (not_of_f (by assumption))]⟩, rfl⟩
    ·try simp only [qB] at hg4
     refine Lf u69 ?_
     refine Lf u69 ?_
     refine Lf u69 ?_
     refine Lf u69 ?_
     refine Lf u69 ?_
     refine Lf u69 ?_
     refine Lo u69 (ZI (VVal.bool false) rfl rfl rfl) ?_
     refine Ze (Zc ?_)
     refine ZY rfl rfl ?_
     refine ZF (ZD (Zu (ZE (Zc (Zd ?_)))))
     have hf : fndK s1.1 u = k := fndK_is (by omega) hno (by first | exact .inr (by assumption) | exact .inl (by omega))
     refine Za ?_
     refine Lo u69 (Zb (.inl rfl) rfl) ?_
     refine Lo u69 (Zb (.inl rfl) rfl) ?_
     refine Lo u69 (rfl) ?_
     refine Lo u69 (rfl) ?_
     refine Lo u69 (Zb (.inl rfl) rfl) ?_
     refine ZH 58 (env1 := u69) (env2 := u69) rfl rfl rfl (fun hg8 => ?_) (fun hg8 => ?_)
     ·try simp only [qB] at hg8
      refine Lf u69 ?_
      refine Lf u69 ?_
      refine Lf u69 ?_
      refine Lf u69 ?_
      refine Lf u69 ?_
      refine Lo u69 (ZL (VVal.bool true) rfl rfl rfl) ?_
      refine Ze (Zc ?_)
      refine ZO rfl rfl ?_
      refine Zd (Za ?_)
      refine Lo u69 (Zb (.inl rfl) rfl) ?_
      refine Lo u69 (Zb (.inl rfl) rfl) ?_
      refine Lo u69 (Zb (.inl rfl) rfl) ?_
      refine Lo u69 (W18 rfl rfl rfl rfl rfl rfl rfl) ?_
      refine Lo u69 (W84 rfl rfl rfl rfl rfl rfl rfl) ?_
      refine Ze (Zc (Zd (Za ?_)))
      refine Lo u69 (Zg (VVal.bool true) (.inr rfl) rfl) ?_
      refine Ze (Zc (Zi (ZB (Zm (Z5 (ZB (Zm ?_)))))))
      refine W85 (.inr rfl) (Zh rfl rfl) ?_
      exact W86
     ·try simp only [qB] at hg8
      refine Lo u69 (Zb (.inl rfl) rfl) ?_
      refine Lo u69 (Zb (.inl rfl) rfl) ?_
      refine Lo u69 (Zb (.inl rfl) rfl) ?_
      refine Lo u69 (Zb (.inl rfl) rfl) ?_
      refine Zr rfl rfl rfl XH31 ?_
      rintro _ _ ⟨rfl, rfl⟩
      refine Le u69 ?_
      refine Lo u69 (ZU rfl rfl rfl) ?_
      refine Ze (Zc ?_)
      refine Zl _ rfl (fun hc9 => ?_) (fun hc9 => ?_)
      ·try simp only [qB] at hc9
       refine Zd (Za ?_)
       refine Lo u69 (Zb (.inl rfl) rfl) ?_
       refine Lo u69 (Zb (.inl rfl) rfl) ?_
       refine Lo u69 (Zb (.inl rfl) rfl) ?_
       refine Lo u69 (W18 rfl rfl rfl rfl rfl rfl rfl) ?_
       refine Lo u69 (W84 rfl rfl rfl rfl rfl rfl rfl) ?_
       refine Ze (Zc (Zd (Za ?_)))
       refine Lo u69 (Zg (VVal.bool true) (.inr rfl) rfl) ?_
       refine Ze (Zc (Zi (ZB (Zm (Z5 (ZB (Zm ?_)))))))
       refine W85 (.inr rfl) (Zh rfl rfl) ?_
       exact W86
      ·try simp only [qB] at hc9
       refine Zj (ZA (Zc (Za ?_)))
       refine Lo u69 (Zb (.inl rfl) rfl) ?_
       refine Lo u69 (W14 rfl rfl rfl) ?_
       refine Lo u69 (Zb (.inr rfl) rfl) ?_
       refine Ze ?_
       refine Zw (mk 69 590295810358705651184) (env' := u69) rfl ⟨⟨u + 1, (trn rows n k (s1.1, s1.2 ||| 1#64 <<< u)).2⟩, ?_, rfl, ?_⟩
       ·first | omega | (simp only []; omega)
       ·first | exact ⟨⟨by omega, hl1, hcm, by rw [hg, YR (by omega), if_pos (.inl (sh0.1 (by assumption)))]⟩, rfl⟩ | exact ⟨⟨by omega, hl1, hcm, by rw [hg, YR (by omega), if_pos (.inr (sh1.1 (by assumption)))]⟩, rfl⟩ | exact ⟨⟨by omega, trn_len.trans hl1, XH12, by rw [hg, hf, if_neg (by omega), if_neg (not_of_f (by assumption))]⟩, rfl⟩
 ·try simp only [qB] at hc1
  refine ZF (ZD (Zu (ZE (Zc (Zd (Za ?_))))))
  refine Lo u69 (Zg (VVal.bool false) (.inr rfl) rfl) ?_
  refine Ze (Zc (Zi ?_))
  refine W85 (.inr rfl) (Zh rfl rfl) ?_
  exact W86
theorem W87 {S : V.Sys} {H : Zf} {fn : Func} {ex : Exit} {env : VEnv} {B L : Zf} {v : VVal} {R : VVal → Zf → Prop} (hx : ex = .normal ∨ ex = .ret) (hv : ZP S.C.T env (B ++ L) fn.results = some v) (h : R v B) (hB : BaseOk H B := by exact XH38) (hu : v.under H.length = true := by first | rfl | simp [VVal.under, VVal.underL, Yv, *]) : fnK S fn H R ex env (B ++ L) := YQ hx hv hB hu h
theorem W88 {P : Prop} (h : P := by first | exact ⟨by rw [szV, if_neg (by omega)], rfl⟩ | (obtain rfl : k = rows.length := by omega); exact ⟨by rw [szV, if_pos (by omega), rsz_all], rfl⟩) : P := h
theorem W8b {T : TypeId → Option VTy} {H : Zf} {op : Op} {ρ : Operand → VVal} {t ty : TypeId} {x y : Operand} {n m : Int} (ho : op = .binOp .add t x y ty) (hx : ρ x = .int .i64 n) (hy : ρ y = .int .i64 m) (h : -9223372036854775808 ≤ n + m ∧ n + m < 9223372036854775808 := by have := rsz_le (rows := rows) (k := k) (by omega); omega) : vop T ρ H op = some (.int .i64 (n + m), H) := v_addI ho hx hy h
theorem W8d {P : Prop} (h : P := by first | exact ⟨by rw [full_sz, decide_eq_true (by omega), Bool.true_and, ← beq_nat]; rw [szV, if_pos (by omega)], rfl⟩ | exact ⟨by rw [decide_eq_false (by omega), Bool.false_and], rfl⟩) : P := h
theorem turn_spec {x : SW} (p q : Nat) (ex : Bool) (rows : List (BitVec 64)) (hpq : p ≠ q) (h62 : rows.length ≤ 1000000) : ∀ (n : Nat) (H : Zf) (i : Nat) (has : List Int) (S : BitVec 64), H[p]? = some (haB has) → H[q]? = some (seB S) → i < rows.length → has.length = rows.length → 64 - YC 64 S < n → F (psys x) 161 [fzW rows, .slice (some (p, 0)) rows.length rows.length ex 1, .ptr (some (q, 0)), iI (i : Nat)] H fun v G => v = .bool (trn rows n i (has, S)).1 ∧ G = trH H p q (trn rows n i (has, S)).2
  | 0, _, _, _, _, _, _, _, _, h => absurd h (by omega)
  | n + 1, H, i, has, S, hp, hq, hi, hl, hm => turn_s p q n ex rows hpq h62 (fun H i has S a b c d e => turn_spec p q ex rows hpq h62 n H i has S a b c d e) H i has S hp hq hi hl hm
theorem turn_at {x : SW} (H : Zf) (ex : Bool) (rows : List (BitVec 64)) (has : List Int) (i : Nat) (hi : i < rows.length) (hl : has.length = rows.length) (h62 : rows.length ≤ 1000000) : F (psys x) 161 [fzW rows, .slice (some (H.length + 0, 0)) rows.length rows.length ex 1, .ptr (some (H.length + 1, 0)), iI (i : Nat)] (H ++ [haB has, seB 0#64]) fun v G => v = .bool (trn rows 65 i (has, 0#64)).1 ∧ G = H ++ [haB (trn rows 65 i (has, 0#64)).2.1, seB (trn rows 65 i (has, 0#64)).2.2] := by
  have := turn_spec (x := x) (H.length + 0) (H.length + 1) ex rows (by omega) h62 65 (H ++ [haB has, seB 0#64]) i has 0#64 (ZK rfl rfl) (ZK rfl rfl) hi hl (by rw [come_0]; omega)
  unfold trH at this
  rw [ZZ rfl, ZZ rfl] at this
  exact this
theorem haB_under {n : Nat} {has : List Int} : (haB has).under n = true := mapI_under _ _
theorem rep_cells : ∀ {n : Nat}, ZR [VVal.int .i64 0] n = (List.replicate n (0 : Int)).map iI
  | 0 => rfl
  | n + 1 => by rw [ZR, rep_cells, List.replicate_succ]; rfl
def iniT (n k : Nat) : List Int := List.replicate k (-1) ++ List.replicate (n - k) 0
theorem iniT_len {n k : Nat} (h : k ≤ n) : (iniT n k).length = n := by unfold iniT; simp; omega
theorem iniT_set {n k : Nat} (h : k < n) : (iniT n k).set k (-1) = iniT n (k + 1) := by
  unfold iniT
  rw [List.set_append_right _ _ (by simp), List.length_replicate, Nat.sub_self, show n - k = (n - (k + 1)) + 1 by omega, List.replicate_succ, List.set_cons_zero, List.replicate_succ', List.append_assoc]; rfl
theorem iniT_all {n : Nat} : iniT n n = List.replicate n (-1) := by unfold iniT; simp
theorem rsz_len {rows : List (BitVec 64)} {k : Nat} (h : k ≤ rows.length) : (rsz rows k).1.length = rows.length := (rsz_cor h).1.hl
theorem rsz_le {rows : List (BitVec 64)} {k : Nat} (h : k ≤ rows.length) : (rsz rows k).2 ≤ k := by rw [(rsz_cor h).2.1]; exact szO_le
theorem full_sz {rows : List (BitVec 64)} : Yf rows 0#64 = (szN rows == rows.length) := by unfold Yf; rw [msk_0]
theorem refSize_spec {x : SW} (H : Zf) (rows : List (BitVec 64)) (h62 : rows.length ≤ 1000000) : F (psys x) 145 [fzW rows] H fun v G => v = iI (szV rows) ∧ G = H := by
 refine Zq Tryd.func145 rfl u36 rfl ?_
 refine Zd (Za ?_)
 refine Lo u36 (Zg (VVal.int .i64 0) (.inr rfl) rfl) ?_
 refine Ze (Zc (Zd (Zd (Za ?_))))
 refine Lo u36 (Zb (.inl rfl) rfl) ?_
 refine Lo u36 (rfl) ?_
 refine Lo u36 (rfl) ?_
 refine Ze (Zc ?_)
 refine Zl _ rfl (fun hc1 => ?_) (fun hc1 => ?_)
 ·try simp only [qB] at hc1
  refine Zd (Za ?_)
  refine Lo u36 (Zg (VVal.int .i64 0) (.inr rfl) rfl) ?_
  refine Ze (Zc (Zi (Zm ?_)))
  refine W87 (.inr rfl) (Zh rfl rfl) ?_
  exact W88
 ·try simp only [qB] at hc1
  refine Zj (Zc (Zd (Za ?_)))
  refine Lo u36 (Zb (.inl rfl) rfl) ?_
  refine Lo u36 (rfl) ?_
  refine Lo u36 (v_makeSlice rfl rfl rfl rfl rfl (by decide) ⟨by omega, Int.le_refl _, by show (rows.length : Int) * (8 : Nat) ≤ _; omega, by omega⟩) ?_
  refine Lo u36 (Zb (.inr rfl) rfl) ?_
  refine Ze (Zc (Zd (Zd (Za ?_))))
  refine Lo u36 (Zg (VVal.int .i64 0) (.inr rfl) rfl) ?_
  refine Ze (Zc (Zk ?_))
  refine Zt (mk 36 68719476710) (env' := u36) rfl ?_
  refine Zz (fun (k : Nat) => rows.length - k) (fun (k : Nat) => [(4, iI (k : Nat))]) (fun (k : Nat) G => (k ≤ rows.length) ∧ G = H ++ [haB (iniT rows.length k)]) 0 rfl ?_ ?_
  ·refine ⟨?_, (by show _ ++ [VBlk.cells (ZR [VVal.int .i64 0] _) true] = _; rw [rep_cells]; rfl)⟩
   exact Nat.zero_le _
  rintro k _ ⟨hk, rfl⟩
  refine ZQ (env' := u36) rfl ?_
  refine Zd (Zd (Za ?_))
  refine Lo u36 (Zb (.inl rfl) rfl) ?_
  refine Lo u36 (Zb (.inl rfl) rfl) ?_
  refine Lo u36 (rfl) ?_
  refine Lo u36 (rfl) ?_
  refine Ze (Zc ?_)
  refine Zl _ rfl (fun hc2 => ?_) (fun hc2 => ?_)
  ·try simp only [qB] at hc2
   refine Zj (Zc (Zd (Zk (Za ?_))))
   refine Lo u36 (Zb (.inl rfl) rfl) ?_
   refine Lo u36 (Zb (.inl rfl) rfl) ?_
   refine Lo u36 (W18 rfl rfl rfl rfl rfl rfl rfl) ?_
   refine Lo u36 (Yk (VVal.int .i64 (-1)) rfl rfl rfl rfl rfl rfl rfl XH0 (by first | exact has_len (s := (iniT rows.length k, 0#64)) (by rw [iniT_len (by omega)]; omega)) (by exact (ZZ rfl).trans (congrArg (fun c => H ++ [VBlk.cells c true]) (splice_i (l := iniT rows.length k) (k := k) (r := -1) (by rw [iniT_len hk]; omega))))) ?_
   refine Ze (ZA (Zc (Za ?_)))
   refine Lo u36 (Zb (.inl rfl) rfl) ?_
   refine Lo u36 (W14 rfl rfl rfl) ?_
   refine Lo u36 (Zb (.inr rfl) rfl) ?_
   refine Ze ?_
   have hE : (iniT rows.length k).set (k : Int).toNat (-1) = iniT rows.length (k + 1) := iniT_set (by omega)
   refine Zw (mk 36 68719476710) (env' := u36) rfl ⟨k + 1, ?_, rfl, ?_⟩
   ·first | omega | (simp only []; omega)
   ·exact ⟨by omega, by rw [← hE]; rfl⟩
  ·try simp only [qB] at hc2
   refine ZF (ZD (Zu (ZE (Zc (Zd (Za ?_))))))
   refine Lo u36 (Zg (VVal.int .i64 0) (.inr rfl) rfl) ?_
   refine Ze (Zc (Zd (Zd (Za ?_))))
   refine Lo u36 (Zg (VVal.int .i64 0) (.inr rfl) rfl) ?_
   refine Ze (Zc (Zk ?_))
   refine Zt (mk 36 68719476630) (env' := u36) rfl ?_
   refine Zz (fun (k : Nat) => rows.length - k) (fun (k : Nat) => [(5, iI ((rsz rows k).2 : Nat)), (6, iI (k : Nat))]) (fun (k : Nat) G => (k ≤ rows.length) ∧ G = H ++ [haB (rsz rows k).1]) 0 rfl ?_ ?_
   ·refine ⟨?_, (by rw [show k = rows.length by omega, iniT_all]; rfl)⟩
    exact Nat.zero_le _
   rintro k _ ⟨hk, rfl⟩
   refine ZQ (env' := u36) rfl ?_
   refine Zd (Zd (Za ?_))
   refine Lo u36 (Zb (.inl rfl) rfl) ?_
   refine Lo u36 (Zb (.inl rfl) rfl) ?_
   refine Lo u36 (rfl) ?_
   refine Lo u36 (rfl) ?_
   refine Ze (Zc ?_)
   refine Zl _ rfl (fun hc3 => ?_) (fun hc3 => ?_)
   ·try simp only [qB] at hc3
    refine Zj (Zc (Zd (Zk (Zd (Za ?_)))))
    refine Lo u36 (Zv rfl rfl) ?_
    refine Lo u36 (Yk (VVal.int .u64 0) rfl rfl rfl rfl rfl rfl rfl XH0 XH6 XH4) ?_
    refine Ze (Zc (Zd (Za ?_)))
    refine Lo u36 (Zb (.inl rfl) rfl) ?_
    refine Lo u36 (Zb (.inl rfl) rfl) ?_
    refine Lo u36 (Zb (.inl rfl) rfl) ?_
    refine Zr rfl rfl rfl (by exact turn_at H _ rows (rsz rows k).1 k (by omega) (rsz_len (by omega)) h62) ?_
    rintro _ _ ⟨rfl, rfl⟩
    refine Le u36 ?_
    refine Ze (Zc ?_)
    refine Zl _ rfl (fun hc4 => ?_) (fun hc4 => ?_)
    ·try simp only [qB] at hc4
     refine Za ?_
     refine Lo u36 (Zb (.inl rfl) rfl) ?_
     refine Lo u36 (W8b rfl rfl rfl) ?_
     refine Lo u36 (Zb (.inr rfl) rfl) ?_
     refine Ze (ZA (Zc (Za ?_)))
     refine Lo u36 (Zb (.inl rfl) rfl) ?_
     refine Lo u36 (W14 rfl rfl rfl) ?_
     refine Lo u36 (Zb (.inr rfl) rfl) ?_
     refine Ze ?_
     first
       | (have hE : (((rsz rows k).2 : Nat) : Int) + 1 = ((rsz rows (k + 1)).2 : Nat) := by rw [rsz, if_pos (by assumption)]; rfl); rw [hE]
       | (have hE : (rsz rows k).2 = (rsz rows (k + 1)).2 := by rw [rsz]; simp only; rw [if_neg (not_of_f (by assumption))]); rw [hE]
     refine K_loopG (mk 36 68719476630) (env' := u36) rfl (Gh.dropTo (L := [haB (rsz rows (k + 1)).1]) (X := [seB _]) 1 rfl (BaseOk.refl _) (by first | (simp [VVal.underL, VVal.under, Yv]; done) | (simp [VVal.underL, VVal.under, Yv]; omega)) (by simp [haB_under])) ⟨k + 1, ?_, rfl, ?_⟩
     ·first | omega | (simp only []; omega)
     ·exact ⟨by omega, rfl⟩
    ·try simp only [qB] at hc4
     refine Zj (ZA (Zc (Za ?_)))
     refine Lo u36 (Zb (.inl rfl) rfl) ?_
     refine Lo u36 (W14 rfl rfl rfl) ?_
     refine Lo u36 (Zb (.inr rfl) rfl) ?_
     refine Ze ?_
     first
       | (have hE : (((rsz rows k).2 : Nat) : Int) + 1 = ((rsz rows (k + 1)).2 : Nat) := by rw [rsz, if_pos (by assumption)]; rfl); rw [hE]
       | (have hE : (rsz rows k).2 = (rsz rows (k + 1)).2 := by rw [rsz]; simp only; rw [if_neg (not_of_f (by assumption))]); rw [hE]
     refine K_loopG (mk 36 68719476630) (env' := u36) rfl (Gh.dropTo (L := [haB (rsz rows (k + 1)).1]) (X := [seB _]) 1 rfl (BaseOk.refl _) (by first | (simp [VVal.underL, VVal.under, Yv]; done) | (simp [VVal.underL, VVal.under, Yv]; omega)) (by simp [haB_under])) ⟨k + 1, ?_, rfl, ?_⟩
     ·first | omega | (simp only []; omega)
     ·exact ⟨by omega, rfl⟩
   ·try simp only [qB] at hc3
    refine ZF (ZD (Zu (ZE (Zc (Zd (Za ?_))))))
    refine Lo u36 (Zb (.inl rfl) rfl) ?_
    refine Lo u36 (Zb (.inr rfl) rfl) ?_
    refine Ze (Zc (Zi ?_))
    refine W87 (.inr rfl) (Zh rfl rfl) ?_
    exact W88
theorem refFull_spec {x : SW} (H : Zf) (rows : List (BitVec 64)) (h62 : rows.length ≤ 1000000) : F (psys x) 128 [fzW rows] H fun v G => v = .bool (decide (rows.length ≤ 12) && Yf rows 0#64) ∧ G = H := by
 refine Zq Tryd.func128 rfl u13 rfl ?_
 refine Zd (Za ?_)
 refine Lo u13 (Zg (VVal.bool false) (.inr rfl) rfl) ?_
 refine Ze (Zc (Zd (Za ?_)))
 refine Lo u13 (Zb (.inl rfl) rfl) ?_
 refine Lo u13 (rfl) ?_
 refine Lo u13 (rfl) ?_
 refine Lo u13 (Zb (.inl rfl) rfl) ?_
 refine ZH 6 (env1 := u13) (env2 := u13) rfl rfl rfl (fun hg1 => ?_) (fun hg1 => ?_)
 ·try simp only [qB] at hg1
  refine Lo u13 (Zb (.inl rfl) rfl) ?_
  refine Zr rfl rfl rfl (by exact refSize_spec _ _ h62) ?_
  rintro _ _ ⟨rfl, rfl⟩
  refine Le u13 ?_
  refine Lo u13 (Zb (.inl rfl) rfl) ?_
  refine Lo u13 (rfl) ?_
  refine Lo u13 (rfl) ?_
  refine Lo u13 (ZN rfl rfl rfl) ?_
  refine Lo u13 (Zb (.inr rfl) rfl) ?_
  refine Ze (Zc (Zi ?_))
  refine W10 (.inr rfl) (Zh rfl rfl) ?_
  exact W8d
 ·try simp only [qB] at hg1
  refine Lf u13 ?_
  refine Lf u13 ?_
  refine Lf u13 ?_
  refine Lf u13 ?_
  refine Lf u13 ?_
  refine Lo u13 (ZI (VVal.bool false) rfl rfl rfl) ?_
  refine Lo u13 (Zb (.inr rfl) rfl) ?_
  refine Ze (Zc (Zi ?_))
  refine W10 (.inr rfl) (Zh rfl rfl) ?_
  exact W8d
theorem W8h {S : V.Sys} {H : Zf} {fn : Func} {ex : Exit} {env : VEnv} {B L : Zf} {v : VVal} {R : VVal → Zf → Prop} (hx : ex = .normal ∨ ex = .ret) (hv : ZP S.C.T env (B ++ L) fn.results = some v) (h : R v B) (hB : BaseOk H B := by exact XH38) (hu : v.under H.length = true := by first | rfl | simp [VVal.under, VVal.underL, Yt, *]) : fnK S fn H R ex env (B ++ L) := YQ hx hv hB hu h
theorem W8i {P : Prop} (h : P := by first | exact ⟨by rw [leV, if_neg (fun e => by rw [decide_eq_true e.1, e.2] at hc1; cases hc1)]; rfl, rfl⟩ | (obtain rfl : r = [] := List.eq_nil_of_length_eq_zero (by omega)); exact ⟨by rw [leV, if_pos hc1, hlst]; simp [lst], rfl⟩) : P := h
theorem W8j {T : TypeId → Option VTy} {H : Zf} {op : Op} {ρ : Operand → VVal} {t : TypeId} {a : Operand} {y : VTy} {p v : VVal} (ho : op = .load t a) (ha : ρ a = p) (hy : T t = some y) (hd : Zn y.desc = false) (h : LdOk H p v := by first | exact .inl ⟨_, _, rfl, by first | exact fget (α := BitVec 64) (n := 0) 0 (by omega) | rfl⟩ | exact .inr ⟨_, _, _, _, rfl, XH34, by first | exact fget (α := BitVec 64) (n := 0) 0 (by omega) | rfl⟩) : vop T ρ H op = some (v, H) := Yx ho ha hy hd h
def gvT (rows : List (BitVec 64)) (t : BitVec 64) (i : Nat) : List (BitVec 64) := msk ((rows.take i).drop 1) t
theorem gvT_1 {rows : List (BitVec 64)} {t : BitVec 64} : gvT rows t 1 = [] := by
  unfold gvT
  cases rows <;> rfl
theorem gvT_succ {rows : List (BitVec 64)} {t : BitVec 64} {i : Nat} (h1 : 1 ≤ i) (h : i < rows.length) : gvT rows t (i + 1) = gvT rows t i ++ [rows.getD (i : Int).toNat 0 &&& ~~~t] := by
  unfold gvT msk
  rw [List.take_succ_eq_append_getElem h, List.drop_append_of_le_length XH24, List.map_append, Int.toNat_natCast, List.getD_eq_getElem?_getD, List.getElem?_eq_getElem h]; rfl
theorem gvT_all {rows : List (BitVec 64)} {t : BitVec 64} {i : Nat} (h : rows.length ≤ i) : gvT rows t i = msk (rows.drop 1) t := by
  unfold gvT; rw [List.take_of_length_le h]
theorem msk_fullB {l : List (BitVec 64)} {s t : BitVec 64} : Yf (msk l s) t = Yf l (s ||| t) := by unfold Yf; rw [msk_msk, Ym]
theorem msk_w {w s t : BitVec 64} : (w &&& ~~~s) &&& ~~~t = w &&& ~~~(s ||| t) := Yy fun i hi => by
  simp only [BitVec.getLsbD_and, BitVec.getLsbD_not, BitVec.getLsbD_or, hi, decide_true, Bool.true_and, Bool.not_or, Bool.and_assoc]
theorem lst_msk : ∀ {l : List (BitVec 64)} {s t : BitVec 64}, lst (msk l s) t = lst l (s ||| t)
  | [], s, t => rfl
  | w :: l, s, t => by
    show lst ((w &&& ~~~s) :: msk l s) t = _
    rw [lst, lst, msk_w]
    simp only [msk_fullB, BitVec.or_assoc, lst_msk]
theorem z_not (w : BitVec 64) : w &&& ~~~0#64 = w := Yy fun i hi => by rw [BitVec.getLsbD_and, BitVec.getLsbD_not, BitVec.getLsbD_zero, decide_eq_true hi]; simp
theorem lst_first {w : BitVec 64} {l : List (BitVec 64)} {u : Nat} (hu : u < 64) (h1 : w.getLsbD u = true) (h2 : Yf (msk l (1#64 <<< u)) 0#64 = true) (h3 : ∀ v, v < u → w.getLsbD v = true → Yf (msk l (1#64 <<< v)) 0#64 = false) : lst (w :: l) 0#64 = u :: lst (msk l (1#64 <<< u)) 0#64 := by
  have hor : ∀ v : Nat, 0#64 ||| 1#64 <<< v = 1#64 <<< v ||| 0#64 := fun v => by simp
  have hx : pl w 0 = (List.range u).filter w.getLsbD ++ u :: pl w (u + 1) := by
    have e1 : pl w 0 = (List.range u).filter w.getLsbD ++ pl w u := by
      unfold pl
      rw [show (64 : Nat) - 0 = u + (64 - u) by omega, List.range_eq_range', List.range'_append_1 |>.symm, List.filter_append, Nat.zero_add]
    rw [e1, pl_step w u, if_pos hu, if_pos h1]
  rw [lst, z_not, hx, find_yes (c := u) (fun v hv => ?_) (by rw [hor, ← msk_fullB]; exact h2)]
  · simp only
    rw [hor, lst_msk]
  · have hv := List.mem_filter.1 hv
    rw [hor, ← msk_fullB]; exact h3 v (List.mem_range.1 hv.1) hv.2
theorem first_ex {w : BitVec 64} {l : List (BitVec 64)} (h : Yf (w :: l) 0#64 = true) : ∃ u, u < 64 ∧ w.getLsbD u = true ∧ Yf (msk l (1#64 <<< u)) 0#64 = true := by
  obtain ⟨u, h1, h2⟩ := mat_cons.1 (full0.1 h)
  exact ⟨u, BitVec.lt_of_getLsbD h1, h1, full0.2 h2⟩
theorem LV.appW {h : Nat} {X : Zf} {v : VVal} {l : List (BitVec 64)} {w : BitVec 64} {n : Nat} (r : LV h 1 X v (l.map iW ++ [iW w]) n) : LV h 1 X v ((l ++ [w]).map iW) n := by rw [List.map_append]; exact r
theorem LV.appN {h : Nat} {X : Zf} {v : VVal} {l : List Nat} {u : Nat} {n : Nat} (r : LV h 1 X v (l.map jN ++ [jN u]) n) : LV h 1 X v ((l ++ [u]).map jN) n := by rw [List.map_append]; exact r
theorem given_spec {x : SW} (H : Zf) (rows : List (BitVec 64)) (u : Nat) (h62 : rows.length ≤ 1000000) : F (psys x) 129 [fzW rows, iI (u : Nat)] H fun v G => v = fzW (msk (rows.drop 1) (1#64 <<< u)) ∧ G = H := by
 refine Zq Tryd.func129 rfl u24 rfl ?_
 refine Zd (Za ?_)
 refine Lo u24 (Zg (VVal.slice none 0 0 true 0) (.inr rfl) rfl) ?_
 refine Ze (Zc (Zd (Za ?_)))
 refine Lo u24 (Zg (VVal.slice none 0 0 true 0) (.inr rfl) rfl) ?_
 refine Ze (Zc (Zd (Zd (Za ?_))))
 refine Lo u24 (Zg (VVal.int .i64 1) (.inr rfl) rfl) ?_
 refine Ze (Zc (Zk ?_))
 refine Zt (mk 24 16777116) (env' := u24) rfl ?_
 refine Zz (fun (⟨i, lv⟩ : Nat × VVal) => rows.length - i) (fun (⟨i, lv⟩ : Nat × VVal) => [(5, lv), (6, iI (i : Nat))]) (fun (⟨i, lv⟩ : Nat × VVal) G => (1 ≤ i ∧ (i ≤ rows.length ∨ i = 1)) ∧ ∃ X, G = H ++ X ∧ LV H.length 1 X lv ((gvT rows (1#64 <<< u) i).map iW) (i - 1)) ⟨1, _⟩ rfl ?_ ?_
 ·refine ⟨?_, ⟨_, rfl, by rw [gvT_1]; exact LV.nil _ _ _⟩⟩
  exact ⟨Nat.le_refl _, .inr rfl⟩
 rintro ⟨i, lv⟩ _ ⟨⟨hi1, hi2⟩, ⟨X, rfl, hl⟩⟩
 refine ZQ (env' := u24) rfl ?_
 refine Zd (Zd (Za ?_))
 refine Lo u24 (Zb (.inl rfl) rfl) ?_
 refine Lo u24 (Zb (.inl rfl) rfl) ?_
 refine Lo u24 (rfl) ?_
 refine Lo u24 (rfl) ?_
 refine Ze (Zc ?_)
 refine Zl _ rfl (fun hc1 => ?_) (fun hc1 => ?_)
 ·try simp only [qB] at hc1
  refine Zj (Zc (Zd (Zk ?_)))
  refine ZV [0, 1, 2, 3, 4, 5, 6, 7, 8, 9, 10] #[0, 0, 0, 6, 14, 0, 32, 126, 254, 511, 1023] XH1 XH1 XH1 ?_
  refine Oo u24 .calm rfl (Zb (.inl rfl) rfl) ?_
  refine Oo u24 .calm rfl (Zb (.inl rfl) rfl) ?_
  refine Oo u24 .calm rfl (Zb (.inl rfl) rfl) ?_
  refine Oo u24 .calm rfl (W18 rfl rfl rfl rfl rfl rfl rfl) ?_
  refine Oo u24 .look rfl (W12 rfl rfl rfl rfl) ?_
  refine Oo u24 .calm rfl (Zb (.inl rfl) rfl) ?_
  refine Oo u24 .calm rfl (v_shl1 rfl rfl rfl XH5) ?_
  refine Oo u24 .calm rfl (v_andNotW rfl rfl rfl) ?_
  refine Oo u24 .grow rfl (Zx rfl rfl (by decide) rfl) ?_
  refine O_opX .turn rfl rfl rfl (v_appX rfl rfl rfl rfl rfl rfl rfl hl rfl rfl (by decide) (by show (i - 1 + 1) * 8 ≤ _ ∧ i - 1 + 1 ≤ _; omega) (by decide)) rfl rfl ?_
  rintro _ _ ⟨Y1, rfl, rfl, hY1, hY2, hY3⟩
  refine O_env (env' := u24) rfl ?_
  refine Oo u24 .calm rfl (Zb (.inr rfl) rfl) ?_
  refine ZS [] XH1 (trivial) ?_
  refine ZA (Zc (Za ?_))
  refine Lo u24 (Zb (.inl rfl) rfl) ?_
  refine Lo u24 (W14 rfl rfl rfl) ?_
  refine Lo u24 (Zb (.inr rfl) rfl) ?_
  refine Ze ?_
  refine Zw (mk 24 16777116) (env' := u24) rfl ⟨⟨i + 1, _⟩, ?_, rfl, ?_⟩
  ·first | omega | (simp only []; omega)
  ·exact ⟨⟨by omega, .inl (by omega)⟩, _, rfl, by rw [gvT_succ hi1 (by omega), show i + 1 - 1 = i - 1 + 1 by omega]; exact LV.appW hY3⟩
 ·try simp only [qB] at hc1
  refine ZF (ZD (Zu (ZE (Zc (Zd (Za ?_))))))
  refine Lo u24 (Zb (.inl rfl) rfl) ?_
  refine Lo u24 (Zb (.inr rfl) rfl) ?_
  refine Ze (Zc (Zi ?_))
  refine E_gh (.inr rfl) (Zh rfl rfl) (Gh.ansLV (BaseOk.refl _) hl (Y0 _ _)) ?_
  have hE := gvT_all (rows := rows) (t := 1#64 <<< u) (i := i) (by omega)
  have hlen : (gvT rows (1#64 <<< u) i).length = i - 1 := by unfold gvT; rw [Ym, List.length_drop, List.length_take]; omega
  refine ⟨?_, rfl⟩
  rw [← hE]
  show _ = VVal.fsl ((gvT rows (1#64 <<< u) i).map iW) (gvT rows (1#64 <<< u) i).length 1 false
  rw [hlen]
theorem refFull_12 {x : SW} (H : Zf) (rows : List (BitVec 64)) (h : rows.length ≤ 12) : F (psys x) 128 [fzW rows] H fun v G => v = .bool (Yf rows 0#64) ∧ G = H := by
  have := refFull_spec (x := x) H rows (by omega)
  rw [decide_eq_true h, Bool.true_and] at this; exact this
theorem getD_tail {l : List (BitVec 64)} (h : 0 < l.length) : ∃ w m, l = w :: m := by
  cases l with
  | nil => simp at h
  | cons w m => exact ⟨w, m, rfl⟩
theorem refLeast_spec {x : SW} (H : Zf) (rows : List (BitVec 64)) (h62 : rows.length ≤ 1000000) : F (psys x) 150 [fzW rows] H fun v G => v = leV rows ∧ G = H := by
 refine Zq Tryd.func150 rfl u36 rfl ?_
 refine Zd (Za ?_)
 refine Lo u36 (Zg (VVal.slice none 0 0 true 0) (.inr rfl) rfl) ?_
 refine Lo u36 (Zg (VVal.bool false) (.inr rfl) rfl) ?_
 refine Ze (Zc (Zd (Zd (Za ?_))))
 refine Lo u36 (Zb (.inl rfl) rfl) ?_
 refine Zr rfl rfl rfl (by exact refFull_spec _ rows h62) ?_
 rintro _ _ ⟨rfl, rfl⟩
 refine Le u36 ?_
 refine Lo u36 (rfl) ?_
 refine Ze (Zc ?_)
 refine Zl _ rfl (fun hc1 => ?_) (fun hc1 => ?_)
 ·try simp only [qB] at hc1
  refine Zd (Za ?_)
  refine Lo u36 (Zg (VVal.slice none 0 0 true 0) (.inr rfl) rfl) ?_
  refine Lo u36 (Zg (VVal.bool false) (.inr rfl) rfl) ?_
  refine Ze (Zc ?_)
  refine ZX (Gh.freezeNil 2 (es' := 1) rfl rfl) ?_
  refine Zi (Zm ?_)
  refine W8h (.inr rfl) (Z3 rfl rfl rfl) ?_
  exact W8i
 ·try simp only [qB] at hc1
  refine Zj (Zc (Zd (Za ?_)))
  refine Lo u36 (Zg (VVal.slice none 0 0 true 0) (.inr rfl) rfl) ?_
  refine Ze (Zc (Zd (Zk ?_)))
  refine Zt (mk 36 68719476718) (env' := u36) rfl ?_
  refine Zz (fun (⟨r, ds, lv⟩ : List (BitVec 64) × List Nat × VVal) => r.length) (fun (⟨r, ds, lv⟩ : List (BitVec 64) × List Nat × VVal) => [(0, fzW r), (4, lv)]) (fun (⟨r, ds, lv⟩ : List (BitVec 64) × List Nat × VVal) G => (Yf r 0#64 = true ∧ r.length ≤ 12 ∧ ds.length + r.length = rows.length ∧ lst rows 0#64 = ds ++ lst r 0#64) ∧ ∃ X, G = H ++ X ∧ LV H.length 1 X lv (ds.map jN) ds.length) ⟨rows, [], _⟩ rfl ?_ ?_
  ·refine ⟨?_, ⟨_, rfl, LV.nil _ _ _⟩⟩
   exact ⟨hc1.2, hc1.1, by simp, by simp⟩
  rintro ⟨r, ds, lv⟩ _ ⟨⟨hfr, hr12, hdl, hlst⟩, ⟨X, rfl, hl⟩⟩
  refine ZQ (env' := u36) rfl ?_
  refine Zd (Zd (Za ?_))
  refine Lo u36 (Zb (.inl rfl) rfl) ?_
  refine Lo u36 (rfl) ?_
  refine Lo u36 (rfl) ?_
  refine Ze (Zc ?_)
  refine Zl _ rfl (fun hc2 => ?_) (fun hc2 => ?_)
  ·try simp only [qB] at hc2
   refine Zj (Zc (Zk (Zd ?_)))
   obtain ⟨w, m, rfl⟩ := getD_tail (l := r) (by omega)
   obtain ⟨u0, hu0, hw0, hf0⟩ := first_ex hfr
   refine Za ?_
   refine Lo u36 (Zg (VVal.int .i64 0) (.inr rfl) rfl) ?_
   refine Ze (Zc (Zd (Zk ?_)))
   refine Zt (mk 36 68719476686) (env' := u36) rfl ?_
   refine Zz (fun (u : Nat) => 64 - u) (fun (u : Nat) => [(5, iI (u : Nat))]) (fun (u : Nat) G => (u ≤ u0 ∧ ∀ v, v < u → w.getLsbD v = true → Yf (msk m (1#64 <<< v)) 0#64 = false) ∧ G = H ++ X) 0 rfl ?_ ?_
   ·refine ⟨?_, rfl⟩
    exact ⟨Nat.zero_le _, fun v h => by omega⟩
   rintro u _ ⟨⟨hu, hno⟩, rfl⟩
   refine ZQ (env' := u36) rfl ?_
   refine Zd (Zd (Za ?_))
   refine Lo u36 (Zb (.inl rfl) rfl) ?_
   refine Lo u36 (W18 rfl rfl rfl rfl rfl rfl rfl) ?_
   refine Lo u36 (W8j rfl rfl rfl rfl) ?_
   refine Lo u36 (Zb (.inl rfl) rfl) ?_
   refine Lo u36 (v_shrW rfl rfl rfl XH5) ?_
   refine Lo u36 (v_andW (b := 1#64) rfl rfl rfl) ?_
   refine Lo u36 (rfl) ?_
   refine Lo u36 (Zb (.inl rfl) rfl) ?_
   refine ZH 19 (env1 := u36) (env2 := u36) rfl rfl rfl (fun hg3 => ?_) (fun hg3 => ?_)
   ·try simp only [qB] at hg3
    refine Lf u36 ?_
    refine Lf u36 ?_
    refine Lf u36 ?_
    refine Lf u36 ?_
    refine Lf u36 ?_
    refine Lo u36 (ZL (VVal.bool true) rfl rfl rfl) ?_
    refine Ze (Zc ?_)
    refine ZO rfl rfl ?_
    refine Zj (Zc (Zk (Za ?_)))
    refine Lo u36 (Zb (.inl rfl) rfl) ?_
    refine Lo u36 (W14 rfl rfl rfl) ?_
    refine Lo u36 (Zb (.inr rfl) rfl) ?_
    refine Ze (ZA ?_)
    refine Zw (mk 36 68719476686) (env' := u36) rfl ⟨u + 1, ?_, rfl, ?_⟩
    ·first | omega | (simp only []; omega)
    ·first | exact ⟨⟨Nat.lt_of_le_of_ne hu (fun e => by subst e; rw [sh0.1 (by assumption)] at hw0; cases hw0), fun v hv hb => by by_cases e : v = u; (subst e; rw [sh0.1 (by assumption)] at hb; cases hb); exact hno v (by omega) hb⟩, rfl⟩ | exact ⟨⟨Nat.lt_of_le_of_ne hu (fun e => by subst e; exact absurd hf0 (not_of_f (by assumption))), fun v hv hb => by by_cases e : v = u; (subst e; assumption); exact hno v (by omega) hb⟩, rfl⟩
   ·try simp only [qB] at hg3
    refine Lo u36 (Zb (.inl rfl) rfl) ?_
    refine Lo u36 (Zb (.inl rfl) rfl) ?_
    refine Zr rfl rfl rfl (by exact given_spec _ (w :: m) u (Nat.le_trans (show (w :: m).length ≤ 12 from hr12) (by decide))) ?_
    rintro _ _ ⟨rfl, rfl⟩
    refine Le u36 ?_
    refine Zr rfl rfl rfl (by exact refFull_12 _ (msk m (1#64 <<< u)) (by rw [Ym]; simp only [List.length_cons] at hr12; omega)) ?_
    rintro _ _ ⟨rfl, rfl⟩
    refine Le u36 ?_
    refine Lo u36 (rfl) ?_
    refine Lo u36 (ZU rfl rfl rfl) ?_
    refine Ze (Zc ?_)
    refine Zl _ rfl (fun hc4 => ?_) (fun hc4 => ?_)
    ·try simp only [qB] at hc4
     refine Zj (Zc (Zk (Za ?_)))
     refine Lo u36 (Zb (.inl rfl) rfl) ?_
     refine Lo u36 (W14 rfl rfl rfl) ?_
     refine Lo u36 (Zb (.inr rfl) rfl) ?_
     refine Ze (ZA ?_)
     refine Zw (mk 36 68719476686) (env' := u36) rfl ⟨u + 1, ?_, rfl, ?_⟩
     ·first | omega | (simp only []; omega)
     ·first | exact ⟨⟨Nat.lt_of_le_of_ne hu (fun e => by subst e; rw [sh0.1 (by assumption)] at hw0; cases hw0), fun v hv hb => by by_cases e : v = u; (subst e; rw [sh0.1 (by assumption)] at hb; cases hb); exact hno v (by omega) hb⟩, rfl⟩ | exact ⟨⟨Nat.lt_of_le_of_ne hu (fun e => by subst e; exact absurd hf0 (not_of_f (by assumption))), fun v hv hb => by by_cases e : v = u; (subst e; assumption); exact hno v (by omega) hb⟩, rfl⟩
    ·try simp only [qB] at hc4
     refine ZF (ZD (Zu (ZE (Zc (Zd ?_)))))
     have hbit : w.getLsbD u = true := sh_not0 (by assumption)
     have hfu : Yf (msk m (1#64 <<< u)) 0#64 = true := by assumption
     simp only [List.length_cons] at hr12 hdl
     refine Za ?_
     refine Lo u36 (Zb (.inl rfl) rfl) ?_
     refine Lo u36 (Zb (.inl rfl) rfl) ?_
     refine Lo u36 (Zx rfl rfl (by decide) rfl) ?_
     refine YB rfl rfl (v_appX rfl rfl rfl rfl rfl rfl rfl hl rfl rfl (by decide) (by show (ds.length + 1) * 8 ≤ _ ∧ ds.length + 1 ≤ _; omega) (by decide)) ?_
     rintro _ _ ⟨Y1, rfl, rfl, hY1, hY2, hY3⟩
     refine Le u36 ?_
     refine Lo u36 (Zb (.inr rfl) rfl) ?_
     refine Ze (Zc (Za ?_))
     refine Lo u36 (Zb (.inl rfl) rfl) ?_
     refine Lo u36 (Zb (.inl rfl) rfl) ?_
     refine Zr rfl rfl rfl (by exact given_spec _ (w :: m) u (Nat.le_trans (show (w :: m).length ≤ 12 from hr12) (by decide))) ?_
     rintro _ _ ⟨rfl, rfl⟩
     refine Le u36 ?_
     refine Lo u36 (Zb (.inr rfl) rfl) ?_
     refine Ze (ZA ?_)
     refine Zw (mk 36 68719476718) (env' := u36) rfl ⟨⟨msk m (1#64 <<< u), ds ++ [u], _⟩, ?_, rfl, ?_⟩
     ·show (msk m (1#64 <<< u)).length < (w :: m).length; rw [Ym]; simp
     ·exact ⟨⟨hfu, by rw [Ym]; omega, by rw [List.length_append, Ym]; show ds.length + 1 + m.length = _; omega, hlst.trans ((congrArg (ds ++ ·) (lst_first (by omega) hbit hfu hno)).trans (by simp))⟩, _, rfl, by rw [List.length_append]; exact LV.appN hY3⟩
  ·try simp only [qB] at hc2
   refine ZF (ZD (Zu (ZE (Zc (Zd (Za ?_))))))
   refine Lo u36 (Zb (.inl rfl) rfl) ?_
   refine Lo u36 (Zb (.inr rfl) rfl) ?_
   refine Lo u36 (Zg (VVal.bool true) (.inr rfl) rfl) ?_
   refine Ze (Zc ?_)
   refine B_ghLV (env' := u36) 2 hl rfl rfl fun X2 _ _ => ?_
   refine Zi ?_
   refine W8h (.inr rfl) (Z3 rfl rfl rfl) ?_
   exact W8i
theorem W8k {T : TypeId → Option VTy} {H : Zf} {op : Op} {ρ : Operand → VVal} {t : TypeId} {a : Operand} {y : VTy} {p : VVal} {n : Nat} {vs : List VVal} (ho : op = .load t a) (ha : ρ a = p) (hy : T t = some y) (hd : Zn y.desc = true) (hn : y.size = n) (h : LdOkA H p n vs := by exact XH44) : vop T ρ H op = some (.agg vs, H) := v_ldA ho ha hy hd hn h
theorem W8l {S : V.Sys} {H : Zf} {fn : Func} {ex : Exit} {env : VEnv} {B L : Zf} {v : VVal} {R : VVal → Zf → Prop} (hx : ex = .normal ∨ ex = .ret) (hv : ZP S.C.T env (B ++ L) fn.results = some v) (h : R v B) (hB : BaseOk H B := by exact XH38) (hu : v.under H.length = true := by first | rfl | exact (show ((fzN (plN a l)).under H.length && (true && true)) = true by rw [show (fzN (plN a l)).under H.length = true from Yt _ _]; rfl)) : fnK S fn H R ex env (B ++ L) := YQ hx hv hB hu h
theorem W8m {P : Prop} (h : P := by first | exact ⟨by rw [srF_0 hey, h7]; show _ = VVal.tuple [fzN (plN a l), .bool true]; rw [fzN_pl]; rfl, rfl⟩ | exact ⟨by rw [srF_0 hey, h6 (by assumption)]; rfl, rfl⟩ | exact ⟨by rw [srF_e (by rw [YD]; assumption)]; rfl, rfl⟩) : P := h
theorem W8p {T : TypeId → Option VTy} {H : Zf} {op : Op} {ρ : VEnv} {H' : Zf} {t : TypeId} {a : Operand} {i : Nat} {v : VVal} {y : VTy} {b off : Nat} {cs new : List VVal} (ho : op = .store t a (.tmp i)) (hv : ρ[i]? = some v) (ha : ρ.eval a = .ptr (some (b, off))) (hy : T t = some y) (hx : v.cells = some new) (hn : new.length = y.size) (h1 : new.all VVal.one = true) (hb : H[b]? = some (.cells cs true) := by exact XH34) (hl : off + new.length ≤ cs.length := by show 0 + k * 1 + 1 ≤ _; rw [List.length_map, plK_len (by omega)]; omega) (hH : H.set b (.cells (ZJ cs off new) true) = H' := by exact (ZZ rfl).trans (by show _ ++ [VBlk.dead, VBlk.cells (ZJ (rcN (plK a l k)) (0 + k * 1) [iI ((l.getD (a.getD k 0) 0 : Nat) : Int)]) true] = _; rw [spl_N (by rw [plK_len (by omega)]; omega)])) : vop T ρ.eval H op = some (.skip, H') := Z7 ho hv ha hy hx hn h1 hb hl hH
theorem W8r {S : V.Sys} {H : Zf} {fn : Func} {ex : Exit} {env : VEnv} {B L : Zf} {v : VVal} {R : VVal → Zf → Prop} (hx : ex = .normal ∨ ex = .ret) (hv : ZP S.C.T env (B ++ L) fn.results = some v) (h : R v B) (hB : BaseOk H B := by exact XH38) (hu : v.under H.length = true := by first | rfl | exact (show ((fzN l).under H.length && (true && true)) = true by rw [show (fzN l).under H.length = true from Yt _ _]; rfl)) : fnK S fn H R ex env (B ++ L) := YQ hx hv hB hu h
theorem W8s {P : Prop} (h : P := by first | exact ⟨by rw [srF_R hey, hsr, srR_yes (by omega) (h5 rfl)]; rfl, rfl⟩ | exact ⟨by rw [srF_R hey, hsr, srR_end (by omega)]; rfl, rfl⟩ | exact ⟨by rw [srF_e (by rw [YD]; assumption)]; rfl, rfl⟩) : P := h
theorem W8t {T : TypeId → Option VTy} {H : Zf} {op : Op} {ρ : Operand → VVal} {t : TypeId} {a : Operand} {y : VTy} {p : VVal} {n : Nat} {vs : List VVal} (ho : op = .load t a) (ha : ρ a = p) (hy : T t = some y) (hd : Zn y.desc = true) (hn : y.size = n) (h : LdOkA H p n vs := by first | exact .inl ⟨_, _, rfl, by rfl⟩ | exact .inr ⟨_, _, _, _, rfl, XH34, by rfl⟩) : vop T ρ H op = some (.agg vs, H) := v_ldA ho ha hy hd hn h
theorem W8u {P : Prop} (h : P := by first | exact ⟨he.symm, rfl⟩ | exact ⟨by rw [show leA p = none from if_neg (by assumption)]; rfl, rfl⟩) : P := h
theorem search_in {x : SW} {H Z : Zf} {pv : VVal} {a : List Nat} {b i n c : Nat} {o : Option (List Nat)} (hZ : Z[i]? = some (.cells (rcN (a ++ [b])) true)) (h : F (psys x) 136 [pv, fzN (a ++ [b])] (H ++ Z.set i .dead) fun v G => v = leT o ∧ G = H ++ Z.set i .dead) (hn : n = a.length + 1) (hc : c = n) : F (psys x) 136 [pv, .slice (some (H.length + i, 0)) n c false 1] (H ++ Z) fun v G => v = leT o ∧ G = H ++ Z.set i .dead := by
  subst hc; subst hn
  exact F.pre (Gh.freezeL (H := H) (l := rcN (a ++ [b])) (vs' := [pv, fzN (a ++ [b])]) 1 i rfl hZ (Yd (by simp)) (Nat.le_refl _) (by simp)) h
theorem leV_o {ws : List (BitVec 64)} {a : List Nat} (h : (Ya ws a a.length).length ≤ 12) : ∃ l ok, leV (Ya ws a a.length) = .tuple [fzN l, .bool ok] ∧ (ok = true → plO ws a = some (plN a l) ∧ l.length = (Ya ws a a.length).length) ∧ (ok = false → plO ws a = none) := by
  unfold leV plO
  by_cases hf : Yf (Ya ws a a.length) 0#64 = true
  · rw [if_pos ⟨h, hf⟩, if_pos hf]
    refine ⟨_, true, rfl, fun _ => ⟨rfl, ?_⟩, fun e => (by cases e)⟩
    have := (lst_ok (fullB_iff.1 hf)).len
    rwa [Ym] at this
  · rw [if_neg (fun e => hf e.2), if_neg hf]
    exact ⟨[], false, rfl, fun e => (by cases e), fun _ => rfl⟩
theorem search_0 {x : SW} (p : Pb) (hp : PbL p) (g : Go.V.Good p) (H : Zf) (a : List Nat) (ha : Pat a) (hl : a.length = p.who.length) : F (psys x) 136 [.agg (pbB p), fzN a] H fun v G => v = leT (srF (wsP p) p.rules 0 a) ∧ G = H := by
 have h1 := hp.w
 have g1 := g.n12
 have hz := @szP_le a a.length
 have hbl := @Yz (wsP p) a a.length
 refine Zq Tryd.func136 rfl u73 rfl ?_
 refine Zd (Za ?_)
 refine Lo u73 (Zs rfl rfl rfl) ?_
 refine Lo u73 (Zg (VVal.slice none 0 0 true 0) (.inr rfl) rfl) ?_
 refine Lo u73 (Zg (VVal.bool false) (.inr rfl) rfl) ?_
 refine Ze (Zc (Zd (Zd ?_)))
 refine ZX (Gh.freezePtrL (cs := pbB p) 2 0 rfl rfl rfl) ?_
 refine Za ?_
 refine Lo u73 (W8k rfl rfl rfl rfl rfl) ?_
 refine Lo u73 (Zb (.inl rfl) rfl) ?_
 refine Zr rfl rfl rfl (by exact early_spec _ p hp a) ?_
 rintro _ _ ⟨rfl, rfl⟩
 refine Le u73 ?_
 refine Lo u73 (rfl) ?_
 refine Ze (Zc ?_)
 refine Zl _ rfl (fun hc1 => ?_) (fun hc1 => ?_)
 ·try simp only [qB, qN] at hc1
  refine Zd (Za ?_)
  refine Lo u73 (Zg (VVal.slice none 0 0 true 0) (.inr rfl) rfl) ?_
  refine Lo u73 (Zg (VVal.bool false) (.inr rfl) rfl) ?_
  refine Ze (Zc ?_)
  refine ZX (Gh.freezeNil 4 (es' := 1) rfl rfl) ?_
  refine Zi (Zm ?_)
  refine W8l (.inr rfl) (Z3 rfl rfl rfl) ?_
  exact W8m
 ·try simp only [qB, qN] at hc1
  refine Zj (Zc (Zd (Zd ?_)))
  have hey : erlA (wsP p).length p.rules a = true := by rw [YD]; assumption
  refine Za ?_
  refine Lo u73 (Zb (.inl rfl) rfl) ?_
  refine Lo u73 (rfl) ?_
  refine Lo u73 (rfl) ?_
  refine Lo u73 (W4x rfl rfl rfl rfl) ?_
  refine Lo u73 (rfl) ?_
  refine Lo u73 (v_is true rfl (by rw [hl]; simp)) ?_
  refine Ze (Zc ?_)
  refine ZO rfl rfl ?_
  refine Zd (Za ?_)
  refine Lo u73 (W8k rfl rfl rfl rfl rfl) ?_
  refine Lo u73 (Zb (.inl rfl) rfl) ?_
  refine Zr rfl rfl rfl (by exact Rows_spec _ p g a ha (by omega)) ?_
  rintro _ _ ⟨rfl, rfl⟩
  refine Le u73 ?_
  refine Zr rfl rfl rfl (by exact refLeast_spec _ (Ya (wsP p) a a.length) (by omega)) ?_
  rintro v _ ⟨hv, rfl⟩; obtain ⟨l, ok, he, h5, h6⟩ := leV_o (ws := wsP p) (a := a) (by omega); rw [he] at hv; subst hv
  refine Le u73 ?_
  refine Lo u73 (Zb (.inl rfl) rfl) ?_
  refine Lo u73 (rfl) ?_
  refine Lo u73 (rfl) ?_
  refine Lo u73 (Zb (.inr rfl) rfl) ?_
  refine Lo u73 (Zb (.inr rfl) rfl) ?_
  refine Ze (Zc (Zd (Zd (Za ?_))))
  refine Lo u73 (Zb (.inl rfl) rfl) ?_
  refine Lo u73 (rfl) ?_
  refine Ze (Zc ?_)
  refine Zl _ rfl (fun hc2 => ?_) (fun hc2 => ?_)
  ·try simp only [qB, qN] at hc2
   refine Zd (Za ?_)
   refine Lo u73 (Zg (VVal.slice none 0 0 true 0) (.inr rfl) rfl) ?_
   refine Lo u73 (Zg (VVal.bool false) (.inr rfl) rfl) ?_
   refine Ze (Zc ?_)
   refine ZX (Gh.freezeNil 4 (es' := 1) rfl rfl) ?_
   refine Zi (Zm (Zm ?_))
   refine W8l (.inr rfl) (Z3 rfl rfl rfl) ?_
   exact W8m
  ·try simp only [qB, qN] at hc2
   refine Zj (Zc (Zd ?_))
   have hok : ok = true := by assumption
   obtain ⟨h7, h8⟩ := h5 hok
   refine Za ?_
   refine Lo u73 (Zb (.inl rfl) rfl) ?_
   refine Lo u73 (rfl) ?_
   refine Lo u73 (v_makeSlice rfl rfl rfl rfl rfl (by decide) ⟨by omega, Int.le_refl _, by show (a.length : Int) * (8 : Nat) ≤ _; omega, by omega⟩) ?_
   refine Lo u73 (Zb (.inr rfl) rfl) ?_
   refine Ze (Zc (Zd (Zd (Za ?_))))
   refine Lo u73 (Zg (VVal.int .i64 0) (.inr rfl) rfl) ?_
   refine Ze (Zc (Zk ?_))
   refine Zt (mk 73 9444732965739290426557) (env' := u73) rfl ?_
   refine Zz (fun (k : Nat) => a.length - k) (fun (k : Nat) => [(9, iI (k : Nat))]) (fun (k : Nat) G => (k ≤ a.length) ∧ G = H ++ [.dead, .cells (rcN (plK a l k)) true]) 0 rfl ?_ ?_
   ·refine ⟨?_, (by rw [show plK a l 0 = List.replicate a.length 0 from rfl, ← rep_rc]; rfl)⟩
    exact Nat.zero_le _
   rintro k _ ⟨hk9, rfl⟩
   refine ZQ (env' := u73) rfl ?_
   refine Zd (Zd (Za ?_))
   refine Lo u73 (Zb (.inl rfl) rfl) ?_
   refine Lo u73 (Zb (.inl rfl) rfl) ?_
   refine Lo u73 (rfl) ?_
   refine Lo u73 (rfl) ?_
   refine Ze (Zc ?_)
   refine Zl _ rfl (fun hc3 => ?_) (fun hc3 => ?_)
   ·try simp only [qB, qN] at hc3
    refine Zj (Zc (Zd (Zk ?_)))
    have hlt := Pat.lt ha (Nat.le_refl a.length) (i := k) (by omega)
    refine Za ?_
    refine Lo u73 (Zb (.inl rfl) rfl) ?_
    refine Lo u73 (Zb (.inl rfl) rfl) ?_
    refine Lo u73 (Zb (.inl rfl) rfl) ?_
    refine Lo u73 (Zb (.inl rfl) rfl) ?_
    refine Lo u73 (Zb (.inl rfl) rfl) ?_
    refine Lo u73 (W18 rfl rfl rfl rfl rfl rfl rfl) ?_
    refine Lo u73 (W4x rfl rfl rfl rfl) ?_
    refine Lo u73 (W18 rfl rfl rfl rfl rfl rfl rfl) ?_
    refine Lo u73 (W4x rfl rfl rfl rfl) ?_
    refine Lo u73 (W18 rfl rfl rfl rfl rfl rfl rfl) ?_
    refine Lo u73 (W8p rfl rfl rfl rfl rfl rfl rfl) ?_
    refine Ze (ZA (Zc (Za ?_)))
    refine Lo u73 (Zb (.inl rfl) rfl) ?_
    refine Lo u73 (W14 rfl rfl rfl) ?_
    refine Lo u73 (Zb (.inr rfl) rfl) ?_
    refine Ze ?_
    refine Zw (mk 73 9444732965739290426557) (env' := u73) rfl ⟨k + 1, ?_, rfl, ?_⟩
    ·first | omega | (simp only []; omega)
    ·exact ⟨by omega, by rw [plK_step (by omega)]⟩
   ·try simp only [qB, qN] at hc3
    refine ZF (ZD (Zu (ZE (Zc (Zd (Za ?_))))))
    refine Lo u73 (Zb (.inl rfl) rfl) ?_
    refine Lo u73 (Zb (.inr rfl) rfl) ?_
    refine Lo u73 (Zg (VVal.bool true) (.inr rfl) rfl) ?_
    refine Ze (Zc ?_)
    obtain rfl : k = a.length := by omega
    rw [plK_all]
    refine ZX (Gh.freezeL (l := rcN (plN a l)) 4 1 rfl rfl (Yd (by rw [List.length_map, plN_len]; rfl)) (Nat.le_refl _) rfl) ?_
    refine Zi (Zm ?_)
    refine W8l (.inr rfl) (Z3 rfl rfl rfl) ?_
    exact W8m
theorem search_s {x : SW} (p : Pb) (hp : PbL p) (g : Go.V.Good p) (M : Nat) (ih : ∀ (H : Zf) (a : List Nat), Pat a → a.length + M = p.who.length → F (psys x) 136 [.agg (pbB p), fzN a] H (fun v G => v = leT (srF (wsP p) p.rules M a) ∧ G = H)) (H : Zf) (a : List Nat) (ha : Pat a) (hl : a.length + (M + 1) = p.who.length) : F (psys x) 136 [.agg (pbB p), fzN a] H fun v G => v = leT (srF (wsP p) p.rules (M + 1) a) ∧ G = H := by
 have h1 := hp.w
 have g1 := g.n12
 have hz := @szP_le a a.length
 have hbl := @Yz (wsP p) a a.length
 refine Zq Tryd.func136 rfl u73 rfl ?_
 refine Zd (Za ?_)
 refine Lo u73 (Zs rfl rfl rfl) ?_
 refine Lo u73 (Zg (VVal.slice none 0 0 true 0) (.inr rfl) rfl) ?_
 refine Lo u73 (Zg (VVal.bool false) (.inr rfl) rfl) ?_
 refine Ze (Zc (Zd (Zd ?_)))
 refine ZX (Gh.freezePtrL (cs := pbB p) 2 0 rfl rfl rfl) ?_
 refine Za ?_
 refine Lo u73 (W8k rfl rfl rfl rfl rfl) ?_
 refine Lo u73 (Zb (.inl rfl) rfl) ?_
 refine Zr rfl rfl rfl (by exact early_spec _ p hp a) ?_
 rintro _ _ ⟨rfl, rfl⟩
 refine Le u73 ?_
 refine Lo u73 (rfl) ?_
 refine Ze (Zc ?_)
 refine Zl _ rfl (fun hc1 => ?_) (fun hc1 => ?_)
 ·try simp only [qB, qN] at hc1
  refine Zd (Za ?_)
  refine Lo u73 (Zg (VVal.slice none 0 0 true 0) (.inr rfl) rfl) ?_
  refine Lo u73 (Zg (VVal.bool false) (.inr rfl) rfl) ?_
  refine Ze (Zc ?_)
  refine ZX (Gh.freezeNil 4 (es' := 1) rfl rfl) ?_
  refine Zi (Zm ?_)
  refine W8r (.inr rfl) (Z3 rfl rfl rfl) ?_
  exact W8s
 ·try simp only [qB, qN] at hc1
  refine Zj (Zc (Zd (Zd ?_)))
  have hey : erlA (wsP p).length p.rules a = true := by rw [YD]; assumption
  refine Za ?_
  refine Lo u73 (Zb (.inl rfl) rfl) ?_
  refine Lo u73 (rfl) ?_
  refine Lo u73 (rfl) ?_
  refine Lo u73 (W4x rfl rfl rfl rfl) ?_
  refine Lo u73 (rfl) ?_
  refine Lo u73 (v_is false rfl (by simp; omega)) ?_
  refine Ze (Zc ?_)
  refine ZY rfl rfl ?_
  refine Zj (Zc (Zd (Zd (Za ?_))))
  refine Lo u73 (Zg (VVal.int .i64 0) (.inr rfl) rfl) ?_
  refine Ze (Zc (Zk ?_))
  refine Zt (mk 73 9444732965739290426361) (env' := u73) rfl ?_
  refine Zz (fun (b : Nat) => szP a a.length + 1 - b) (fun (b : Nat) => [(10, iI (b : Nat))]) (fun (b : Nat) G => (b ≤ szP a a.length + 1 ∧ srR (wsP p) p.rules M a 0 = srR (wsP p) p.rules M a b) ∧ ∃ X, G = H ++ X) 0 rfl ?_ ?_
  ·refine ⟨?_, ⟨_, rfl⟩⟩
   exact ⟨Nat.zero_le _, rfl⟩
  rintro b _ ⟨⟨hb, hsr⟩, ⟨X, rfl⟩⟩
  refine ZQ (env' := u73) rfl ?_
  refine Zd (Zd (Za ?_))
  refine Lo u73 (Zb (.inl rfl) rfl) ?_
  refine Lo u73 (Zb (.inl rfl) rfl) ?_
  refine Zr rfl rfl rfl (by exact Size_spec _ a ha (by omega)) ?_
  rintro _ _ ⟨rfl, rfl⟩
  refine Le u73 ?_
  refine Lo u73 (rfl) ?_
  refine Ze (Zc ?_)
  refine Zl _ rfl (fun hc2 => ?_) (fun hc2 => ?_)
  ·try simp only [qB, qN] at hc2
   refine Zj (Zc (Zd (Zk (Zd (Za ?_)))))
   refine Lo u73 (Zg (VVal.slice none 0 0 true 0) (.inr rfl) rfl) ?_
   refine Ze (Zc (Zd (Za ?_)))
   refine Lo u73 (Zb (.inl rfl) rfl) ?_
   refine Lo u73 (Zb (.inl rfl) rfl) ?_
   refine YB rfl rfl (v_cpN rfl rfl rfl rfl rfl rfl rfl rfl (by show a.length * 8 ≤ _ ∧ _; omega)) ?_
   rintro w _ ⟨Z, rfl, hcp⟩
   refine Le u73 ?_
   refine Lo u73 (Zb (.inr rfl) rfl) ?_
   refine Ze (Zc (Zd ?_))
   refine B_drawP #[0, 0, 0, 4, 14, 31, 63, 127, 127, 255, 1023] XH1 ?_
   refine P_seg [0, 1, 2, 3, 4] (bef := #[0, 0, 0, 4, 14, 31, 63, 127, 127, 255, 1023]) XH1 XH1 XH1 ?_
   refine Yb (env' := u73) (x := .look _ _) rfl rfl rfl (W8k rfl rfl rfl rfl rfl) rfl rfl rfl ?_
   refine Oo u73 .calm rfl (Zb (.inl rfl) rfl) ?_
   refine Oo u73 .calm rfl (Zb (.inl rfl) rfl) ?_
   refine Oo u73 .grow rfl (Zx rfl rfl (by decide) rfl) ?_
   refine O_opXI (fun _ G => .turn _ G) rfl rfl rfl (v_cpApp rfl rfl rfl rfl rfl rfl rfl rfl hcp (by show (a.length + 1) * 8 ≤ _ ∧ _; omega)) (fun _ _ => rfl) ?_
   rintro _ _ ⟨Z2, i, rfl, rfl, hZ2⟩
   refine O_env (env' := u73) rfl ?_
   refine ZS [_] (by rfl) (And.intro (And.intro (W8k rfl rfl rfl rfl rfl) (W8k rfl rfl rfl rfl rfl)) trivial) ?_
   refine P_call 5 (bef := #[0, 0, 0, 4, 14, 31, 63, 127, 127, 255, 1023]) XH1 XH1 rfl rfl rfl rfl (by exact search_in hZ2 (ih _ (a ++ [b]) (Pat_snoc ha (by omega)) (by simp; omega)) rfl rfl) ?_
   rintro v _ ⟨hv, rfl⟩; obtain ⟨l, ok, he, h5, h6⟩ := leT_eq (srF (wsP p) p.rules M (a ++ [b])); rw [he] at hv; subst hv
   refine P_env (env' := u73) rfl ?_
   refine P_seg [6, 7, 8, 9, 10] (bef := #[0, 0, 0, 4, 14, 31, 63, 127, 127, 255, 1023]) XH1 XH1 XH1 ?_
   refine Oo u73 .calm rfl (Zb (.inl rfl) rfl) ?_
   refine Oo u73 .calm rfl (rfl) ?_
   refine Oo u73 .calm rfl (rfl) ?_
   refine Oo u73 .calm rfl (Zb (.inr rfl) rfl) ?_
   refine Oo u73 .calm rfl (Zb (.inr rfl) rfl) ?_
   refine ZS [] XH1 (trivial) ?_
   refine P_end XH1 ?_
   refine Zc (Zd (Za ?_))
   refine Lo u73 (Zb (.inl rfl) rfl) ?_
   refine Ze (Zc ?_)
   refine Zl _ rfl (fun hc3 => ?_) (fun hc3 => ?_)
   ·try simp only [qB, qN] at hc3
    have hok : ok = true := by assumption
    subst hok
    refine Zd (Za ?_)
    refine Lo u73 (Zb (.inl rfl) rfl) ?_
    refine Lo u73 (Zb (.inr rfl) rfl) ?_
    refine Lo u73 (Zg (VVal.bool true) (.inr rfl) rfl) ?_
    refine Ze (Zc (Zi (ZB (Zm (Z5 (ZB (Zm ?_)))))))
    refine W8r (.inr rfl) (Z3 rfl rfl rfl) ?_
    exact W8s
   ·try simp only [qB, qN] at hc3
    have hok : ok = false := by assumption
    subst hok
    refine Zj (ZA (Zc (Za ?_)))
    refine Lo u73 (Zb (.inl rfl) rfl) ?_
    refine Lo u73 (W14 rfl rfl rfl) ?_
    refine Lo u73 (Zb (.inr rfl) rfl) ?_
    refine Ze ?_
    refine Zw (mk 73 9444732965739290426361) (env' := u73) rfl ⟨b + 1, ?_, rfl, ?_⟩
    ·first | omega | (simp only []; omega)
    ·exact ⟨⟨by omega, hsr.trans (srR_no (by omega) (h6 rfl).2)⟩, _, rfl⟩
  ·try simp only [qB, qN] at hc2
   refine ZF (ZD (Zu (ZE (Zc (Zd (Za ?_))))))
   refine Lo u73 (Zg (VVal.slice none 0 0 true 0) (.inr rfl) rfl) ?_
   refine Lo u73 (Zg (VVal.bool false) (.inr rfl) rfl) ?_
   refine Ze (Zc ?_)
   refine ZX (Gh.freezeNil 4 (es' := 1) rfl rfl) ?_
   refine Zi ?_
   refine W8r (.inr rfl) (Z3 rfl rfl rfl) ?_
   exact W8s
theorem search_spec {x : SW} (p : Pb) (hp : PbL p) (g : Go.V.Good p) : ∀ (M : Nat) (H : Zf) (a : List Nat), Pat a → a.length + M = p.who.length → F (psys x) 136 [.agg (pbB p), fzN a] H (fun v G => v = leT (srF (wsP p) p.rules M a) ∧ G = H)
  | 0, H, a, ha, hl => search_0 p hp g H a ha hl
  | M + 1, H, a, ha, hl => search_s p hp g M (fun H a b c => search_spec p hp g M H a b c) H a ha hl
theorem search_top {x : SW} (p : Pb) (hp : PbL p) (g : Go.V.Good p) (H : Zf) : F (psys x) 136 [.agg (pbB p), niS] H (fun v G => ∃ l ok, v = .tuple [fzN l, .bool ok] ∧ leT (leA p) = .tuple [fzN l, .bool ok] ∧ G = H) := by
  refine F.pre (Gh.freezeNil (vs' := [.agg (pbB p), fzN []]) 1 rfl rfl) ?_
  refine (search_spec p hp g p.who.length H [] Pat_nil (Nat.zero_add _)).mono ?_
  rintro v G ⟨rfl, rfl⟩
  have h1 := srF_fd (u := p.users.toNat) (ws := wsP p) (rs := p.rules) fun r hr => by rw [YD]; exact g.ru r hr
  have h2 : leA p = srF (wsP p) p.rules p.who.length [] := by
    unfold leA
    rw [if_pos (pck_good.2 g)]
    unfold Yq
    rw [← YD, h1]
  rw [← h2]
  obtain ⟨l, ok, he, _, _⟩ := leT_eq (leA p)
  exact ⟨l, ok, he, he, rfl⟩
theorem fLeast_spec {x : SW} (H : Zf) (p : Pb) (hp : PbL p) : F (psys x) 107 [.agg (pbB p)] H fun v G => v = leT (leA p) ∧ G = H := by
 refine Zq Tryd.func107 rfl u11 rfl ?_
 refine Zd (Za ?_)
 refine Lo u11 (Zs rfl rfl rfl) ?_
 refine Lo u11 (Zg (VVal.slice none 0 0 true 0) (.inr rfl) rfl) ?_
 refine Lo u11 (Zg (VVal.bool false) (.inr rfl) rfl) ?_
 refine Ze (Zc (Zd (Zd ?_)))
 refine ZX (Gh.freezePtrL (cs := pbB p) 1 0 rfl rfl rfl) ?_
 refine Za ?_
 refine Lo u11 (W8t rfl rfl rfl rfl rfl) ?_
 refine Zr rfl rfl rfl (by exact YO _ _ hp) ?_
 rintro _ _ ⟨rfl, rfl⟩
 refine Le u11 ?_
 refine Lo u11 (rfl) ?_
 refine Ze (Zc ?_)
 refine Zl _ rfl (fun hc1 => ?_) (fun hc1 => ?_)
 ·try simp only [qB] at hc1
  refine Zd (Za ?_)
  refine Lo u11 (Zg (VVal.slice none 0 0 true 0) (.inr rfl) rfl) ?_
  refine Lo u11 (Zg (VVal.bool false) (.inr rfl) rfl) ?_
  refine Ze (Zc ?_)
  refine ZX (Gh.freezeNil 2 (es' := 1) rfl rfl) ?_
  refine Zi (Zm ?_)
  refine W8r (.inr rfl) (Z3 rfl rfl rfl) ?_
  exact W8u
 ·try simp only [qB] at hc1
  refine Zj (Zc (Zd ?_))
  have g : Go.V.Good p := pck_good.1 (by assumption)
  refine Za ?_
  refine Lo u11 (W8t rfl rfl rfl rfl rfl) ?_
  refine Zr rfl rfl rfl (by exact search_top p hp g _) ?_
  rintro _ _ ⟨l, ok, rfl, he, rfl⟩
  refine Le u11 ?_
  refine Lo u11 (rfl) ?_
  refine Lo u11 (rfl) ?_
  refine Lo u11 (Zb (.inr rfl) rfl) ?_
  refine Lo u11 (Zb (.inr rfl) rfl) ?_
  refine Ze (Zc (Zi ?_))
  refine W8r (.inr rfl) (Z3 rfl rfl rfl) ?_
  exact W8u
theorem fCan_spec {x : SW} (H : Zf) (p : Pb) (hp : PbL p) : F (psys x) 65 [.agg (pbB p)] H fun v G => v = .bool (leA p).isSome ∧ G = H := by
 refine Zq Tryd.func65 rfl u11 rfl ?_
 refine Zd (Za ?_)
 refine Lo u11 (Zs rfl rfl rfl) ?_
 refine Lo u11 (Zg (VVal.bool false) (.inr rfl) rfl) ?_
 refine Ze (Zc (Zd (Za ?_)))
 refine Lo u11 (W11 rfl rfl rfl rfl rfl) ?_
 refine Zr rfl rfl rfl (by exact fLeast_spec _ p hp) ?_
 rintro v _ ⟨hv, rfl⟩; obtain ⟨l, ok, he, h1, h2⟩ := leT_eq (leA p); have hok := leT_ok he; rw [he] at hv; subst hv; subst hok
 refine Le u11 ?_
 refine Lo u11 (Zb (.inl rfl) rfl) ?_
 refine Lo u11 (rfl) ?_
 refine Lo u11 (rfl) ?_
 refine Lo u11 (Zb (.inr rfl) rfl) ?_
 refine Lo u11 (Zb (.inr rfl) rfl) ?_
 refine Ze (Zc (Zd (Za ?_)))
 refine Lo u11 (Zb (.inl rfl) rfl) ?_
 refine Lo u11 (Zb (.inr rfl) rfl) ?_
 refine Ze (Zc (Zi ?_))
 refine W10 (.inr rfl) (Zh rfl rfl) ?_
 exact ⟨rfl, rfl⟩
abbrev u49 {a0 a1 a2 a3 a4 a5 a6 a7 a8 a9 a10 a11 a12 a13 a14 a15 a16 a17 a18 a19 a20 a21 a22 a23 a24 a25 a26 a27 a28 a29 a30 a31 a32 a33 a34 a35 a36 a37 a38 a39 a40 a41 a42 a43 a44 a45 a46 a47 a48 : VVal} : VEnv := a0 :: a1 :: a2 :: a3 :: a4 :: a5 :: a6 :: a7 :: a8 :: a9 :: a10 :: a11 :: a12 :: a13 :: a14 :: a15 :: a16 :: a17 :: a18 :: a19 :: a20 :: a21 :: a22 :: a23 :: a24 :: a25 :: a26 :: a27 :: a28 :: a29 :: a30 :: a31 :: a32 :: a33 :: a34 :: a35 :: a36 :: a37 :: a38 :: a39 :: a40 :: a41 :: a42 :: a43 :: a44 :: a45 :: a46 :: a47 :: a48 :: []
theorem W93 {P : Prop} (h : P := by first | exact ⟨l, true, rfl, fun _ => by rw [fiN_s, hv2, fiS_hit (f := fun v => fiN (loB p) p.users.toNat m (t ++ [v]) (v + 1)) (l := l) (by omega) (h5 rfl)], fun e => (by cases e), rfl⟩ | exact ⟨[], false, rfl, fun e => (by cases e), fun _ => by rw [fiN_s, hv2, fiS_end (by omega)], rfl⟩) : P := h
theorem W94 {P : Prop} (h : P := by first | exact ⟨(waV_no (waN_no (by omega))).symm, rfl⟩ | exact ⟨(waV_no (hwa.trans (h6 XH19))).symm, rfl⟩ | exact ⟨(waV_some (hwa.trans (h5 XH19))).symm, rfl⟩) : P := h
theorem loB_eq {p : Pb} {w : BitVec 64} (h : pck p = 0) : loB p w = !(leA (loV p w)).isSome := by unfold loB brs; rw [decide_eq_true h, Bool.true_and]
def wkR (p : Pb) (m : Nat) (t : List Nat) (u : Nat) (H : Zf) (v : VVal) (G : Zf) : Prop := ∃ l ok, v = .tuple [fzN l, .bool ok] ∧ (ok = true → fiN (loB p) p.users.toNat m t u = some l) ∧ (ok = false → fiN (loB p) p.users.toNat m t u = none) ∧ G = H
theorem fweak_in {x : SW} {p : Pb} {H Z : Zf} {pv : VVal} {t : List Nat} {v m i n c : Nat} (hZ : Z[i]? = some (.cells (rcN (t ++ [v])) true)) (h : F (psys x) 90 [pv, iI ((v + 1 : Nat) : Int), iI (m : Nat), fzN (t ++ [v]), iW (wl (t ++ [v]))] (H ++ Z.set i .dead) (wkR p m (t ++ [v]) (v + 1) (H ++ Z.set i .dead))) (hn : n = t.length + 1) (hc : c = n) : F (psys x) 90 [pv, iI ((v + 1 : Nat) : Int), iI (m : Nat), .slice (some (H.length + i, 0)) n c false 1, iW (wl t ||| 1#64 <<< v)] (H ++ Z) (wkR p m (t ++ [v]) (v + 1) (H ++ Z.set i .dead)) := by
  subst hc; subst hn
  rw [← wl_snoc]
  exact F.pre (Gh.freezeL (H := H) (l := rcN (t ++ [v])) (vs' := [pv, iI ((v + 1 : Nat) : Int), iI (m : Nat), fzN (t ++ [v]), iW (wl (t ++ [v]))]) 3 i rfl hZ (Yd (by simp)) (Nat.le_refl _) (by simp)) h
theorem fLost_spec {x : SW} (H : Zf) (p : Pb) (hp : PbL p) (w : BitVec 64) (hk : pck p = 0) : F (psys x) 92 [.agg (pbB p), iW w] H fun v G => v = .bool (loB p w) ∧ G = H := by
 refine Zq Tryd.func92 rfl u16 rfl ?_
 refine Zd (Za ?_)
 refine Lo u16 (Zs rfl rfl rfl) ?_
 refine Lo u16 (Zg (VVal.bool false) (.inr rfl) rfl) ?_
 refine Ze (Zc (Zd ?_))
 refine ZX (Gh.freezePtrL (cs := pbB p) 2 0 rfl rfl rfl) ?_
 refine Za ?_
 refine Lo u16 (W2p rfl rfl rfl rfl rfl) ?_
 refine Lo u16 (Zb (.inl rfl) rfl) ?_
 refine Zr rfl rfl rfl (by exact fLose_spec _ p hp w) ?_
 rintro _ _ ⟨rfl, rfl⟩
 refine Le u16 ?_
 refine Lo u16 (Zb (.inl rfl) rfl) ?_
 refine Lo u16 (rfl) ?_
 refine Lo u16 (rfl) ?_
 refine Lo u16 (Zv rfl rfl) ?_
 refine Lo u16 (W13 rfl rfl rfl rfl rfl rfl rfl) ?_
 refine Lo u16 (Zb (.inr rfl) rfl) ?_
 refine Ze (Zc (Zd ?_))
 refine ZX (Gh.freezePtrL (cs := pbB (loV p w)) 5 1 rfl rfl rfl) ?_
 refine Za ?_
 refine Lo u16 (W2p rfl rfl rfl rfl rfl) ?_
 refine Zr rfl rfl rfl (by exact fCan_spec _ (loV p w) (loV_L hp)) ?_
 rintro _ _ ⟨rfl, rfl⟩
 refine Le u16 ?_
 refine Lo u16 (rfl) ?_
 refine Lo u16 (Zb (.inr rfl) rfl) ?_
 refine Ze (Zc (Zi ?_))
 refine W10 (.inr rfl) (Zh rfl rfl) ?_
 exact ⟨by rw [loB_eq hk], rfl⟩
theorem fweak_0 {x : SW} (p : Pb) (hp : PbL p) (g : Go.V.Good p) (H : Zf) (t : List Nat) (u : Nat) : F (psys x) 90 [.agg (pbB p), iI (u : Nat), iI 0, fzN t, iW (wl t)] H (wkR p 0 t u H) := by
 have hk := pck_good.2 g
 have g1 := g.u0; have g2 := g.u64
 refine Zq Tryd.func90 rfl u49 rfl ?_
 refine Zd (Za ?_)
 refine Lo u49 (Zs rfl rfl rfl) ?_
 refine Lo u49 (Zg (VVal.slice none 0 0 true 0) (.inr rfl) rfl) ?_
 refine Lo u49 (Zg (VVal.bool false) (.inr rfl) rfl) ?_
 refine Ze (Zc (Zd (Zd ?_)))
 refine ZX (Gh.freezePtrL (cs := pbB p) 5 0 rfl rfl rfl) ?_
 refine Za ?_
 refine Lo u49 (Zb (.inl rfl) rfl) ?_
 refine Lo u49 (v_is true rfl rfl) ?_
 refine Ze (Zc ?_)
 refine ZO rfl rfl ?_
 refine Zd (Za ?_)
 refine Lo u49 (Zb (.inl rfl) rfl) ?_
 refine Lo u49 (W2p rfl rfl rfl rfl rfl) ?_
 refine Lo u49 (Zb (.inl rfl) rfl) ?_
 refine Zr rfl rfl rfl (by exact fLost_spec _ p hp (wl t) hk) ?_
 rintro _ _ ⟨rfl, rfl⟩
 refine Le u49 ?_
 refine Lo u49 (Zb (.inr rfl) rfl) ?_
 refine Lo u49 (Zb (.inr rfl) rfl) ?_
 refine Ze (Zc (Zi (Zm ?_)))
 refine W7d (.inr rfl) (Z3 rfl rfl rfl) ?_
 exact ⟨t, loB p (wl t), rfl, fun e => by rw [fiN_0, if_pos e], fun e => by rw [fiN_0, if_neg (by rw [e]; decide)], rfl⟩
theorem fweak_s {x : SW} (p : Pb) (hp : PbL p) (g : Go.V.Good p) (m : Nat) (ih : ∀ (H : Zf) (t : List Nat) (u : Nat), t.length + m ≤ 100 → F (psys x) 90 [.agg (pbB p), iI (u : Nat), iI (m : Nat), fzN t, iW (wl t)] H (wkR p m t u H)) (H : Zf) (t : List Nat) (u : Nat) (ht : t.length + (m + 1) ≤ 100) : F (psys x) 90 [.agg (pbB p), iI (u : Nat), iI ((m + 1 : Nat) : Int), fzN t, iW (wl t)] H (wkR p (m + 1) t u H) := by
 have hk := pck_good.2 g
 have g1 := g.u0; have g2 := g.u64
 refine Zq Tryd.func90 rfl u49 rfl ?_
 refine Zd (Za ?_)
 refine Lo u49 (Zs rfl rfl rfl) ?_
 refine Lo u49 (Zg (VVal.slice none 0 0 true 0) (.inr rfl) rfl) ?_
 refine Lo u49 (Zg (VVal.bool false) (.inr rfl) rfl) ?_
 refine Ze (Zc (Zd (Zd ?_)))
 refine ZX (Gh.freezePtrL (cs := pbB p) 5 0 rfl rfl rfl) ?_
 refine Za ?_
 refine Lo u49 (Zb (.inl rfl) rfl) ?_
 refine Lo u49 (v_is false rfl (by simp; omega)) ?_
 refine Ze (Zc ?_)
 refine ZY rfl rfl ?_
 refine Zj (Zc (Zd (Zk ?_)))
 refine Zt (mk 49 562949953421249) (env' := u49) rfl ?_
 refine Zz (fun (v : Nat) => p.users.toNat - v) (fun (v : Nat) => [(1, iI (v : Nat))]) (fun (v : Nat) G => (u ≤ v ∧ fiS (fun v => fiN (loB p) p.users.toNat m (t ++ [v]) (v + 1)) u (p.users.toNat - u) = fiS (fun v => fiN (loB p) p.users.toNat m (t ++ [v]) (v + 1)) v (p.users.toNat - v)) ∧ ∃ X, G = H ++ X) u rfl ?_ ?_
 ·refine ⟨?_, ⟨_, rfl⟩⟩
  exact ⟨Nat.le_refl _, rfl⟩
 rintro v _ ⟨⟨hv1, hv2⟩, ⟨X, rfl⟩⟩
 refine ZQ (env' := u49) rfl ?_
 refine Zd (Zd (Za ?_))
 refine Lo u49 (Zb (.inl rfl) rfl) ?_
 refine Lo u49 (rfl) ?_
 refine Lo u49 (W2r rfl rfl rfl rfl) ?_
 refine Lo u49 (rfl) ?_
 refine Ze (Zc ?_)
 refine Zl _ rfl (fun hc1 => ?_) (fun hc1 => ?_)
 ·try simp only [qB, qN] at hc1
  refine Zj (Zc (Zd (Zk (Zd (Za ?_)))))
  refine Lo u49 (Zg (VVal.slice none 0 0 true 0) (.inr rfl) rfl) ?_
  refine Ze (Zc (Zd (Za ?_)))
  refine Lo u49 (Zb (.inl rfl) rfl) ?_
  refine Lo u49 (Zb (.inl rfl) rfl) ?_
  refine YB rfl rfl (v_cpN rfl rfl rfl rfl rfl rfl rfl rfl (by show t.length * 8 ≤ _ ∧ _; omega)) ?_
  rintro w _ ⟨Z, rfl, hcp⟩
  refine Le u49 ?_
  refine Lo u49 (Zb (.inr rfl) rfl) ?_
  refine Ze (Zc (Zd ?_))
  refine B_drawP #[0, 0, 2, 0, 8, 0, 0, 64, 224, 0, 0, 1024, 3584, 8191, 16383, 32767, 32767, 65535, 262143] XH1 ?_
  refine P_seg [0, 1, 2, 3, 4, 5, 6, 7, 9, 10, 11, 12, 8] (bef := #[0, 0, 2, 0, 8, 0, 0, 64, 224, 0, 0, 1024, 3584, 8191, 16383, 32767, 32767, 65535, 262143]) XH1 XH1 XH1 ?_
  refine Yb (env' := u49) (x := .look _ _) rfl rfl rfl (W2p rfl rfl rfl rfl rfl) rfl rfl rfl ?_
  refine Oo u49 .calm rfl (Zb (.inl rfl) rfl) ?_
  refine Oo u49 .calm rfl (W14 rfl rfl rfl) ?_
  refine Oo u49 .calm rfl (Zb (.inl rfl) rfl) ?_
  refine Oo u49 .calm rfl (v_val (v_subI rfl rfl rfl (by omega)) (show iI ((((m + 1 : Nat) : Int)) - 1) = iI (m : Nat) by congr 1; omega)) ?_
  refine Oo u49 .calm rfl (Zb (.inl rfl) rfl) ?_
  refine Oo u49 .calm rfl (Zb (.inl rfl) rfl) ?_
  refine Oo u49 .grow rfl (Zx rfl rfl (by decide) rfl) ?_
  refine Oo u49 .calm rfl (Zb (.inl rfl) rfl) ?_
  refine Oo u49 .calm rfl (Zb (.inl rfl) rfl) ?_
  refine Oo u49 .calm rfl (v_shl1 rfl rfl rfl XH5) ?_
  refine Oo u49 .calm rfl (v_orW rfl rfl rfl) ?_
  refine O_opXI (fun _ G => .turn _ G) rfl rfl rfl (v_cpApp rfl rfl rfl rfl rfl rfl rfl rfl hcp (by show (t.length + 1) * 8 ≤ _ ∧ _; omega)) (fun _ _ => rfl) ?_
  rintro _ _ ⟨Z2, i, rfl, rfl, hZ2⟩
  refine O_env (env' := u49) rfl ?_
  refine O_nilP [(0, 12)] XH1 (And.intro ⟨_, _, _, _, ⟨(gA (gA (gA (gA (gA (gA (gA (gA (gA (gA (gA (gA (gL XH1))))))))))))), (gL XH1), And.intro (W2p rfl rfl rfl rfl rfl) (W2p rfl rfl rfl rfl rfl)⟩⟩ (trivial)) ?_
  refine P_call 13 (bef := #[0, 0, 2, 0, 8, 0, 0, 64, 224, 0, 0, 1024, 3584, 8191, 16383, 32767, 32767, 65535, 262143]) XH1 XH1 rfl rfl rfl rfl (by exact fweak_in (p := p) (m := m) hZ2 (ih _ (t ++ [v]) (v + 1) (by rw [List.length_append]; show _ + 1 + _ ≤ _; omega)) rfl rfl) ?_
  rintro _ _ ⟨l, ok, rfl, h5, h6, rfl⟩
  refine P_env (env' := u49) rfl ?_
  refine P_seg [14, 15, 16, 17, 18] (bef := #[0, 0, 2, 0, 8, 0, 0, 64, 224, 0, 0, 1024, 3584, 8191, 16383, 32767, 32767, 65535, 262143]) XH1 XH1 XH1 ?_
  refine Oo u49 .calm rfl (Zb (.inl rfl) rfl) ?_
  refine Oo u49 .calm rfl (rfl) ?_
  refine Oo u49 .calm rfl (rfl) ?_
  refine Oo u49 .calm rfl (Zb (.inr rfl) rfl) ?_
  refine Oo u49 .calm rfl (Zb (.inr rfl) rfl) ?_
  refine ZS [] XH1 (trivial) ?_
  refine P_end XH1 ?_
  refine Zc (Zd (Za ?_))
  refine Lo u49 (Zb (.inl rfl) rfl) ?_
  refine Ze (Zc ?_)
  refine Zl _ rfl (fun hc2 => ?_) (fun hc2 => ?_)
  ·try simp only [qB, qN] at hc2
   have hok : ok = true := by assumption
   subst hok
   refine Zd (Za ?_)
   refine Lo u49 (Zb (.inl rfl) rfl) ?_
   refine Lo u49 (Zb (.inr rfl) rfl) ?_
   refine Lo u49 (Zg (VVal.bool true) (.inr rfl) rfl) ?_
   refine Ze (Zc (Zi (ZB (Zm (Z5 (ZB (Zm ?_)))))))
   refine W7d (.inr rfl) (Z3 rfl rfl rfl) ?_
   exact W93
  ·try simp only [qB, qN] at hc2
   have hok : ok = false := by assumption
   subst hok
   refine Zj (ZA (Zc (Za ?_)))
   refine Lo u49 (Zb (.inl rfl) rfl) ?_
   refine Lo u49 (W14 rfl rfl rfl) ?_
   refine Lo u49 (Zb (.inr rfl) rfl) ?_
   refine Ze ?_
   refine Zw (mk 49 562949953421249) (env' := u49) rfl ⟨v + 1, ?_, rfl, ?_⟩
   ·first | omega | (simp only []; omega)
   ·exact ⟨⟨by omega, hv2.trans (fiS_on (by omega) (h6 rfl))⟩, _, rfl⟩
 ·try simp only [qB, qN] at hc1
  refine ZF (ZD (Zu (ZE (Zc (Zd (Za ?_))))))
  refine Lo u49 (Zg (VVal.slice none 0 0 true 0) (.inr rfl) rfl) ?_
  refine Lo u49 (Zg (VVal.bool false) (.inr rfl) rfl) ?_
  refine Ze (Zc ?_)
  refine ZX (Gh.freezeNil 10 (es' := 1) rfl rfl) ?_
  refine Zi ?_
  refine W7d (.inr rfl) (Z3 rfl rfl rfl) ?_
  exact W93
theorem fweak_spec {x : SW} (p : Pb) (hp : PbL p) (g : Go.V.Good p) : ∀ (m : Nat) (H : Zf) (t : List Nat) (u : Nat), t.length + m ≤ 100 → F (psys x) 90 [.agg (pbB p), iI (u : Nat), iI (m : Nat), fzN t, iW (wl t)] H (wkR p m t u H)
  | 0, H, t, u, _ => fweak_0 p hp g H t u
  | m + 1, H, t, u, ht => fweak_s p hp g m (fun H t u h => fweak_spec p hp g m H t u h) H t u ht
theorem fweak_top {x : SW} (p : Pb) (hp : PbL p) (g : Go.V.Good p) (H : Zf) (m : Nat) (hm : m ≤ 100) : F (psys x) 90 [.agg (pbB p), iI 0, iI (m : Nat), niS, iW 0#64] H (wkR p m [] 0 H) :=
  F.pre (Gh.freezeNil (vs' := [.agg (pbB p), iI 0, iI (m : Nat), fzN [], iW 0#64]) 3 rfl rfl) (fweak_spec p hp g m H [] 0 (by simpa using hm))
theorem fWeak_spec {x : SW} (H : Zf) (p : Pb) (hp : PbL p) (m : Int) (hm : -9223372036854775808 ≤ m ∧ m < 9223372036854775808) : F (psys x) 49 [.agg (pbB p), iI m] H fun v G => v = waV p m ∧ G = H := by
 refine Zq Tryd.func49 rfl u28 rfl ?_
 refine Zd (Za ?_)
 refine Lo u28 (Zs rfl rfl rfl) ?_
 refine Lo u28 (Zg (VVal.slice none 0 0 true 0) (.inr rfl) rfl) ?_
 refine Lo u28 (Zg (VVal.bool false) (.inr rfl) rfl) ?_
 refine Ze (Zc (Zd (Zd ?_)))
 refine ZX (Gh.freezePtrL (cs := pbB p) 2 0 rfl rfl rfl) ?_
 refine Za ?_
 refine Lo u28 (W2p rfl rfl rfl rfl rfl) ?_
 refine Zr rfl rfl rfl (by exact YO _ p hp) ?_
 rintro _ _ ⟨rfl, rfl⟩
 refine Le u28 ?_
 refine Lo u28 (rfl) ?_
 refine Lo u28 (Zb (.inl rfl) rfl) ?_
 refine ZH 11 (env1 := u28) (env2 := u28) rfl rfl rfl (fun hg1 => ?_) (fun hg1 => ?_)
 ·try simp only [qB, qN] at hg1
  refine Lf u28 ?_
  refine Lf u28 ?_
  refine Lo u28 (ZL (VVal.bool true) rfl rfl rfl) ?_
  refine Lo u28 (Zb (.inl rfl) rfl) ?_
  refine Lf u28 ?_
  refine Lf u28 ?_
  refine Lo u28 (ZL (VVal.bool true) rfl rfl rfl) ?_
  refine Ze (Zc ?_)
  refine ZO rfl rfl ?_
  refine Zd (Za ?_)
  refine Lo u28 (Zg (VVal.slice none 0 0 true 0) (.inr rfl) rfl) ?_
  refine Lo u28 (Zg (VVal.bool false) (.inr rfl) rfl) ?_
  refine Ze (Zc ?_)
  first | refine ZX (Gh.freezeNil 4 (es' := 1) rfl rfl) ?_ | skip
  refine Zi (Zm ?_)
  refine W7d (.inr rfl) (Z3 rfl rfl rfl) ?_
  exact W94
 ·try simp only [qB, qN] at hg1
  refine Lo u28 (Zb (.inl rfl) rfl) ?_
  refine Lo u28 (rfl) ?_
  refine Lo u28 (ZU rfl rfl rfl) ?_
  refine Lo u28 (Zb (.inl rfl) rfl) ?_
  refine ZH 15 (env1 := u28) (env2 := u28) rfl rfl rfl (fun hg2 => ?_) (fun hg2 => ?_)
  ·try simp only [qB, qN] at hg2
   refine Lf u28 ?_
   refine Lf u28 ?_
   refine Lo u28 (ZL (VVal.bool true) rfl rfl rfl) ?_
   refine Ze (Zc ?_)
   refine ZO rfl rfl ?_
   refine Zd (Za ?_)
   refine Lo u28 (Zg (VVal.slice none 0 0 true 0) (.inr rfl) rfl) ?_
   refine Lo u28 (Zg (VVal.bool false) (.inr rfl) rfl) ?_
   refine Ze (Zc ?_)
   first | refine ZX (Gh.freezeNil 4 (es' := 1) rfl rfl) ?_ | skip
   refine Zi (Zm ?_)
   refine W7d (.inr rfl) (Z3 rfl rfl rfl) ?_
   exact W94
  ·try simp only [qB, qN] at hg2
   refine Lo u28 (Zb (.inl rfl) rfl) ?_
   refine Lo u28 (rfl) ?_
   refine Lo u28 (ZU rfl rfl rfl) ?_
   refine Ze (Zc ?_)
   refine Zl _ rfl (fun hc3 => ?_) (fun hc3 => ?_)
   ·try simp only [qB, qN] at hc3
    refine Zd (Za ?_)
    refine Lo u28 (Zg (VVal.slice none 0 0 true 0) (.inr rfl) rfl) ?_
    refine Lo u28 (Zg (VVal.bool false) (.inr rfl) rfl) ?_
    refine Ze (Zc ?_)
    first | refine ZX (Gh.freezeNil 4 (es' := 1) rfl rfl) ?_ | skip
    refine Zi (Zm ?_)
    refine W7d (.inr rfl) (Z3 rfl rfl rfl) ?_
    exact W94
   ·try simp only [qB, qN] at hc3
    refine Zj (Zc (Zd ?_))
    have hk : pck p = 0 := by first | assumption | simp_all
    have g := pck_good.1 hk
    have hmm : 0 ≤ m ∧ m ≤ 3 := by constructor <;> (first | omega | (simp at *; omega))
    obtain ⟨n, rfl⟩ : ∃ n : Nat, m = n := ⟨m.toNat, by omega⟩
    have hwa := waN_in (p := p) (m := (n : Int)) ⟨hk, hmm⟩
    rw [Int.toNat_natCast] at hwa
    refine Za ?_
    refine Lo u28 (W2p rfl rfl rfl rfl rfl) ?_
    refine Lo u28 (Zb (.inl rfl) rfl) ?_
    refine Zr rfl rfl rfl (by exact fweak_top p hp g _ n (by omega)) ?_
    rintro _ _ ⟨l, ok, rfl, h5, h6, rfl⟩
    refine Le u28 ?_
    refine Lo u28 (Zb (.inl rfl) rfl) ?_
    refine Lo u28 (rfl) ?_
    refine Lo u28 (rfl) ?_
    refine Lo u28 (Zb (.inr rfl) rfl) ?_
    refine Lo u28 (Zb (.inr rfl) rfl) ?_
    refine Ze (Zc (Zd (Zd (Za ?_))))
    refine Lo u28 (Zb (.inl rfl) rfl) ?_
    refine Lo u28 (rfl) ?_
    refine Ze (Zc ?_)
    refine Zl _ rfl (fun hc4 => ?_) (fun hc4 => ?_)
    ·try simp only [qB, qN] at hc4
     refine Zd (Za ?_)
     refine Lo u28 (Zg (VVal.slice none 0 0 true 0) (.inr rfl) rfl) ?_
     refine Lo u28 (Zg (VVal.bool false) (.inr rfl) rfl) ?_
     refine Ze (Zc ?_)
     first | refine ZX (Gh.freezeNil 4 (es' := 1) rfl rfl) ?_ | skip
     refine Zi (Zm ?_)
     refine W7d (.inr rfl) (Z3 rfl rfl rfl) ?_
     exact W94
    ·try simp only [qB, qN] at hc4
     refine Zj (Zc (Zd (Za ?_)))
     refine Lo u28 (Zb (.inl rfl) rfl) ?_
     refine Lo u28 (Zb (.inr rfl) rfl) ?_
     refine Lo u28 (Zg (VVal.bool true) (.inr rfl) rfl) ?_
     refine Ze (Zc ?_)
     first | refine ZX (Gh.freezeNil 4 (es' := 1) rfl rfl) ?_ | skip
     refine Zi ?_
     refine W7d (.inr rfl) (Z3 rfl rfl rfl) ?_
     exact W94
theorem fGrade_spec {x : SW} (H : Zf) (p : Pb) (hp : PbL p) : F (psys x) 53 [.agg (pbB p)] H fun v G => v = iI (grN p) ∧ G = H := by
 refine Zq Tryd.func53 rfl u22 rfl ?_
 refine Zd (Za ?_)
 refine Lo u22 (Zs rfl rfl rfl) ?_
 refine Lo u22 (Zg (VVal.int .i64 0) (.inr rfl) rfl) ?_
 refine Ze (Zc (Zd (Zd ?_)))
 refine ZX (Gh.freezePtrL (cs := pbB p) 1 0 rfl rfl rfl) ?_
 refine Za ?_
 refine Lo u22 (W2p rfl rfl rfl rfl rfl) ?_
 refine Zr rfl rfl rfl (by exact YO _ p hp) ?_
 rintro _ _ ⟨rfl, rfl⟩
 refine Le u22 ?_
 refine Lo u22 (rfl) ?_
 refine Ze (Zc ?_)
 refine Zl _ rfl (fun hc1 => ?_) (fun hc1 => ?_)
 ·try simp only [qB, qN] at hc1
  refine Zd (Za ?_)
  refine Lo u22 (Zg (VVal.int .i64 (-1)) (.inr rfl) rfl) ?_
  refine Ze (Zc (Zi (Zm ?_)))
  refine W10 (.inr rfl) (Zh rfl rfl) ?_
  exact W7h
 ·try simp only [qB, qN] at hc1
  refine Zj (Zc (Zd (Zd (Za ?_))))
  refine Lo u22 (Zg (VVal.int .i64 0) (.inr rfl) rfl) ?_
  refine Ze (Zc (Zk ?_))
  refine Zt (mk 22 4194293) (env' := u22) rfl ?_
  refine Zz (fun (k : Nat) => 4 - k) (fun (k : Nat) => [(3, iI (k : Nat))]) (fun (k : Nat) G => (k ≤ 4 ∧ grS (fun k => (waN p (k : Nat)).isSome) 0 (4 - 0) = grS (fun k => (waN p (k : Nat)).isSome) k (4 - k)) ∧ G = H ++ [.dead]) 0 rfl ?_ ?_
  ·refine ⟨?_, rfl⟩
   exact ⟨Nat.zero_le _, rfl⟩
  rintro k _ ⟨⟨hk, hgr⟩, rfl⟩
  refine ZQ (env' := u22) rfl ?_
  refine Zd (Zd (Za ?_))
  refine Lo u22 (Zb (.inl rfl) rfl) ?_
  refine Lo u22 (rfl) ?_
  refine Ze (Zc ?_)
  refine Zl _ rfl (fun hc2 => ?_) (fun hc2 => ?_)
  ·try simp only [qB, qN] at hc2
   refine Zj (Zc (Zd (Zk (Zd (Za ?_)))))
   refine Lo u22 (W2p rfl rfl rfl rfl rfl) ?_
   refine Lo u22 (Zb (.inl rfl) rfl) ?_
   refine Zr rfl rfl rfl (by exact fWeak_spec _ p hp (k : Nat) (by omega)) ?_
   rintro v _ ⟨hv, rfl⟩; obtain ⟨l, ok, he, h1, h2, h3⟩ := waV_eq p ((k : Nat) : Int); rw [he] at hv; subst hv
   refine Le u22 ?_
   refine Lo u22 (Zb (.inl rfl) rfl) ?_
   refine Lo u22 (rfl) ?_
   refine Lo u22 (rfl) ?_
   refine Lo u22 (Zb (.inr rfl) rfl) ?_
   refine Lo u22 (Zb (.inr rfl) rfl) ?_
   refine Ze (Zc (Zd (Za ?_)))
   refine Lo u22 (Zb (.inl rfl) rfl) ?_
   refine Ze (Zc ?_)
   refine Zl _ rfl (fun hc3 => ?_) (fun hc3 => ?_)
   ·try simp only [qB, qN] at hc3
    refine Zd (Za ?_)
    refine Lo u22 (Zb (.inl rfl) rfl) ?_
    refine Lo u22 (W1y rfl rfl rfl) ?_
    refine Lo u22 (Zb (.inr rfl) rfl) ?_
    refine Ze (Zc (Zi (ZB (Zm (Z5 (ZB (Zm ?_)))))))
    refine W10 (.inr rfl) (Zh rfl rfl) ?_
    exact W7h
   ·try simp only [qB, qN] at hc3
    refine Zj (ZA (Zc (Za ?_)))
    refine Lo u22 (Zb (.inl rfl) rfl) ?_
    refine Lo u22 (W14 rfl rfl rfl) ?_
    refine Lo u22 (Zb (.inr rfl) rfl) ?_
    refine Ze ?_
    refine Zw (mk 22 4194293) (env' := u22) rfl ⟨k + 1, ?_, rfl, ?_⟩
    ·first | omega | (simp only []; omega)
    ·exact ⟨⟨by omega, hgr.trans (grS_on (by omega) (h1.symm.trans XH19))⟩, rfl⟩
  ·try simp only [qB, qN] at hc2
   refine ZF (ZD (Zu (ZE (Zc (Zd (Za ?_))))))
   refine Lo u22 (Zg (VVal.int .i64 3) (.inr rfl) rfl) ?_
   refine Ze (Zc (Zi ?_))
   refine W10 (.inr rfl) (Zh rfl rfl) ?_
   exact W7h
end Go.Proofs.YtgbahioegcpjiaaDoor.VT
