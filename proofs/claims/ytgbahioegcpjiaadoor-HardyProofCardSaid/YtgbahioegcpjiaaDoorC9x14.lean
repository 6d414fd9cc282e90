/- Proved: Rows.HardyProofCardSaid, the statement HardyProof with its card, of the given program at the commit; no conditions beyond those in the statement. -/
import Derived.Test.YtgbahioegcpjiaaDoorC9x13
set_option autoImplicit false
set_option linter.unusedVariables false
set_option linter.unusedSimpArgs false
set_option maxHeartbeats 4000000
set_option maxRecDepth 100000
namespace Go.Proofs.YtgbahioegcpjiaaDoor.VT
open Go Go.V Go.RowKit
abbrev u11 {a0 a1 a2 a3 a4 a5 a6 a7 a8 a9 a10 : VVal} : VEnv := a0 :: a1 :: a2 :: a3 :: a4 :: a5 :: a6 :: a7 :: a8 :: a9 :: a10 :: []
abbrev u19 {a0 a1 a2 a3 a4 a5 a6 a7 a8 a9 a10 a11 a12 a13 a14 a15 a16 a17 a18 : VVal} : VEnv := a0 :: a1 :: a2 :: a3 :: a4 :: a5 :: a6 :: a7 :: a8 :: a9 :: a10 :: a11 :: a12 :: a13 :: a14 :: a15 :: a16 :: a17 :: a18 :: []
theorem W53 {P : Prop} (h : P := by first | exact ⟨⟨_, rfl, by rw [inB_hit (k := k) (by omega) (by omega)]; exact decide_eq_true (by omega)⟩, rfl⟩ | (rw [List.take_of_length_le (by omega)] at hi; exact ⟨⟨_, rfl, by rw [hi]; rfl⟩, rfl⟩)) : P := h
theorem W55 {P : Prop} (h : P := by first | exact ⟨congrArg VVal.bool (by simp; omega), rfl⟩ | exact ⟨congrArg VVal.bool (by rw [Bool.eq_iff_iff]; simp; omega), rfl⟩) : P := h
theorem W56 {T : TypeId → Option VTy} {H : Ze} {op : Op} {ρ : Operand → VVal} {t : TypeId} {a : Operand} {y : VTy} {p v : VVal} (ho : op = .load t a) (ha : ρ a = p) (hy : T t = some y) (hd : Zm y.desc = false) (h : LdOk H p v := by first | exact .inl ⟨_, _, rfl, XH35⟩ | exact .inr ⟨_, _, _, _, rfl, by exact Zk hb, XH35⟩) : vop T ρ H op = some (v, H) := YE ho ha hy hd h
theorem W57 {P : Prop} (h : P := by first | exact ⟨⟨_, rfl, by rw [ltB_bad (k := k) (by omega) (by have h9 := hc2; simp at h9; omega)]; exact decide_eq_true (by omega)⟩, rfl⟩ | (rw [List.take_of_length_le (by omega)] at hi; exact ⟨⟨_, rfl, by rw [hi]; rfl⟩, rfl⟩)) : P := h
theorem inB_step' {l : List Int} {k n : Nat} (h : k < l.length) : inB (l.take (k + 1)) n = (inB (l.take k) n || decide (l.getD k 0 = (n : Int))) := by
  rw [Ya (d := 0) h, inB_app, inB_one]
theorem inB_hit {l : List Int} {k n : Nat} (h : k < l.length) (e : l.getD k 0 = (n : Int)) : inB l n = true := by
  rw [inB_mem, ← e, List.getD_eq_getElem?_getD, List.getElem?_eq_getElem h]; exact List.getElem_mem h
theorem ltB_step {l : List Int} {k n : Nat} (h : k < l.length) : ltB (l.take (k + 1)) n = (ltB (l.take k) n && decide (0 ≤ l.getD k 0 ∧ l.getD k 0 < (n : Int))) := by
  rw [Ya (d := 0) h, ltB_app, ltB_one]
theorem ltB_bad {l : List Int} {k n : Nat} (h : k < l.length) (e : ¬ (0 ≤ l.getD k 0 ∧ l.getD k 0 < (n : Int))) : ltB l n = false := by
  rw [Bool.eq_false_iff]; intro h2
  refine e (ltB_mem.1 h2 _ ?_)
  rw [List.getD_eq_getElem?_getD, List.getElem?_eq_getElem h]; exact List.getElem_mem h
theorem ltB_at {l : List Int} {n k : Nat} (h : ltB l n = true) (hk : k < l.length) : ∃ i : Nat, l.getD k 0 = (i : Int) ∧ i < n := by
  have := ltB_mem.1 h (l.getD k 0) (by rw [List.getD_eq_getElem?_getD, List.getElem?_eq_getElem hk]; exact List.getElem_mem hk)
  exact ⟨(l.getD k 0).toNat, by omega, by omega⟩
theorem Index_spec {x : SW} (H : Ze) (rv : VVal) (l : List Int) (n : Nat) (hr : RD H rv l) (hn : l.length ≤ 1000000) : F (psys x) 111 [rv, iI (n : Nat)] H fun v G => (∃ r : Int, v = iI r ∧ decide (0 ≤ r) = inB l n) ∧ G = H := by
 refine Zr Tryd.func111 rfl u19 rfl ?_
 refine Zd (Za ?_)
 refine Lo u19 (Zg (VVal.int .i64 0) (.inr rfl) rfl) ?_
 refine Zf (Zc (Zd (Zd (Za ?_))))
 refine Lo u19 (Zb (.inl rfl) rfl) ?_
 refine Lo u19 (v_lenD rfl rfl rfl rfl hr) ?_
 refine Lo u19 (Zg (VVal.int .i64 0) (.inl rfl) rfl) ?_
 refine Zf (Zc (Zo ?_))
 refine ZB (mk 19 523900) (env' := u19) rfl ?_
 refine ZF (fun (k : Nat) => l.length - k) (fun (k : Nat) => [(8, iI (k : Nat))]) (fun (k : Nat) G => (k ≤ l.length ∧ inB (l.take k) n = false) ∧ G = H ++ []) 0 rfl ?_ ?_
 ·refine ⟨?_, rfl⟩
  exact ⟨Nat.zero_le _, rfl⟩
 rintro k _ ⟨⟨hk, hi⟩, rfl⟩
 refine ZU (env' := u19) rfl ?_
 refine Zd (Za ?_)
 refine Lo u19 (rfl) ?_
 refine Zf (Zc (Zd ?_))
 refine Zp _ rfl (fun hc1 => ?_) (fun hc1 => ?_)
 ·try simp only [qB, qN] at hc1
  refine Zj (Zc (Zd (Zo (Zd (Za ?_)))))
  refine Lo u19 (Zb (.inl rfl) rfl) ?_
  refine Lo u19 (Zb (.inr rfl) rfl) ?_
  refine Zf (Zc (Zd (Za ?_)))
  refine Lo u19 (Zb (.inl rfl) rfl) ?_
  refine Lo u19 (Zb (.inl rfl) rfl) ?_
  refine Lo u19 (Zb (.inl rfl) rfl) ?_
  refine L_opX rfl rfl (v_ixD rfl rfl rfl rfl rfl rfl rfl hr (by omega) _) ?_
  rintro w _ ⟨rfl, hw⟩
  refine Le u19 ?_
  refine Lo u19 (YE rfl rfl rfl rfl hw.app) ?_
  refine Lo u19 (rfl) ?_
  refine Zf (Zc ?_)
  refine Zp _ rfl (fun hc2 => ?_) (fun hc2 => ?_)
  ·try simp only [qB, qN] at hc2
   refine Zd (Za ?_)
   refine Lo u19 (Zb (.inl rfl) rfl) ?_
   refine Lo u19 (Zb (.inr rfl) rfl) ?_
   refine Zf (Zc (Zl (ZN (Zq (Yf (ZN (Zq ?_)))))))
   refine W10 (.inr rfl) (Zi rfl rfl) ?_
   exact W53
  ·try simp only [qB, qN] at hc2
   refine Zj (Zx (Zc (Za ?_)))
   refine Lo u19 (W14 rfl rfl rfl) ?_
   refine Lo u19 (Zb (.inl rfl) rfl) ?_
   refine Zf ?_
   refine ZE (mk 19 523900) (env' := u19) rfl ⟨k + 1, ?_, rfl, ?_⟩
   ·first | omega | (simp only []; omega)
   ·exact ⟨⟨by omega, by rw [inB_step' (by omega), hi, decide_eq_false (by omega)]; rfl⟩, rfl⟩
 ·try simp only [qB, qN] at hc1
  refine ZL (ZJ (ZA (ZK (Zc (Zd (Za ?_))))))
  refine Lo u19 (Zg (VVal.int .i64 (-1)) (.inr rfl) rfl) ?_
  refine Zf (Zc (Zl ?_))
  refine W10 (.inr rfl) (Zi rfl rfl) ?_
  exact W53
theorem Contains_spec {x : SW} (H : Ze) (rv : VVal) (l : List Int) (n : Nat) (hr : RD H rv l) (hn : l.length ≤ 1000000) : F (psys x) 70 [rv, iI (n : Nat)] H fun v G => v = .bool (inB l n) ∧ G = H := by
 refine Zr Tryd.func70 rfl u9 rfl ?_
 refine Zd (Za ?_)
 refine Lo u9 (Zg (VVal.bool false) (.inr rfl) rfl) ?_
 refine Zf (Zc (Zd (Za ?_)))
 refine Lo u9 (Zb (.inl rfl) rfl) ?_
 refine Lo u9 (Zb (.inl rfl) rfl) ?_
 refine Zn rfl rfl rfl (by exact Index_spec _ rv l n (hr.app _) hn) ?_
 rintro _ _ ⟨⟨r, rfl, hd⟩, rfl⟩
 refine Le u9 ?_
 refine Lo u9 (rfl) ?_
 refine Lo u9 (Zb (.inr rfl) rfl) ?_
 refine Zf (Zc (Zl ?_))
 refine W10 (.inr rfl) (Zi rfl rfl) ?_
 exact ⟨by rw [← hd], rfl⟩
theorem within1_spec {x : SW} (H : Ze) (b n : Nat) (hb : H[b]? = some (.cells [iI (n : Nat)] true)) (i : Int) : F (psys x) 109 [iI i, .ptr (some (b, 0))] H fun v G => v = .bool (!decide (0 ≤ i ∧ i < (n : Int))) ∧ G = H := by
 refine Zr Tryd.func109 rfl u11 rfl ?_
 refine Zd (Za ?_)
 refine Lo u11 (Zg (VVal.bool false) (.inr rfl) rfl) ?_
 refine Zf (Zc (Zd (Za ?_)))
 refine Lo u11 (Zb (.inl rfl) rfl) ?_
 refine Lo u11 (rfl) ?_
 refine Lo u11 (Zb (.inl rfl) rfl) ?_
 refine ZQ 6 (env1 := u11) (env2 := u11) rfl rfl rfl (fun hg1 => ?_) (fun hg1 => ?_)
 ·try simp only [qB, qN] at hg1
  refine Lf u11 ?_
  refine Lf u11 ?_
  refine Lf u11 ?_
  refine Lo u11 (Yh (VVal.bool true) rfl rfl rfl) ?_
  refine Lo u11 (Zb (.inr rfl) rfl) ?_
  refine Zf (Zc (Zl ?_))
  refine W10 (.inr rfl) (Zi rfl rfl) ?_
  exact W55
 ·try simp only [qB, qN] at hg1
  refine Lo u11 (Zb (.inl rfl) rfl) ?_
  refine Lo u11 (W56 rfl rfl rfl rfl) ?_
  refine Lo u11 (rfl) ?_
  refine Lo u11 (ZP rfl rfl rfl) ?_
  refine Lo u11 (Zb (.inr rfl) rfl) ?_
  refine Zf (Zc (Zl ?_))
  refine W10 (.inr rfl) (Zi rfl rfl) ?_
  exact W55
theorem IndexFunc_spec {x : SW} (H : Ze) (rv : VVal) (l : List Int) (b n : Nat) (hb : H[b]? = some (.cells [iI (n : Nat)] true)) (hr : RD H rv l) (hn : l.length ≤ 1000000) : F (psys x) 137 [rv, .func 109 [] [.ptr (some (b, 0))]] H fun v G => (∃ r : Int, v = iI r ∧ decide (0 ≤ r) = !ltB l n) ∧ G = H := by
 refine Zr Tryd.func137 rfl u19 rfl ?_
 refine Zd (Za ?_)
 refine Lo u19 (Zg (VVal.int .i64 0) (.inr rfl) rfl) ?_
 refine Zf (Zc (Zd (Zd (Za ?_))))
 refine Lo u19 (Zb (.inl rfl) rfl) ?_
 refine Lo u19 (v_lenD rfl rfl rfl rfl hr) ?_
 refine Lo u19 (Zg (VVal.int .i64 0) (.inl rfl) rfl) ?_
 refine Zf (Zc (Zo ?_))
 refine ZB (mk 19 523900) (env' := u19) rfl ?_
 refine ZF (fun (k : Nat) => l.length - k) (fun (k : Nat) => [(8, iI (k : Nat))]) (fun (k : Nat) G => (k ≤ l.length ∧ ltB (l.take k) n = true) ∧ G = H ++ []) 0 rfl ?_ ?_
 ·refine ⟨?_, rfl⟩
  exact ⟨Nat.zero_le _, rfl⟩
 rintro k _ ⟨⟨hk, hi⟩, rfl⟩
 refine ZU (env' := u19) rfl ?_
 refine Zd (Za ?_)
 refine Lo u19 (rfl) ?_
 refine Zf (Zc (Zd ?_))
 refine Zp _ rfl (fun hc1 => ?_) (fun hc1 => ?_)
 ·try simp only [qB, qN] at hc1
  refine Zj (Zc (Zd (Zo (Zd (Za ?_)))))
  refine Lo u19 (Zb (.inl rfl) rfl) ?_
  refine Lo u19 (Zb (.inr rfl) rfl) ?_
  refine Zf (Zc (Zd (Za ?_)))
  refine Lo u19 (Zb (.inl rfl) rfl) ?_
  refine Lo u19 (Zb (.inl rfl) rfl) ?_
  refine Lo u19 (Zb (.inl rfl) rfl) ?_
  refine L_opX rfl rfl (v_ixD rfl rfl rfl rfl rfl rfl rfl hr (by omega) _) ?_
  rintro w _ ⟨rfl, hw⟩
  refine Le u19 ?_
  refine Lo u19 (YE rfl rfl rfl rfl hw.app) ?_
  refine Zn rfl rfl rfl (by exact within1_spec _ b n (Zk hb) (l.getD k 0)) ?_
  rintro _ _ ⟨rfl, rfl⟩
  refine Le u19 ?_
  refine Zf (Zc ?_)
  refine Zp _ rfl (fun hc2 => ?_) (fun hc2 => ?_)
  ·try simp only [qB, qN] at hc2
   refine Zd (Za ?_)
   refine Lo u19 (Zb (.inl rfl) rfl) ?_
   refine Lo u19 (Zb (.inr rfl) rfl) ?_
   refine Zf (Zc (Zl (ZN (Zq (Yf (ZN (Zq ?_)))))))
   refine W10 (.inr rfl) (Zi rfl rfl) ?_
   exact W57
  ·try simp only [qB, qN] at hc2
   refine Zj (Zx (Zc (Za ?_)))
   refine Lo u19 (W14 rfl rfl rfl) ?_
   refine Lo u19 (Zb (.inl rfl) rfl) ?_
   refine Zf ?_
   refine ZE (mk 19 523900) (env' := u19) rfl ⟨k + 1, ?_, rfl, ?_⟩
   ·first | omega | (simp only []; omega)
   ·exact ⟨⟨by omega, by rw [ltB_step (by omega), hi, decide_eq_true (by have h9 := hc2; simp at h9; omega)]; rfl⟩, rfl⟩
 ·try simp only [qB, qN] at hc1
  refine ZL (ZJ (ZA (ZK (Zc (Zd (Za ?_))))))
  refine Lo u19 (Zg (VVal.int .i64 (-1)) (.inr rfl) rfl) ?_
  refine Zf (Zc (Zl ?_))
  refine W10 (.inr rfl) (Zi rfl rfl) ?_
  exact W57
theorem ContainsFunc_spec {x : SW} (H : Ze) (rv : VVal) (l : List Int) (b n : Nat) (hb : H[b]? = some (.cells [iI (n : Nat)] true)) (hr : RD H rv l) (hn : l.length ≤ 1000000) : F (psys x) 108 [rv, .func 109 [] [.ptr (some (b, 0))]] H fun v G => v = .bool (!ltB l n) ∧ G = H := by
 refine Zr Tryd.func108 rfl u9 rfl ?_
 refine Zd (Za ?_)
 refine Lo u9 (Zg (VVal.bool false) (.inr rfl) rfl) ?_
 refine Zf (Zc (Zd (Za ?_)))
 refine Lo u9 (Zb (.inl rfl) rfl) ?_
 refine Lo u9 (Zb (.inl rfl) rfl) ?_
 refine Zn rfl rfl rfl (by exact IndexFunc_spec _ rv l b n (Zk hb) (hr.app _) hn) ?_
 rintro _ _ ⟨⟨r, rfl, hd⟩, rfl⟩
 refine Le u9 ?_
 refine Lo u9 (rfl) ?_
 refine Lo u9 (Zb (.inr rfl) rfl) ?_
 refine Zf (Zc (Zl ?_))
 refine W10 (.inr rfl) (Zi rfl rfl) ?_
 exact ⟨by rw [← hd], rfl⟩
theorem cwithin_spec {x : SW} (H : Ze) (rv : VVal) (l : List Int) (n : Nat) (hr : RD H rv l) (hn : l.length ≤ 1000000) : F (psys x) 68 [rv, iI (n : Nat)] H fun v G => v = .bool (ltB l n) ∧ G = H := by
 refine Zr Tryd.func68 rfl u9 rfl ?_
 refine Zd (Za ?_)
 refine Lo u9 (Zv rfl rfl rfl) ?_
 refine Lo u9 (Zg (VVal.bool false) (.inr rfl) rfl) ?_
 refine Zf (Zc (Zd (Za ?_)))
 refine Lo u9 (Zb (.inl rfl) rfl) ?_
 refine Lo u9 (v_func [_] rfl rfl) ?_
 refine Zn rfl rfl rfl (by exact ContainsFunc_spec _ rv l H.length n get_end (hr.app _) hn) ?_
 rintro _ _ ⟨rfl, rfl⟩
 refine Le u9 ?_
 refine Lo u9 (rfl) ?_
 refine Lo u9 (Zb (.inr rfl) rfl) ?_
 refine Zf (Zc (Zl ?_))
 refine W10 (.inr rfl) (Zi rfl rfl) ?_
 exact ⟨by rw [Bool.not_not], rfl⟩
theorem every_spec {x : SW} (H : Ze) (u : Int) (h0 : 0 ≤ u) : F (psys x) 71 [iI u] H fun v G => v = iW (allW u) ∧ G = H := by
 refine Zr Tryd.func71 rfl u6 rfl ?_
 refine Zd (Za ?_)
 refine Lo u6 (Zg (VVal.int .u64 0) (.inr rfl) rfl) ?_
 refine Zf (Zc (Zd (Za ?_)))
 refine Lo u6 (Zb (.inl rfl) rfl) ?_
 refine Lo u6 (v_shl1 rfl rfl rfl XH5) ?_
 refine Lo u6 (v_subW (b := 1#64) rfl rfl rfl) ?_
 refine Lo u6 (Zb (.inr rfl) rfl) ?_
 refine Zf (Zc (Zl ?_))
 refine W10 (.inr rfl) (Zi rfl rfl) ?_
 exact ⟨rfl, rfl⟩
abbrev u77 {a0 a1 a2 a3 a4 a5 a6 a7 a8 a9 a10 a11 a12 a13 a14 a15 a16 a17 a18 a19 a20 a21 a22 a23 a24 a25 a26 a27 a28 a29 a30 a31 a32 a33 a34 a35 a36 a37 a38 a39 a40 a41 a42 a43 a44 a45 a46 a47 a48 a49 a50 a51 a52 a53 a54 a55 a56 a57 a58 a59 a60 a61 a62 a63 a64 a65 a66 a67 a68 a69 a70 a71 a72 a73 a74 a75 a76 : VVal} : VEnv := a0 :: a1 :: a2 :: a3 :: a4 :: a5 :: a6 :: a7 :: a8 :: a9 :: a10 :: a11 :: a12 :: a13 :: a14 :: a15 :: a16 :: a17 :: a18 :: a19 :: a20 :: a21 :: a22 :: a23 :: a24 :: a25 :: a26 :: a27 :: a28 :: a29 :: a30 :: a31 :: a32 :: a33 :: a34 :: a35 :: a36 :: a37 :: a38 :: a39 :: a40 :: a41 :: a42 :: a43 :: a44 :: a45 :: a46 :: a47 :: a48 :: a49 :: a50 :: a51 :: a52 :: a53 :: a54 :: a55 :: a56 :: a57 :: a58 :: a59 :: a60 :: a61 :: a62 :: a63 :: a64 :: a65 :: a66 :: a67 :: a68 :: a69 :: a70 :: a71 :: a72 :: a73 :: a74 :: a75 :: a76 :: []
theorem W5a {S : V.Sys} {H : Ze} {fn : Func} {ex : Exit} {env : VEnv} {B L : Ze} {v : VVal} {R : VVal → Ze → Prop} (hx : ex = .normal ∨ ex = .ret) (hv : ZS S.C.T env (B ++ L) fn.results = some v) (h : R v B) (hB : BaseOk H B := by exact XH38) (hu : v.under H.length = true := by exact (show ((VVal.agg (pbB z0P)).under H.length && (true && true)) = true by rw [pb_under]; rfl)) : fnK S fn H R ex env (B ++ L) := E_app hx hv hB hu h
theorem W5b {P : Prop} (h : P := by first | exact ⟨by rw [woP_no he]; unfold woE; rw [if_pos (by assumption)]; rfl, rfl⟩ | exact ⟨by rw [woP_no he, woE_1 he (by assumption)]; rfl, rfl⟩) : P := h
theorem W5e {T : TypeId → Option VTy} {H : Ze} {op : Op} {ρ : Operand → VVal} {t : TypeId} {a : Operand} {y : VTy} {p v : VVal} (ho : op = .load t a) (ha : ρ a = p) (hy : T t = some y) (hd : Zm y.desc = false) (h : LdOk H p v := by first | exact .inl ⟨_, _, rfl, XH36⟩ | exact .inr ⟨_, _, _, _, rfl, by exact getQ rfl, XH36⟩) : vop T ρ H op = some (v, H) := YE ho ha hy hd h
theorem W5f {T : TypeId → Option VTy} {H : Ze} {op : Op} {ρ : VEnv} {H' : Ze} {t : TypeId} {a : Operand} {i : Nat} {v : VVal} {y : VTy} {b off : Nat} {cs new : List VVal} (ho : op = .store t a (.tmp i)) (hv : ρ[i]? = some v) (ha : ρ.eval a = .ptr (some (b, off))) (hy : T t = some y) (hx : v.cells = some new) (hn : new.length = y.size) (h1 : new.all VVal.one = true) (hb : H[b]? = some (.cells cs true) := by exact getQ rfl) (hl : off + new.length ≤ cs.length := by exact XH37) (hH : H.set b (.cells (ZD cs off new) true) = H' := by exact setQ rfl) : vop T ρ.eval H op = some (.skip, H') := Z0 ho hv ha hy hx hn h1 hb hl hH
theorem W5h {T : TypeId → Option VTy} {H : Ze} {op : Op} {ρ : Operand → VVal} {t : TypeId} {a : Operand} {y : VTy} {p v : VVal} (ho : op = .load t a) (ha : ρ a = p) (hy : T t = some y) (hd : Zm y.desc = false) (h : LdOk H p v := by first | exact .inl ⟨_, _, rfl, XH36⟩ | exact .inr ⟨_, _, _, _, rfl, by exact Zy rfl (Zk (get_endE (by first | exact hZl | (rw [List.length_set]; exact hZl)))), XH36⟩) : vop T ρ H op = some (v, H) := YE ho ha hy hd h
theorem W5i {T : TypeId → Option VTy} {H : Ze} {op : Op} {ρ : VEnv} {H' : Ze} {t : TypeId} {a : Operand} {i : Nat} {v : VVal} {y : VTy} {b off : Nat} {cs new : List VVal} (ho : op = .store t a (.tmp i)) (hv : ρ[i]? = some v) (ha : ρ.eval a = .ptr (some (b, off))) (hy : T t = some y) (hx : v.cells = some new) (hn : new.length = y.size) (h1 : new.all VVal.one = true) (hb : H[b]? = some (.cells cs true) := by exact Zy rfl (Zk (Zk hZ1))) (hl : off + new.length ≤ cs.length := by show 0 + ((i : Nat) : Int).toNat * 1 + 1 ≤ _; rw [List.length_map, mpW_len]; omega) (hH : H.set b (.cells (ZD cs off new) true) = H' := by exact (ZI rfl).trans (by rw [Yd (by simp; have := Zw hZ1; omega), Yd (Zw hZ1)])) : vop T ρ.eval H op = some (.skip, H') := Z0 ho hv ha hy hx hn h1 hb hl hH
theorem W5j {T : TypeId → Option VTy} {H : Ze} {op : Op} {ρ : Operand → VVal} {t : TypeId} {a : Operand} {y : VTy} {p : VVal} {n : Nat} {vs : List VVal} (ho : op = .load t a) (ha : ρ a = p) (hy : T t = some y) (hd : Zm y.desc = true) (hn : y.size = n) (h : LdOkA H p n vs := by first | exact .inl ⟨_, _, rfl, XH36⟩ | exact .inr ⟨_, _, _, _, rfl, by first | exact Zy rfl (Zk (get_endE hZl)) | exact Zy rfl (List.getElem?_set_self (by simp; omega)), XH36⟩) : vop T ρ H op = some (.agg vs, H) := v_ldA ho ha hy hd hn h
theorem W5k {T : TypeId → Option VTy} {H : Ze} {op : Op} {ρ : VEnv} {H' : Ze} {t : TypeId} {a : Operand} {i : Nat} {v : VVal} {y : VTy} {b off : Nat} {cs new : List VVal} (ho : op = .store t a (.tmp i)) (hv : ρ[i]? = some v) (ha : ρ.eval a = .ptr (some (b, off))) (hy : T t = some y) (hx : v.cells = some new) (hn : new.length = y.size) (h1 : new.all VVal.one = true) (hb : H[b]? = some (.cells cs true) := by exact getB rfl rfl) (hl : off + new.length ≤ cs.length := by exact XH37) (hH : H.set b (.cells (ZD cs off new) true) = H' := by exact setB rfl (show 1 < 2 by decide)) : vop T ρ.eval H op = some (.skip, H') := Z0 ho hv ha hy hx hn h1 hb hl hH
theorem W5l {S : V.Sys} {H : Ze} {fn : Func} {ex : Exit} {env : VEnv} {B L : Ze} {v : VVal} {R : VVal → Ze → Prop} (hx : ex = .normal ∨ ex = .ret) (hv : ZS S.C.T env (B ++ L) fn.results = some v) (h : R v B) (hB : BaseOk H B := by exact XH38) (hu : v.under H.length = true := by exact (show ((VVal.agg (pbB (woQ p rs ss))).under H.length && (true && true)) = true by rw [pb_under]; rfl)) : fnK S fn H R ex env (B ++ L) := E_app hx hv hB hu h
theorem W5m {S : V.Sys} {H : Ze} {fn : Func} {ex : Exit} {env : VEnv} {B L : Ze} {v : VVal} {R : VVal → Ze → Prop} (hx : ex = .normal ∨ ex = .ret) (hv : ZS S.C.T env (B ++ L) fn.results = some v) (h : R v B) (hB : BaseOk H B := by exact XH38) (hu : v.under H.length = true := by exact (show ((VVal.agg (pbB (p.users, p.who, p.fixed, [], ()))).under H.length && (true && true)) = true by rw [pb_under]; rfl)) : fnK S fn H R ex env (B ++ L) := E_app hx hv hB hu h
abbrev t6c : VBlk := pqB 0 Yo Yo Yo
def WtR (H : Ze) (p : Pb) (rs ss : List Int) (v : VVal) (G : Ze) : Prop := ∃ Y j k, v = .tuple [.agg [iI p.users, .slice (some (H.length + j, 0)) p.who.length p.who.length false 1, .slice (some (H.length + k, 0)) p.who.length p.who.length false 1, fzR (mpR p rs p.rules.length)], iI 0] ∧ G = H ++ Y ∧ Y[j]? = some (.cells ((mpW p (inB ss)).map iW) true) ∧ Y[k]? = some (.cells ((mpF p (inB ss)).map iI) true) ∧ j ≠ k
theorem stepW {p : Pb} {ss : List Int} {s i : Nat} (hi : i < p.who.length) (h : s < ss.length) (e : ss.getD s 0 = (i : Int)) : ZD ((mpW p (inB (ss.take s))).map iW) (0 + ((i : Nat) : Int).toNat * 1) [iW (allW p.users)] = (mpW p (inB (ss.take (s + 1)))).map iW := by
  rw [Int.toNat_natCast, spl_W (by rw [mpW_len]; exact hi), mpW_set, inB_step h e]
theorem stepF {p : Pb} {ss : List Int} {s i : Nat} (hi : i < p.who.length) (h : s < ss.length) (e : ss.getD s 0 = (i : Int)) : ZD ((mpF p (inB (ss.take s))).map iI) (0 + ((i : Nat) : Int).toNat * 1) [iI (-1)] = (mpF p (inB (ss.take (s + 1)))).map iI := by
  rw [Int.toNat_natCast, spl_I' (by rw [mpF_len]; exact hi), mpF_set, inB_step h e]
theorem woP_0 {p : Pb} (g : Go.V.Good p) (h : p.who = []) : p.fixed = [] ∧ p.rules = [] := by
  refine ⟨List.eq_nil_of_length_eq_zero (by rw [g.fx, h]; rfl), ?_⟩
  cases hr : p.rules with
  | nil => rfl
  | cons r l =>
    have := g.ru r (by rw [hr]; simp)
    have h1 := (rck_steps this).1
    have h2 : ∀ x, x ∈ r.steps → 0 ≤ x ∧ x < (p.who.length : Int) := fun x hx => by
      unfold rck at this
      rw [Bool.and_eq_true, Bool.and_eq_true] at this
      have := YO _ _ this.2.1 x hx; omega
    cases hs : r.steps with
    | nil => exact absurd hs h1
    | cons x m => have := h2 x (by rw [hs]; simp); rw [h] at this; exact absurd this (by simp)
theorem ltB_0 {l : List Int} (h : ltB l 0 = true) : l = [] := by
  cases l with
  | nil => rfl
  | cons x m => have := ltB_mem.1 h x (by simp); omega
theorem woE_1 {p : Pb} {rs ss : List Int} (he : ¬ woE p rs ss = 0) (h : pck p = 0) : woE p rs ss = 1 := by
  unfold woE at he ⊢
  rw [if_neg (fun e => e h)] at he ⊢
  split at he
  · exact absurd rfl he
  · rename_i h2; rw [if_neg h2]
theorem woQ_0 {p : Pb} {rs ss : List Int} (g : Go.V.Good p) (h : p.who = []) : woQ p rs ss = (p.users, p.who, p.fixed, [], ()) := by
  obtain ⟨h1, h2⟩ := woP_0 g h
  have e : p.rules.length = 0 := by rw [h2]; rfl
  unfold woQ
  rw [List.eq_nil_of_length_eq_zero (l := mpW p (inB ss)) (by rw [mpW_len, h]; rfl), List.eq_nil_of_length_eq_zero (l := mpF p (inB ss)) (by rw [mpF_len, h]; rfl), List.eq_nil_of_length_eq_zero (l := mpR p rs p.rules.length) (by have := @mpR_len p rs p.rules.length; omega), h, h1]
theorem Without_e {x : SW} (H : Ze) (p : Pb) (rv sv : VVal) (rs ss : List Int) (hp : PbL p) (hr : RD H rv rs) (hs : RD H sv ss) (hrl : rs.length ≤ 1000000) (hsl : ss.length ≤ 1000000) (he : ¬ woE p rs ss = 0) : F (psys x) 27 [.agg (pbB p), rv, sv] H fun v G => v = .tuple [.agg (pbB (woP p rs ss)), iI (woE p rs ss)] ∧ G = H := by
 refine Zr Tryd.func27 rfl u77 rfl ?_
 refine Zd (Za ?_)
 refine Lo u77 (Zv rfl rfl rfl) ?_
 refine Lo u77 (Zs rfl rfl) ?_
 refine Lo u77 (Zg (VVal.int .i64 0) (.inr rfl) rfl) ?_
 refine Zf (Zc (Zd (Zd ?_)))
 refine Z5 (Gh.freezePtrL (cs := pbB p) 3 0 rfl rfl rfl) ?_
 refine Za ?_
 refine Lo u77 (W24 rfl rfl rfl rfl rfl) ?_
 refine Zn rfl rfl rfl (by exact Ye _ p hp) ?_
 rintro _ _ ⟨rfl, rfl⟩
 refine Le u77 ?_
 refine Lo u77 (Zb (.inr rfl) rfl) ?_
 refine Zf (Zc (Zd (Za ?_)))
 refine Lo u77 (Zb (.inl rfl) rfl) ?_
 refine Lo u77 (rfl) ?_
 refine Zf (Zc ?_)
 refine Zp _ rfl (fun hc1 => ?_) (fun hc1 => ?_)
 ·try simp only [qB, qN] at hc1
  refine Zd (Za ?_)
  refine Lo u77 (rfl) ?_
  refine Lo u77 (Zb (.inl rfl) rfl) ?_
  refine Lo u77 (W13 rfl rfl rfl rfl rfl rfl rfl) ?_
  refine Lo u77 (Zb (.inr rfl) rfl) ?_
  refine Zf (Zc ?_)
  refine Z5 (Gh.cellNilL 1 1 (es' := 1) rfl rfl) ?_
  refine Z5 (Gh.cellNilL 1 2 (es' := 1) rfl rfl) ?_
  refine Z5 (Gh.cellNilL 1 3 (es' := 3) rfl rfl) ?_
  refine Zl (Zq ?_)
  refine W5a (.inr rfl) (Yr rfl rfl rfl rfl XH12 XH4 rfl) ?_
  exact W5b
 ·try simp only [qB, qN] at hc1
  refine Zj (Zc (Zd (Zd (Za ?_))))
  refine Lo u77 (Zb (.inl rfl) rfl) ?_
  refine Lo u77 (rfl) ?_
  refine Lo u77 (W26 rfl rfl rfl rfl) ?_
  refine Lo u77 (rfl) ?_
  refine Zn rfl rfl rfl XH33 ?_
  rintro _ _ ⟨rfl, rfl⟩
  refine Le u77 ?_
  refine Lo u77 (rfl) ?_
  refine Lo u77 (Zb (.inl rfl) rfl) ?_
  refine ZQ 26 (env1 := u77) (env2 := u77) rfl rfl rfl (fun hg2 => ?_) (fun hg2 => ?_)
  ·try simp only [qB, qN] at hg2
   refine Lf u77 ?_
   refine Lf u77 ?_
   refine Lf u77 ?_
   refine Lf u77 ?_
   refine Lf u77 ?_
   refine Lf u77 ?_
   refine Lo u77 (Yh (VVal.bool true) rfl rfl rfl) ?_
   refine Zf (Zc ?_)
   refine ZX rfl rfl ?_
   refine Zd (Za ?_)
   refine Lo u77 (rfl) ?_
   refine Lo u77 (W13 rfl rfl rfl rfl rfl rfl rfl) ?_
   refine Lo u77 (Zg (VVal.int .i64 1) (.inr rfl) rfl) ?_
   refine Zf (Zc ?_)
   refine Z5 (Gh.cellNilL 1 1 (es' := 1) rfl rfl) ?_
   refine Z5 (Gh.cellNilL 1 2 (es' := 1) rfl rfl) ?_
   refine Z5 (Gh.cellNilL 1 3 (es' := 3) rfl rfl) ?_
   refine Zl (Zq ?_)
   refine W5a (.inr rfl) (Yr rfl rfl rfl rfl XH12 XH4 rfl) ?_
   exact W5b
  ·try simp only [qB, qN] at hg2
   refine Lo u77 (Zb (.inl rfl) rfl) ?_
   refine Lo u77 (rfl) ?_
   refine Lo u77 (W26 rfl rfl rfl rfl) ?_
   refine Lo u77 (rfl) ?_
   refine Zn rfl rfl rfl XH15 ?_
   rintro _ _ ⟨rfl, rfl⟩
   refine Le u77 ?_
   refine Lo u77 (rfl) ?_
   refine Lo u77 (ZP rfl rfl rfl) ?_
   refine Zf (Zc ?_)
   refine Zp _ rfl (fun hc3 => ?_) (fun hc3 => ?_)
   ·try simp only [qB, qN] at hc3
    refine Zd (Za ?_)
    refine Lo u77 (rfl) ?_
    refine Lo u77 (W13 rfl rfl rfl rfl rfl rfl rfl) ?_
    refine Lo u77 (Zg (VVal.int .i64 1) (.inr rfl) rfl) ?_
    refine Zf (Zc ?_)
    refine Z5 (Gh.cellNilL 1 1 (es' := 1) rfl rfl) ?_
    refine Z5 (Gh.cellNilL 1 2 (es' := 1) rfl rfl) ?_
    refine Z5 (Gh.cellNilL 1 3 (es' := 3) rfl rfl) ?_
    refine Zl (Zq ?_)
    refine W5a (.inr rfl) (Yr rfl rfl rfl rfl XH12 XH4 rfl) ?_
    exact W5b
   ·try simp only [qB, qN] at hc3
    exfalso
    first | exact he (woE_ok.2 ⟨pck_good.1 (by assumption), by simpa using hg2, by simpa using hc3⟩) | simp_all
theorem Without_L {x : SW} (H : Ze) (p : Pb) (rv sv : VVal) (rs ss : List Int) (hp : PbL p) (hr : RD H rv rs) (hs : RD H sv ss) (hrl : rs.length ≤ 1000000) (hsl : ss.length ≤ 1000000) (he : woE p rs ss = 0) (hne : 0 < p.who.length) : F (psys x) 27 [.agg (pbB p), rv, sv] H (WtR H p rs ss) := by
 obtain ⟨g, hlr, hls⟩ := woE_ok.1 he
 have g5 := g.fx; have h4 := g.r32; have h6 := g.n12
 refine Zr Tryd.func27 rfl u77 rfl ?_
 refine Zd (Za ?_)
 refine Lo u77 (Zv rfl rfl rfl) ?_
 refine Lo u77 (Zs rfl rfl) ?_
 refine Lo u77 (Zg (VVal.int .i64 0) (.inr rfl) rfl) ?_
 refine Zf (Zc (Zd (Zd ?_)))
 refine Z5 (Gh.freezePtrL (cs := pbB p) 3 0 rfl rfl rfl) ?_
 refine Za ?_
 refine Lo u77 (W24 rfl rfl rfl rfl rfl) ?_
 refine Zn rfl rfl rfl (by exact Ye _ p hp) ?_
 rintro _ _ ⟨rfl, rfl⟩
 refine Le u77 ?_
 refine Lo u77 (Zb (.inr rfl) rfl) ?_
 refine Zf (Zc (Zd (Za ?_)))
 refine Lo u77 (Zb (.inl rfl) rfl) ?_
 refine Lo u77 (Yn false rfl (by rw [pck_good.2 g]; rfl)) ?_
 refine Zf (Zc ?_)
 refine ZG rfl rfl ?_
 refine Zj (Zc (Zd (Zd (Za ?_))))
 refine Lo u77 (Zb (.inl rfl) rfl) ?_
 refine Lo u77 (rfl) ?_
 refine Lo u77 (W26 rfl rfl rfl rfl) ?_
 refine Lo u77 (rfl) ?_
 refine Zn rfl rfl rfl XH33 ?_
 rintro v _ ⟨hv, rfl⟩; rw [hlr] at hv; subst hv
 refine Le u77 ?_
 refine Lo u77 (rfl) ?_
 refine Lo u77 (Zb (.inl rfl) rfl) ?_
 refine Lo u77 (Zb (.inl rfl) rfl) ?_
 refine Lo u77 (rfl) ?_
 refine Lo u77 (W26 rfl rfl rfl rfl) ?_
 refine Lo u77 (rfl) ?_
 refine Zn rfl rfl rfl XH15 ?_
 rintro v _ ⟨hv, rfl⟩; rw [hls] at hv; subst hv
 refine Le u77 ?_
 refine Lo u77 (rfl) ?_
 refine Lo u77 (ZP rfl rfl rfl) ?_
 refine Zf (Zc ?_)
 refine ZG rfl rfl ?_
 refine Zj (Zc (Zd (Za ?_)))
 refine Lo u77 (W24 rfl rfl rfl rfl rfl) ?_
 refine Zn rfl rfl rfl (by exact Copy_L _ p hp (fun e => by rw [e] at hne; cases hne) (fun e => by rw [e] at g5; simp at g5; omega)) ?_
 rintro _ _ ⟨Y, j, k, rfl, rfl, hY1, hY2, hjk⟩
 refine Le u77 ?_
 refine Lo u77 (Zs rfl rfl) ?_
 refine Lo u77 (W13 rfl rfl rfl rfl rfl rfl rfl) ?_
 refine Zf (Zc (Zd (Za ?_)))
 refine Lo u77 (rfl) ?_
 refine Lo u77 (Yg (VVal.slice none 0 0 true 0) rfl rfl rfl rfl rfl rfl rfl XH0 XH6 XH3) ?_
 refine Zf (Zc (Zd (Zd (Za ?_))))
 refine Lo u77 (W24 rfl rfl rfl rfl rfl) ?_
 refine Zn rfl rfl rfl (by exact Copy_F _ p hp) ?_
 rintro _ _ ⟨rfl, rfl⟩
 refine Le u77 ?_
 refine Lo u77 (rfl) ?_
 refine Lo u77 (rfl) ?_
 refine Lo u77 (Zg (VVal.int .i64 0) (.inl rfl) rfl) ?_
 refine Zf (Zc (Zo ?_))
 refine ZB (mk 77 151115727444132065443249) (env' := u77) rfl ?_
 refine ZF (fun (i : Nat) => p.rules.length - i) (fun (i : Nat) => [(42, iI (i : Nat))]) (fun (i : Nat) G => (i ≤ p.rules.length) ∧ ∃ lv X, G = ((H ++ [.dead, t6c]) ++ (Y ++ [.cells [iI p.users, .slice (some ((H ++ [.dead, t6c]).length + j, 0)) p.who.length p.who.length false 1, .slice (some ((H ++ [.dead, t6c]).length + k, 0)) p.fixed.length p.fixed.length false 1, lv] true])) ++ X ∧ LV (H.length + 2 + (Y.length + 1)) 3 X lv ((mpR p rs i).flatMap rlB) (mpR p rs i).length) 0 rfl ?_ ?_
 ·refine ⟨?_, ⟨_, [], by rw [List.append_nil]; rfl, LV.nil _ _ _⟩⟩
  exact Nat.zero_le _
 rintro i _ ⟨hi, ⟨lv, X, rfl, hl⟩⟩
 refine ZU (env' := u77) rfl ?_
 refine Zd (Za ?_)
 refine Lo u77 (rfl) ?_
 refine Zf (Zc (Zd ?_))
 refine Zp _ rfl (fun hc1 => ?_) (fun hc1 => ?_)
 ·try simp only [qB, qN] at hc1
  refine Zj (Zc (Zd (Zo (Zd (Za ?_)))))
  refine Lo u77 (Zb (.inl rfl) rfl) ?_
  refine Lo u77 (W18 rfl rfl rfl rfl rfl rfl rfl) ?_
  refine Lo u77 (W24 rfl rfl rfl rfl rfl) ?_
  refine Lo u77 (Zs rfl rfl) ?_
  refine Lo u77 (Zb (.inr rfl) rfl) ?_
  refine Lo u77 (W13 rfl rfl rfl rfl rfl rfl rfl) ?_
  refine Zf (Zc (Zd (Za ?_)))
  refine Lo u77 (Zb (.inl rfl) rfl) ?_
  refine Lo u77 (Zb (.inl rfl) rfl) ?_
  refine Zn rfl rfl rfl (by exact Contains_spec _ _ rs i XH13 hrl) ?_
  rintro _ _ ⟨rfl, rfl⟩
  refine Le u77 ?_
  refine Lo u77 (rfl) ?_
  refine Zf (Zc ?_)
  refine Zp _ rfl (fun hc2 => ?_) (fun hc2 => ?_)
  ·try simp only [qB, qN] at hc2
   refine Za ?_
   refine Lo u77 (rfl) ?_
   refine Lo u77 (W5e rfl rfl rfl rfl) ?_
   refine Lo u77 (W24 rfl rfl rfl rfl rfl) ?_
   refine Lo u77 (ZC rfl rfl (by decide) rfl) ?_
   refine L_opX rfl rfl (YG rfl rfl rfl rfl rfl rfl rfl (by simp; omega) (hl.app _) rfl rfl (by decide) (by have := @mpR_len p rs i; show (_ + 1) * 40 ≤ _ ∧ _ + 1 ≤ _; omega) (by decide)) ?_
   rintro _ _ ⟨Y1, rfl, rfl, hX1, hX2, hX3⟩
   refine Le u77 ?_
   refine Lo u77 (rfl) ?_
   refine Lo u77 (W5f rfl rfl rfl rfl rfl rfl rfl) ?_
   refine Zf (Zx (Zc (Za ?_)))
   refine Lo u77 (W14 rfl rfl rfl) ?_
   refine Lo u77 (Zb (.inl rfl) rfl) ?_
   refine Zf ?_
   refine ZE (mk 77 151115727444132065443249) (env' := u77) rfl ⟨i + 1, ?_, rfl, ?_⟩
   ·first | omega | (simp only []; omega)
   ·first | exact ⟨by omega, _, _, rfl, by rw [mpR_step, if_neg (by simp_all)]; exact LV.pushF hX3⟩ | exact ⟨by omega, _, _, rfl, by rw [mpR_step, if_pos (by simp_all), List.append_nil]; exact hl.app _⟩
  ·try simp only [qB, qN] at hc2
   refine Zj (Zx (Zc (Za ?_)))
   refine Lo u77 (W14 rfl rfl rfl) ?_
   refine Lo u77 (Zb (.inl rfl) rfl) ?_
   refine Zf ?_
   refine ZE (mk 77 151115727444132065443249) (env' := u77) rfl ⟨i + 1, ?_, rfl, ?_⟩
   ·first | omega | (simp only []; omega)
   ·first | exact ⟨by omega, _, _, rfl, by rw [mpR_step, if_neg (by simp_all)]; exact LV.pushF hX3⟩ | exact ⟨by omega, _, _, rfl, by rw [mpR_step, if_pos (by simp_all), List.append_nil]; exact hl.app _⟩
 ·try simp only [qB, qN] at hc1
  refine ZL (ZJ (ZA (ZK (Zc (Zd (Zd ?_))))))
  obtain rfl : i = p.rules.length := by omega
  refine B_ghCell (H := (H ++ [.dead, t6c])) (L := Y ++ [.cells [iI p.users, .slice (some ((H ++ [.dead, t6c]).length + j, 0)) p.who.length p.who.length false 1, .slice (some ((H ++ [.dead, t6c]).length + k, 0)) p.fixed.length p.fixed.length false 1, lv] true]) Y.length 3 hl get_end rfl (by simp; omega) fun X5 _ _ => ?_
  rw [set_end]
  refine Yl (List.append_assoc _ _ _) ?_
  refine Za ?_
  refine Lo u77 (Zb (.inl rfl) rfl) ?_
  refine Lo u77 (v_lenD rfl rfl rfl rfl hs) ?_
  refine Lo u77 (Zg (VVal.int .i64 0) (.inl rfl) rfl) ?_
  refine Zf (Zc (Zo ?_))
  refine ZB (mk 77 151113709839195584855479) (env' := u77) rfl ?_
  refine ZF (fun (s : Nat) => ss.length - s) (fun (s : Nat) => [(60, iI (s : Nat))]) (fun (s : Nat) G => (s ≤ ss.length) ∧ ∃ Z, G = (H ++ [.dead, t6c]) ++ ((Z ++ [.cells [iI p.users, .slice (some ((H ++ [.dead, t6c]).length + j, 0)) p.who.length p.who.length false 1, .slice (some ((H ++ [.dead, t6c]).length + k, 0)) p.fixed.length p.fixed.length false 1, fzR (mpR p rs p.rules.length)] true]) ++ X5) ∧ Z.length = Y.length ∧ Z[j]? = some (.cells ((mpW p (inB (ss.take s))).map iW) true) ∧ Z[k]? = some (.cells ((mpF p (inB (ss.take s))).map iI) true)) 0 rfl ?_ ?_
  ·refine ⟨?_, ⟨Y, rfl, rfl, by rw [show inB (ss.take 0) = fun _ => false from rfl, mpW_no]; exact hY1, by rw [show inB (ss.take 0) = fun _ => false from rfl, mpF_no g5]; exact hY2⟩⟩
   exact Nat.zero_le _
  rintro s _ ⟨hs9, ⟨Z, rfl, hZl, hZ1, hZ2⟩⟩
  refine ZU (env' := u77) rfl ?_
  refine Zd (Za ?_)
  refine Lo u77 (rfl) ?_
  refine Zf (Zc (Zd ?_))
  refine Zp _ rfl (fun hc3 => ?_) (fun hc3 => ?_)
  ·try simp only [qB, qN] at hc3
   refine Zj (Zc (Zd (Zo (Zd (Za ?_)))))
   refine L_opX rfl rfl (v_ixD rfl rfl rfl rfl rfl rfl rfl (hs.app _) (by omega) _) ?_
   rintro w _ ⟨rfl, hw⟩
   refine Le u77 ?_
   refine Lo u77 (YE rfl rfl rfl rfl hw.app) ?_
   refine Lo u77 (Zb (.inr rfl) rfl) ?_
   refine Zf (Zc ?_)
   obtain ⟨i, hi1, hi2⟩ := ltB_at hls (show s < ss.length by omega)
   rw [hi1]
   refine ZY [0, 1, 2, 3, 4, 5, 6, 7, 8, 9, 10, 11, 12] #[0, 1, 0, 0, 8, 0, 0, 64, 192, 455, 967, 2047, 4095] XH2 XH2 XH2 ?_
   refine Oo u77 .calm rfl (rfl) ?_
   refine Z6 (env' := u77) (x := .look _ _) rfl rfl rfl (W5h rfl rfl rfl rfl) rfl rfl rfl ?_
   refine Oo u77 .calm rfl (Zb (.inl rfl) rfl) ?_
   refine Oo u77 .calm rfl (rfl) ?_
   refine Z6 (env' := u77) (x := .look _ _) rfl rfl rfl (W5h rfl rfl rfl rfl) rfl rfl rfl ?_
   refine Oo u77 .calm rfl (Zb (.inl rfl) rfl) ?_
   refine Oo u77 .calm rfl (rfl) ?_
   refine Oo u77 .look rfl (W26 rfl rfl rfl rfl) ?_
   refine ZZ (env' := u77) rfl rfl rfl rfl rfl (by exact every_spec _ _ g.u0) XH8 rfl rfl ?_
   refine Oo u77 .calm rfl (W18 rfl rfl rfl rfl rfl rfl rfl) ?_
   refine Z6 (env' := u77) (x := .turn _ _) rfl rfl rfl (W5i rfl rfl rfl rfl rfl rfl rfl) rfl rfl rfl ?_
   refine Oo u77 .calm rfl (W18 rfl rfl rfl rfl rfl rfl rfl) ?_
   refine Oo u77 .turn rfl (Yg (VVal.int .i64 (-1)) rfl rfl rfl rfl rfl rfl rfl (by exact Zy rfl (Zk (Zk (by rw [List.getElem?_set_ne hjk]; exact hZ2)))) (by show 0 + ((i : Nat) : Int).toNat * 1 + 1 ≤ _; rw [List.length_map, mpF_len]; omega) XH29) ?_
   refine O_nilP [(1, 8), (4, 8), (4, 10)] XH2 (And.intro ⟨_, _, _, _, ⟨(gA (gA (gA (gA (gA (gA (gA (gA (gA (gA (gA (gL XH2)))))))))))), (gA (gA (gA (gA (gL XH2))))), And.intro (W5h rfl rfl rfl rfl) (W5h rfl rfl rfl rfl)⟩⟩ (And.intro ⟨_, _, _, _, ⟨(gA (gA (gA (gA (gA (gA (gA (gA (gL XH2))))))))), (gA (gA (gA (gA (gL XH2))))), And.intro (W5h rfl rfl rfl rfl) (W5h rfl rfl rfl rfl)⟩⟩ (And.intro ⟨_, _, _, _, ⟨(gA (gA (gA (gA (gA (gA (gA (gA (gL XH2))))))))), (gA (gA (gL XH2))), And.intro (W5h rfl rfl rfl rfl) (W5h rfl rfl rfl rfl)⟩⟩ (trivial)))) ?_
   refine Zx (Zc (Za ?_))
   refine Lo u77 (W14 rfl rfl rfl) ?_
   refine Lo u77 (Zb (.inl rfl) rfl) ?_
   refine Zf ?_
   refine ZE (mk 77 151113709839195584855479) (env' := u77) rfl ⟨s + 1, ?_, rfl, ?_⟩
   ·first | omega | (simp only []; omega)
   ·exact ⟨by omega, _, rfl, by rw [List.length_set, List.length_set]; exact hZl, by rw [List.getElem?_set_ne (Ne.symm hjk), List.getElem?_set_self (Zw hZ1)]; exact congrArg (fun l => some (VBlk.cells l true)) (stepW hi2 (by omega) hi1), by rw [List.getElem?_set_self (by rw [List.length_set]; exact Zw hZ2)]; exact congrArg (fun l => some (VBlk.cells l true)) (stepF hi2 (by omega) hi1)⟩
  ·try simp only [qB, qN] at hc3
   refine ZL (ZJ (ZA (ZK (Zc (Zd ?_)))))
   obtain rfl : s = ss.length := by omega
   rw [List.take_length] at hZ1 hZ2
   refine Za ?_
   refine Lo u77 (W5j rfl rfl rfl rfl rfl) ?_
   refine Lo u77 (W5k rfl rfl rfl rfl rfl rfl rfl) ?_
   refine Lo u77 (Zg (VVal.int .i64 0) (.inr rfl) rfl) ?_
   refine Zf (Zc (Zl ?_))
   refine E_keep (.inr rfl) (Yr rfl rfl rfl rfl XH12 XH4 rfl) ?_
   exact ⟨_, 2 + j, 2 + k, (show VVal.tuple [.agg [iI p.users, .slice (some ((H ++ [.dead, t6c]).length + j, 0)) p.who.length p.who.length false 1, .slice (some ((H ++ [.dead, t6c]).length + k, 0)) p.fixed.length p.fixed.length false 1, fzR (mpR p rs p.rules.length)], iI 0] = _ from by rw [g5, show (H ++ [.dead, t6c]).length + j = H.length + (2 + j) by (rw [List.length_append]; show H.length + 2 + j = _; omega), show (H ++ [.dead, t6c]).length + k = H.length + (2 + k) by (rw [List.length_append]; show H.length + 2 + k = _; omega)]), List.append_assoc _ _ _, Zy rfl (Zk (Zk hZ1)), Zy rfl (Zk (Zk hZ2)), by omega⟩
theorem Without_F {x : SW} (H : Ze) (p : Pb) (rv sv : VVal) (rs ss : List Int) (hp : PbL p) (hr : RD H rv rs) (hs : RD H sv ss) (hrl : rs.length ≤ 1000000) (hsl : ss.length ≤ 1000000) (he : woE p rs ss = 0) (hne : 0 < p.who.length) : F (psys x) 27 [.agg (pbB p), rv, sv] H fun v G => v = .tuple [.agg (pbB (woP p rs ss)), iI (woE p rs ss)] ∧ G = H := by
 obtain ⟨g, hlr, hls⟩ := woE_ok.1 he
 have g5 := g.fx; have h4 := g.r32; have h6 := g.n12
 refine Zr Tryd.func27 rfl u77 rfl ?_
 refine Zd (Za ?_)
 refine Lo u77 (Zv rfl rfl rfl) ?_
 refine Lo u77 (Zs rfl rfl) ?_
 refine Lo u77 (Zg (VVal.int .i64 0) (.inr rfl) rfl) ?_
 refine Zf (Zc (Zd (Zd ?_)))
 refine Z5 (Gh.freezePtrL (cs := pbB p) 3 0 rfl rfl rfl) ?_
 refine Za ?_
 refine Lo u77 (W24 rfl rfl rfl rfl rfl) ?_
 refine Zn rfl rfl rfl (by exact Ye _ p hp) ?_
 rintro _ _ ⟨rfl, rfl⟩
 refine Le u77 ?_
 refine Lo u77 (Zb (.inr rfl) rfl) ?_
 refine Zf (Zc (Zd (Za ?_)))
 refine Lo u77 (Zb (.inl rfl) rfl) ?_
 refine Lo u77 (Yn false rfl (by rw [pck_good.2 g]; rfl)) ?_
 refine Zf (Zc ?_)
 refine ZG rfl rfl ?_
 refine Zj (Zc (Zd (Zd (Za ?_))))
 refine Lo u77 (Zb (.inl rfl) rfl) ?_
 refine Lo u77 (rfl) ?_
 refine Lo u77 (W26 rfl rfl rfl rfl) ?_
 refine Lo u77 (rfl) ?_
 refine Zn rfl rfl rfl XH33 ?_
 rintro v _ ⟨hv, rfl⟩; rw [hlr] at hv; subst hv
 refine Le u77 ?_
 refine Lo u77 (rfl) ?_
 refine Lo u77 (Zb (.inl rfl) rfl) ?_
 refine Lo u77 (Zb (.inl rfl) rfl) ?_
 refine Lo u77 (rfl) ?_
 refine Lo u77 (W26 rfl rfl rfl rfl) ?_
 refine Lo u77 (rfl) ?_
 refine Zn rfl rfl rfl XH15 ?_
 rintro v _ ⟨hv, rfl⟩; rw [hls] at hv; subst hv
 refine Le u77 ?_
 refine Lo u77 (rfl) ?_
 refine Lo u77 (ZP rfl rfl rfl) ?_
 refine Zf (Zc ?_)
 refine ZG rfl rfl ?_
 refine Zj (Zc (Zd (Za ?_)))
 refine Lo u77 (W24 rfl rfl rfl rfl rfl) ?_
 refine Zn rfl rfl rfl (by exact Copy_L _ p hp (fun e => by rw [e] at hne; cases hne) (fun e => by rw [e] at g5; simp at g5; omega)) ?_
 rintro _ _ ⟨Y, j, k, rfl, rfl, hY1, hY2, hjk⟩
 refine Le u77 ?_
 refine Lo u77 (Zs rfl rfl) ?_
 refine Lo u77 (W13 rfl rfl rfl rfl rfl rfl rfl) ?_
 refine Zf (Zc (Zd (Za ?_)))
 refine Lo u77 (rfl) ?_
 refine Lo u77 (Yg (VVal.slice none 0 0 true 0) rfl rfl rfl rfl rfl rfl rfl XH0 XH6 XH3) ?_
 refine Zf (Zc (Zd (Zd (Za ?_))))
 refine Lo u77 (W24 rfl rfl rfl rfl rfl) ?_
 refine Zn rfl rfl rfl (by exact Copy_F _ p hp) ?_
 rintro _ _ ⟨rfl, rfl⟩
 refine Le u77 ?_
 refine Lo u77 (rfl) ?_
 refine Lo u77 (rfl) ?_
 refine Lo u77 (Zg (VVal.int .i64 0) (.inl rfl) rfl) ?_
 refine Zf (Zc (Zo ?_))
 refine ZB (mk 77 151115727444132065443249) (env' := u77) rfl ?_
 refine ZF (fun (i : Nat) => p.rules.length - i) (fun (i : Nat) => [(42, iI (i : Nat))]) (fun (i : Nat) G => (i ≤ p.rules.length) ∧ ∃ lv X, G = ((H ++ [.dead, t6c]) ++ (Y ++ [.cells [iI p.users, .slice (some ((H ++ [.dead, t6c]).length + j, 0)) p.who.length p.who.length false 1, .slice (some ((H ++ [.dead, t6c]).length + k, 0)) p.fixed.length p.fixed.length false 1, lv] true])) ++ X ∧ LV (H.length + 2 + (Y.length + 1)) 3 X lv ((mpR p rs i).flatMap rlB) (mpR p rs i).length) 0 rfl ?_ ?_
 ·refine ⟨?_, ⟨_, [], by rw [List.append_nil]; rfl, LV.nil _ _ _⟩⟩
  exact Nat.zero_le _
 rintro i _ ⟨hi, ⟨lv, X, rfl, hl⟩⟩
 refine ZU (env' := u77) rfl ?_
 refine Zd (Za ?_)
 refine Lo u77 (rfl) ?_
 refine Zf (Zc (Zd ?_))
 refine Zp _ rfl (fun hc1 => ?_) (fun hc1 => ?_)
 ·try simp only [qB, qN] at hc1
  refine Zj (Zc (Zd (Zo (Zd (Za ?_)))))
  refine Lo u77 (Zb (.inl rfl) rfl) ?_
  refine Lo u77 (W18 rfl rfl rfl rfl rfl rfl rfl) ?_
  refine Lo u77 (W24 rfl rfl rfl rfl rfl) ?_
  refine Lo u77 (Zs rfl rfl) ?_
  refine Lo u77 (Zb (.inr rfl) rfl) ?_
  refine Lo u77 (W13 rfl rfl rfl rfl rfl rfl rfl) ?_
  refine Zf (Zc (Zd (Za ?_)))
  refine Lo u77 (Zb (.inl rfl) rfl) ?_
  refine Lo u77 (Zb (.inl rfl) rfl) ?_
  refine Zn rfl rfl rfl (by exact Contains_spec _ _ rs i XH13 hrl) ?_
  rintro _ _ ⟨rfl, rfl⟩
  refine Le u77 ?_
  refine Lo u77 (rfl) ?_
  refine Zf (Zc ?_)
  refine Zp _ rfl (fun hc2 => ?_) (fun hc2 => ?_)
  ·try simp only [qB, qN] at hc2
   refine Za ?_
   refine Lo u77 (rfl) ?_
   refine Lo u77 (W5e rfl rfl rfl rfl) ?_
   refine Lo u77 (W24 rfl rfl rfl rfl rfl) ?_
   refine Lo u77 (ZC rfl rfl (by decide) rfl) ?_
   refine L_opX rfl rfl (YG rfl rfl rfl rfl rfl rfl rfl (by simp; omega) (hl.app _) rfl rfl (by decide) (by have := @mpR_len p rs i; show (_ + 1) * 40 ≤ _ ∧ _ + 1 ≤ _; omega) (by decide)) ?_
   rintro _ _ ⟨Y1, rfl, rfl, hX1, hX2, hX3⟩
   refine Le u77 ?_
   refine Lo u77 (rfl) ?_
   refine Lo u77 (W5f rfl rfl rfl rfl rfl rfl rfl) ?_
   refine Zf (Zx (Zc (Za ?_)))
   refine Lo u77 (W14 rfl rfl rfl) ?_
   refine Lo u77 (Zb (.inl rfl) rfl) ?_
   refine Zf ?_
   refine ZE (mk 77 151115727444132065443249) (env' := u77) rfl ⟨i + 1, ?_, rfl, ?_⟩
   ·first | omega | (simp only []; omega)
   ·first | exact ⟨by omega, _, _, rfl, by rw [mpR_step, if_neg (by simp_all)]; exact LV.pushF hX3⟩ | exact ⟨by omega, _, _, rfl, by rw [mpR_step, if_pos (by simp_all), List.append_nil]; exact hl.app _⟩
  ·try simp only [qB, qN] at hc2
   refine Zj (Zx (Zc (Za ?_)))
   refine Lo u77 (W14 rfl rfl rfl) ?_
   refine Lo u77 (Zb (.inl rfl) rfl) ?_
   refine Zf ?_
   refine ZE (mk 77 151115727444132065443249) (env' := u77) rfl ⟨i + 1, ?_, rfl, ?_⟩
   ·first | omega | (simp only []; omega)
   ·first | exact ⟨by omega, _, _, rfl, by rw [mpR_step, if_neg (by simp_all)]; exact LV.pushF hX3⟩ | exact ⟨by omega, _, _, rfl, by rw [mpR_step, if_pos (by simp_all), List.append_nil]; exact hl.app _⟩
 ·try simp only [qB, qN] at hc1
  refine ZL (ZJ (ZA (ZK (Zc (Zd (Zd ?_))))))
  obtain rfl : i = p.rules.length := by omega
  refine B_ghCell (H := (H ++ [.dead, t6c])) (L := Y ++ [.cells [iI p.users, .slice (some ((H ++ [.dead, t6c]).length + j, 0)) p.who.length p.who.length false 1, .slice (some ((H ++ [.dead, t6c]).length + k, 0)) p.fixed.length p.fixed.length false 1, lv] true]) Y.length 3 hl get_end rfl (by simp; omega) fun X5 _ _ => ?_
  rw [set_end]
  refine Yl (List.append_assoc _ _ _) ?_
  refine Za ?_
  refine Lo u77 (Zb (.inl rfl) rfl) ?_
  refine Lo u77 (v_lenD rfl rfl rfl rfl hs) ?_
  refine Lo u77 (Zg (VVal.int .i64 0) (.inl rfl) rfl) ?_
  refine Zf (Zc (Zo ?_))
  refine ZB (mk 77 151113709839195584855479) (env' := u77) rfl ?_
  refine ZF (fun (s : Nat) => ss.length - s) (fun (s : Nat) => [(60, iI (s : Nat))]) (fun (s : Nat) G => (s ≤ ss.length) ∧ ∃ Z, G = (H ++ [.dead, t6c]) ++ ((Z ++ [.cells [iI p.users, .slice (some ((H ++ [.dead, t6c]).length + j, 0)) p.who.length p.who.length false 1, .slice (some ((H ++ [.dead, t6c]).length + k, 0)) p.fixed.length p.fixed.length false 1, fzR (mpR p rs p.rules.length)] true]) ++ X5) ∧ Z.length = Y.length ∧ Z[j]? = some (.cells ((mpW p (inB (ss.take s))).map iW) true) ∧ Z[k]? = some (.cells ((mpF p (inB (ss.take s))).map iI) true)) 0 rfl ?_ ?_
  ·refine ⟨?_, ⟨Y, rfl, rfl, by rw [show inB (ss.take 0) = fun _ => false from rfl, mpW_no]; exact hY1, by rw [show inB (ss.take 0) = fun _ => false from rfl, mpF_no g5]; exact hY2⟩⟩
   exact Nat.zero_le _
  rintro s _ ⟨hs9, ⟨Z, rfl, hZl, hZ1, hZ2⟩⟩
  refine ZU (env' := u77) rfl ?_
  refine Zd (Za ?_)
  refine Lo u77 (rfl) ?_
  refine Zf (Zc (Zd ?_))
  refine Zp _ rfl (fun hc3 => ?_) (fun hc3 => ?_)
  ·try simp only [qB, qN] at hc3
   refine Zj (Zc (Zd (Zo (Zd (Za ?_)))))
   refine L_opX rfl rfl (v_ixD rfl rfl rfl rfl rfl rfl rfl (hs.app _) (by omega) _) ?_
   rintro w _ ⟨rfl, hw⟩
   refine Le u77 ?_
   refine Lo u77 (YE rfl rfl rfl rfl hw.app) ?_
   refine Lo u77 (Zb (.inr rfl) rfl) ?_
   refine Zf (Zc ?_)
   obtain ⟨i, hi1, hi2⟩ := ltB_at hls (show s < ss.length by omega)
   rw [hi1]
   refine ZY [0, 1, 2, 3, 4, 5, 6, 7, 8, 9, 10, 11, 12] #[0, 1, 0, 0, 8, 0, 0, 64, 192, 455, 967, 2047, 4095] XH2 XH2 XH2 ?_
   refine Oo u77 .calm rfl (rfl) ?_
   refine Z6 (env' := u77) (x := .look _ _) rfl rfl rfl (W5h rfl rfl rfl rfl) rfl rfl rfl ?_
   refine Oo u77 .calm rfl (Zb (.inl rfl) rfl) ?_
   refine Oo u77 .calm rfl (rfl) ?_
   refine Z6 (env' := u77) (x := .look _ _) rfl rfl rfl (W5h rfl rfl rfl rfl) rfl rfl rfl ?_
   refine Oo u77 .calm rfl (Zb (.inl rfl) rfl) ?_
   refine Oo u77 .calm rfl (rfl) ?_
   refine Oo u77 .look rfl (W26 rfl rfl rfl rfl) ?_
   refine ZZ (env' := u77) rfl rfl rfl rfl rfl (by exact every_spec _ _ g.u0) XH8 rfl rfl ?_
   refine Oo u77 .calm rfl (W18 rfl rfl rfl rfl rfl rfl rfl) ?_
   refine Z6 (env' := u77) (x := .turn _ _) rfl rfl rfl (W5i rfl rfl rfl rfl rfl rfl rfl) rfl rfl rfl ?_
   refine Oo u77 .calm rfl (W18 rfl rfl rfl rfl rfl rfl rfl) ?_
   refine Oo u77 .turn rfl (Yg (VVal.int .i64 (-1)) rfl rfl rfl rfl rfl rfl rfl (by exact Zy rfl (Zk (Zk (by rw [List.getElem?_set_ne hjk]; exact hZ2)))) (by show 0 + ((i : Nat) : Int).toNat * 1 + 1 ≤ _; rw [List.length_map, mpF_len]; omega) XH29) ?_
   refine O_nilP [(1, 8), (4, 8), (4, 10)] XH2 (And.intro ⟨_, _, _, _, ⟨(gA (gA (gA (gA (gA (gA (gA (gA (gA (gA (gA (gL XH2)))))))))))), (gA (gA (gA (gA (gL XH2))))), And.intro (W5h rfl rfl rfl rfl) (W5h rfl rfl rfl rfl)⟩⟩ (And.intro ⟨_, _, _, _, ⟨(gA (gA (gA (gA (gA (gA (gA (gA (gL XH2))))))))), (gA (gA (gA (gA (gL XH2))))), And.intro (W5h rfl rfl rfl rfl) (W5h rfl rfl rfl rfl)⟩⟩ (And.intro ⟨_, _, _, _, ⟨(gA (gA (gA (gA (gA (gA (gA (gA (gL XH2))))))))), (gA (gA (gL XH2))), And.intro (W5h rfl rfl rfl rfl) (W5h rfl rfl rfl rfl)⟩⟩ (trivial)))) ?_
   refine Zx (Zc (Za ?_))
   refine Lo u77 (W14 rfl rfl rfl) ?_
   refine Lo u77 (Zb (.inl rfl) rfl) ?_
   refine Zf ?_
   refine ZE (mk 77 151113709839195584855479) (env' := u77) rfl ⟨s + 1, ?_, rfl, ?_⟩
   ·first | omega | (simp only []; omega)
   ·exact ⟨by omega, _, rfl, by rw [List.length_set, List.length_set]; exact hZl, by rw [List.getElem?_set_ne (Ne.symm hjk), List.getElem?_set_self (Zw hZ1)]; exact congrArg (fun l => some (VBlk.cells l true)) (stepW hi2 (by omega) hi1), by rw [List.getElem?_set_self (by rw [List.length_set]; exact Zw hZ2)]; exact congrArg (fun l => some (VBlk.cells l true)) (stepF hi2 (by omega) hi1)⟩
  ·try simp only [qB, qN] at hc3
   refine ZL (ZJ (ZA (ZK (Zc (Zd ?_)))))
   obtain rfl : s = ss.length := by omega
   rw [List.take_length] at hZ1 hZ2
   have hjl := Zw hZ1; have hkl := Zw hZ2
   refine Z5 (Gh.cellL (H := (H ++ [.dead, t6c])) (l := (mpW p (inB ss)).map iW) Y.length 1 j (Zk (get_endE hZl)) rfl (by omega) (Zk (Zk hZ1)) (Ys (by rw [List.length_map, mpW_len])) (Nat.le_refl _)) ?_
   refine Z5 (Gh.cellL (H := (H ++ [.dead, t6c])) (l := (mpF p (inB ss)).map iI) Y.length 2 k (List.getElem?_set_self (by simp; omega)) rfl (by omega) (by rw [List.getElem?_set_ne (by omega), List.getElem?_set_ne hjk]; exact Zk (Zk hZ2)) (Ys (by rw [List.length_map, mpF_len, g5])) (Nat.le_refl _)) ?_
   refine Za ?_
   refine Lo u77 (W5j rfl rfl rfl rfl rfl) ?_
   refine Lo u77 (W5k rfl rfl rfl rfl rfl rfl rfl) ?_
   refine Lo u77 (Zg (VVal.int .i64 0) (.inr rfl) rfl) ?_
   refine Zf (Zc ?_)
   refine Yl (List.append_assoc _ _ _) ?_
   refine Zl ?_
   refine W5l (.inr rfl) (Yr rfl rfl rfl rfl XH12 XH4 rfl) ?_
   exact ⟨by rw [he, woP_ok he]; show _ = VVal.tuple [.agg [iI p.users, .fsl ((mpW p (inB ss)).map iW) (mpW p (inB ss)).length 1 false, .fsl ((mpF p (inB ss)).map iI) (mpF p (inB ss)).length 1 false, fzR (mpR p rs p.rules.length)], iI 0]; rw [mpW_len, mpF_len, g5]; rfl, rfl⟩
theorem Without_0 {x : SW} (H : Ze) (p : Pb) (rv sv : VVal) (rs ss : List Int) (hp : PbL p) (hr : RD H rv rs) (hs : RD H sv ss) (hrl : rs.length ≤ 1000000) (hsl : ss.length ≤ 1000000) (he : woE p rs ss = 0) (h0 : p.who = []) : F (psys x) 27 [.agg (pbB p), rv, sv] H fun v G => v = .tuple [.agg (pbB (woP p rs ss)), iI (woE p rs ss)] ∧ G = H := by
 obtain ⟨g, hlr, hls⟩ := woE_ok.1 he
 obtain ⟨h1, h2⟩ := woP_0 g h0
 have h3 : ss = [] := ltB_0 (by rw [h0] at hls; exact hls)
 refine Zr Tryd.func27 rfl u77 rfl ?_
 refine Zd (Za ?_)
 refine Lo u77 (Zv rfl rfl rfl) ?_
 refine Lo u77 (Zs rfl rfl) ?_
 refine Lo u77 (Zg (VVal.int .i64 0) (.inr rfl) rfl) ?_
 refine Zf (Zc (Zd (Zd ?_)))
 refine Z5 (Gh.freezePtrL (cs := pbB p) 3 0 rfl rfl rfl) ?_
 refine Za ?_
 refine Lo u77 (W24 rfl rfl rfl rfl rfl) ?_
 refine Zn rfl rfl rfl (by exact Ye _ p hp) ?_
 rintro _ _ ⟨rfl, rfl⟩
 refine Le u77 ?_
 refine Lo u77 (Zb (.inr rfl) rfl) ?_
 refine Zf (Zc (Zd (Za ?_)))
 refine Lo u77 (Zb (.inl rfl) rfl) ?_
 refine Lo u77 (Yn false rfl (by rw [pck_good.2 g]; rfl)) ?_
 refine Zf (Zc ?_)
 refine ZG rfl rfl ?_
 refine Zj (Zc (Zd (Zd (Za ?_))))
 refine Lo u77 (Zb (.inl rfl) rfl) ?_
 refine Lo u77 (rfl) ?_
 refine Lo u77 (W26 rfl rfl rfl rfl) ?_
 refine Lo u77 (rfl) ?_
 refine Zn rfl rfl rfl XH33 ?_
 rintro v _ ⟨hv, rfl⟩; rw [hlr] at hv; subst hv
 refine Le u77 ?_
 refine Lo u77 (rfl) ?_
 refine Lo u77 (Zb (.inl rfl) rfl) ?_
 refine Lo u77 (Zb (.inl rfl) rfl) ?_
 refine Lo u77 (rfl) ?_
 refine Lo u77 (W26 rfl rfl rfl rfl) ?_
 refine Lo u77 (rfl) ?_
 refine Zn rfl rfl rfl XH15 ?_
 rintro v _ ⟨hv, rfl⟩; rw [hls] at hv; subst hv
 refine Le u77 ?_
 refine Lo u77 (rfl) ?_
 refine Lo u77 (ZP rfl rfl rfl) ?_
 refine Zf (Zc ?_)
 refine ZG rfl rfl ?_
 refine Zj (Zc (Zd (Za ?_)))
 refine Lo u77 (W24 rfl rfl rfl rfl rfl) ?_
 refine Zn rfl rfl rfl (by exact Copy_F _ p hp) ?_
 rintro _ _ ⟨rfl, rfl⟩
 refine Le u77 ?_
 refine Lo u77 (Zs rfl rfl) ?_
 refine Lo u77 (W13 rfl rfl rfl rfl rfl rfl rfl) ?_
 refine Zf (Zc (Zd (Za ?_)))
 refine Lo u77 (rfl) ?_
 refine Lo u77 (Yg (VVal.slice none 0 0 true 0) rfl rfl rfl rfl rfl rfl rfl XH0 XH6 XH3) ?_
 refine Zf (Zc (Zd (Zd ?_)))
 refine Z5 (Gh.cellNilL 2 3 (es' := 3) rfl rfl) ?_
 refine Za ?_
 refine Lo u77 (W24 rfl rfl rfl rfl rfl) ?_
 refine Zn rfl rfl rfl (by exact Copy_F _ p hp) ?_
 rintro _ _ ⟨rfl, rfl⟩
 refine Le u77 ?_
 refine Lo u77 (rfl) ?_
 refine Lo u77 (rfl) ?_
 refine Lo u77 (Zg (VVal.int .i64 0) (.inl rfl) rfl) ?_
 refine Zf (Zc (Zo ?_))
 refine ZB (mk 77 151115727444132065443249) (env' := u77) rfl ?_
 refine ZF (fun (i : Nat) => p.rules.length - i) (fun (i : Nat) => [(42, iI (i : Nat))]) (fun (i : Nat) G => (i ≤ p.rules.length) ∧ G = H ++ [.dead, t6c, .cells [iI p.users, fzW p.who, fzI p.fixed, .fsl [] 0 3 false] true]) 0 rfl ?_ ?_
 ·refine ⟨?_, rfl⟩
  exact Nat.zero_le _
 rintro i _ ⟨hi, rfl⟩
 refine ZU (env' := u77) rfl ?_
 refine Zd (Za ?_)
 refine Lo u77 (rfl) ?_
 refine Zf (Zc (Zd ?_))
 refine Zp _ rfl (fun hc1 => ?_) (fun hc1 => ?_)
 ·try simp only [qB, qN] at hc1
  exfalso
  rw [h2] at hc1; simp at hc1; omega
 ·try simp only [qB, qN] at hc1
  refine ZL (ZJ (ZA (ZK (Zc (Zd (Zd (Za ?_)))))))
  refine Lo u77 (Zb (.inl rfl) rfl) ?_
  refine Lo u77 (v_lenD rfl rfl rfl rfl hs) ?_
  refine Lo u77 (Zg (VVal.int .i64 0) (.inl rfl) rfl) ?_
  refine Zf (Zc (Zo ?_))
  refine ZB (mk 77 151113709839195584855479) (env' := u77) rfl ?_
  refine ZF (fun (s : Nat) => ss.length - s) (fun (s : Nat) => [(60, iI (s : Nat))]) (fun (s : Nat) G => (s ≤ ss.length) ∧ G = H ++ [.dead, t6c, .cells [iI p.users, fzW p.who, fzI p.fixed, .fsl [] 0 3 false] true]) 0 rfl ?_ ?_
  ·refine ⟨?_, rfl⟩
   exact Nat.zero_le _
  rintro s _ ⟨hs9, rfl⟩
  refine ZU (env' := u77) rfl ?_
  refine Zd (Za ?_)
  refine Lo u77 (rfl) ?_
  refine Zf (Zc (Zd ?_))
  refine Zp _ rfl (fun hc2 => ?_) (fun hc2 => ?_)
  ·try simp only [qB, qN] at hc2
   exfalso
   rw [h3] at hc2; simp at hc2; omega
  ·try simp only [qB, qN] at hc2
   refine ZL (ZJ (ZA (ZK (Zc (Zd (Za ?_))))))
   refine Lo u77 (W24 rfl rfl rfl rfl rfl) ?_
   refine Lo u77 (W13 rfl rfl rfl rfl rfl rfl rfl) ?_
   refine Lo u77 (Zg (VVal.int .i64 0) (.inr rfl) rfl) ?_
   refine Zf (Zc (Zl ?_))
   refine W5m (.inr rfl) (Yr rfl rfl rfl rfl XH12 XH4 rfl) ?_
   exact ⟨by rw [he, woP_ok he, woQ_0 g h0]; rfl, rfl⟩
theorem Without_spec {x : SW} (H : Ze) (p : Pb) (rv sv : VVal) (rs ss : List Int) (hp : PbL p) (hr : RD H rv rs) (hs : RD H sv ss) (hrl : rs.length ≤ 1000000) (hsl : ss.length ≤ 1000000) : F (psys x) 27 [.agg (pbB p), rv, sv] H fun v G => v = .tuple [.agg (pbB (woP p rs ss)), iI (woE p rs ss)] ∧ G = H := by
  by_cases he : woE p rs ss = 0
  · by_cases h0 : p.who.length = 0
    · exact Without_0 H p rv sv rs ss hp hr hs hrl hsl he (List.eq_nil_of_length_eq_zero h0)
    · exact Without_F H p rv sv rs ss hp hr hs hrl hsl he (by omega)
  · exact Without_e H p rv sv rs ss hp hr hs hrl hsl he
theorem W5p {T : TypeId → Option VTy} {H : Ze} {op : Op} {ρ : Operand → VVal} {t : TypeId} {a : Operand} {y : VTy} {p v : VVal} (ho : op = .load t a) (ha : ρ a = p) (hy : T t = some y) (hd : Zm y.desc = false) (h : LdOk H p v := by first | exact .inl ⟨_, _, rfl, XH36⟩ | exact .inr ⟨_, _, _, _, rfl, by exact Zy rfl (get_endE rfl), XH36⟩) : vop T ρ H op = some (v, H) := YE ho ha hy hd h
theorem W5q {T : TypeId → Option VTy} {H : Ze} {op : Op} {ρ : Operand → VVal} {t : TypeId} {a : Operand} {y : VTy} {p v : VVal} (ho : op = .load t a) (ha : ρ a = p) (hy : T t = some y) (hd : Zm y.desc = false) (h : LdOk H p v := by first | exact .inl ⟨_, _, rfl, XH36⟩ | exact .inr ⟨_, _, _, _, rfl, by exact Zy rfl (Zk (get_endE hZl)), XH36⟩) : vop T ρ H op = some (v, H) := YE ho ha hy hd h
theorem W5s {T : TypeId → Option VTy} {H : Ze} {op : Op} {ρ : Operand → VVal} {t : TypeId} {a : Operand} {y : VTy} {p v : VVal} (ho : op = .load t a) (ha : ρ a = p) (hy : T t = some y) (hd : Zm y.desc = false) (h : LdOk H p v := by first | exact .inl ⟨_, _, rfl, by exact loK_at (by omega)⟩ | exact .inr ⟨_, _, _, _, rfl, by exact Zy rfl (Zk (Zk hZ1)), by exact loK_at (by omega)⟩) : vop T ρ H op = some (v, H) := YE ho ha hy hd h
theorem W5t {T : TypeId → Option VTy} {H : Ze} {op : Op} {ρ : VEnv} {H' : Ze} {t : TypeId} {a : Operand} {i : Nat} {v : VVal} {y : VTy} {b off : Nat} {cs new : List VVal} (ho : op = .store t a (.tmp i)) (hv : ρ[i]? = some v) (ha : ρ.eval a = .ptr (some (b, off))) (hy : T t = some y) (hx : v.cells = some new) (hn : new.length = y.size) (h1 : new.all VVal.one = true) (hb : H[b]? = some (.cells cs true) := by exact Zy rfl (Zk (Zk hZ1))) (hl : off + new.length ≤ cs.length := by show 0 + ((s : Nat) : Int).toNat * 1 + 1 ≤ _; rw [List.length_map, loK_len]; omega) (hH : H.set b (.cells (ZD cs off new) true) = H' := by exact (ZI rfl).trans (by rw [Yd (by simp; have := Zw hZ1; omega), Yd (Zw hZ1)])) : vop T ρ.eval H op = some (.skip, H') := Z0 ho hv ha hy hx hn h1 hb hl hH
theorem W5v {T : TypeId → Option VTy} {H : Ze} {op : Op} {ρ : Operand → VVal} {t : TypeId} {a : Operand} {y : VTy} {p : VVal} {n : Nat} {vs : List VVal} (ho : op = .load t a) (ha : ρ a = p) (hy : T t = some y) (hd : Zm y.desc = true) (hn : y.size = n) (h : LdOkA H p n vs := by first | exact .inl ⟨_, _, rfl, XH36⟩ | exact .inr ⟨_, _, _, _, rfl, by exact Zy rfl (List.getElem?_set_self (by simp; omega)), XH36⟩) : vop T ρ H op = some (.agg vs, H) := v_ldA ho ha hy hd hn h
theorem W5x {S : V.Sys} {H : Ze} {fn : Func} {ex : Exit} {env : VEnv} {B L : Ze} {v : VVal} {R : VVal → Ze → Prop} (hx : ex = .normal ∨ ex = .ret) (hv : ZS S.C.T env (B ++ L) fn.results = some v) (h : R v B) (hB : BaseOk H B := by exact XH38) (hu : v.under H.length = true := by exact (show ((VVal.agg (pbB (loP p w))).under H.length && (true && true)) = true by rw [pb_under]; rfl)) : fnK S fn H R ex env (B ++ L) := E_app hx hv hB hu h
theorem W5z {S : V.Sys} {H : Ze} {fn : Func} {ex : Exit} {env : VEnv} {B L : Ze} {v : VVal} {R : VVal → Ze → Prop} (hx : ex = .normal ∨ ex = .ret) (hv : ZS S.C.T env (B ++ L) fn.results = some v) (h : R v B) (hB : BaseOk H B := by exact XH38) (hu : v.under H.length = true := by exact (show ((VVal.agg (pbB p)).under H.length && (true && true)) = true by rw [pb_under]; rfl)) : fnK S fn H R ex env (B ++ L) := E_app hx hv hB hu h
def loP (p : Pb) (w : BitVec 64) : Pb := (p.users, p.who.map (fun x => x &&& ~~~w), p.fixed, p.rules, ())
def loV (p : Pb) (w : BitVec 64) : Pb := if pck p = 0 then loP p w else z0P
def brs (p : Pb) (w : BitVec 64) : Bool := decide (pck p = 0) && (leA (loV p w)).isSome
def loB (p : Pb) (w : BitVec 64) : Bool := !brs p w
def neP (p : Pb) : BitVec 64 := if brs p 0#64 = true then neN (loB p) p.users.toNat else 0#64
def waN (p : Pb) (m : Int) : Option (List Nat) := if pck p = 0 ∧ 0 ≤ m ∧ m ≤ 3 then fiN (loB p) p.users.toNat m.toNat [] 0 else none
def grN (p : Pb) : Int := if pck p = 0 then grS (fun k => (waN p (k : Nat)).isSome) 0 (4 - 0) else -1
theorem loV_ok {p : Pb} {w : BitVec 64} (h : pck p = 0) : loV p w = loP p w := if_pos h
theorem loV_no {p : Pb} {w : BitVec 64} (h : ¬ pck p = 0) : loV p w = z0P := if_neg h
theorem loV_L {p : Pb} {w : BitVec 64} (h : PbL p) : PbL (loV p w) := by
  by_cases e : pck p = 0
  · rw [loV_ok e]
    exact ⟨h.u, by show (p.who.map _).length ≤ _; rw [List.length_map]; exact h.w, h.f, h.r, h.s⟩
  · rw [loV_no e]; exact ⟨by decide, by decide, by decide, by decide, fun r hr => by cases hr⟩
theorem loP_0 {p : Pb} : loP p 0#64 = p := by
  unfold loP
  rw [show (fun x : BitVec 64 => x &&& ~~~0#64) = id from funext fun x => by
    apply BitVec.eq_of_getLsbD_eq
    intro i hi
    rw [BitVec.getLsbD_and, BitVec.getLsbD_not, BitVec.getLsbD_zero]; simp [hi], List.map_id]
theorem loP_nil {p : Pb} {w : BitVec 64} (h : p.who = []) : loP p w = p := by
  obtain ⟨a1, a2, a3, a4, ⟨⟩⟩ := p
  have h : a2 = [] := h
  subst h; rfl
theorem brs_good {p : Pb} {w : BitVec 64} (h : brs p w = true) : Go.V.Good p := by
  unfold brs at h
  rw [Bool.and_eq_true, decide_eq_true_eq] at h
  exact pck_good.1 h.1
theorem brs_no {p : Pb} {w : BitVec 64} (h : ¬ pck p = 0) : brs p w = false := by unfold brs; rw [decide_eq_false h]; rfl
def loK (l : List (BitVec 64)) (w : BitVec 64) (k : Nat) : List (BitVec 64) := (List.range l.length).map fun i => if i < k then l.getD i 0 &&& ~~~w else l.getD i 0
theorem loK_len {l : List (BitVec 64)} {w : BitVec 64} {k : Nat} : (loK l w k).length = l.length := by unfold loK; simp
theorem loK_0 {l : List (BitVec 64)} {w : BitVec 64} : loK l w 0 = l := by
  apply List.ext_getElem (by rw [loK_len])
  intro i h1 h2
  unfold loK; simp [List.getD_eq_getElem?_getD, h2]
theorem loK_all {l : List (BitVec 64)} {w : BitVec 64} : loK l w l.length = l.map (fun x => x &&& ~~~w) := by
  apply List.ext_getElem (by rw [loK_len, List.length_map])
  intro i h1 h2
  rw [List.length_map] at h2
  unfold loK; simp [List.getD_eq_getElem?_getD, h2]
theorem loK_at {l : List (BitVec 64)} {w : BitVec 64} {k : Nat} (h : k < l.length) : ((loK l w k).map iW)[0 + ((k : Nat) : Int).toNat * 1]? = some (iW (l.getD k 0)) := by
  rw [Int.toNat_natCast, show 0 + k * 1 = k by omega]
  unfold loK; simp [h]
theorem loK_st {l : List (BitVec 64)} {w : BitVec 64} {k : Nat} (h : k < l.length) : ZD ((loK l w k).map iW) (0 + ((k : Nat) : Int).toNat * 1) [iW (l.getD k 0 &&& ~~~w)] = (loK l w (k + 1)).map iW := by
  rw [Int.toNat_natCast, spl_W (by rw [loK_len]; exact h)]
  congr 1
  apply List.ext_getElem (by rw [List.length_set, loK_len, loK_len])
  intro i h1 h2
  rw [List.getElem_set]
  rw [loK_len] at h2
  unfold loK
  by_cases e : k = i
  · subst e; simp
  · have e3 : (i < k) ↔ (i < k + 1) := by omega
    simp [e, e3]
theorem Lose_F {x : SW} (H : Ze) (p : Pb) (hp : PbL p) (w : BitVec 64) (g : Go.V.Good p) (hne : 0 < p.who.length) : F (psys x) 44 [.agg (pbB p), iW w] H fun v G => v = .tuple [.agg (pbB (loV p w)), iI (pck p)] ∧ G = H := by
 have hk := pck_good.2 g
 have g5 := g.fx; have h4 := g.r32; have h6 := g.n12
 refine Zr Tryd.func44 rfl u34 rfl ?_
 refine Zd (Za ?_)
 refine Lo u34 (Zv rfl rfl rfl) ?_
 refine Lo u34 (Zs rfl rfl) ?_
 refine Lo u34 (Zg (VVal.int .i64 0) (.inr rfl) rfl) ?_
 refine Zf (Zc (Zd ?_))
 refine Z5 (Gh.freezePtrL (cs := pbB p) 2 0 rfl rfl rfl) ?_
 refine Za ?_
 refine Lo u34 (W24 rfl rfl rfl rfl rfl) ?_
 refine Zn rfl rfl rfl (by exact Without_L _ p _ _ [] [] hp (RD.nil _) (RD.nil _) (Nat.zero_le _) (Nat.zero_le _) (woE_ok.2 ⟨g, rfl, rfl⟩) hne) ?_
 rintro _ _ ⟨Y, j, k, rfl, rfl, hY1, hY2, hjk⟩; rw [inB_nil, mpW_no] at hY1; rw [inB_nil, mpF_no g5] at hY2; rw [mpR_no]
 refine Le u34 ?_
 refine Lo u34 (Zb (.inl rfl) rfl) ?_
 refine Lo u34 (rfl) ?_
 refine Lo u34 (rfl) ?_
 refine Lo u34 (Zs rfl rfl) ?_
 refine Lo u34 (W13 rfl rfl rfl rfl rfl rfl rfl) ?_
 refine Lo u34 (Zb (.inr rfl) rfl) ?_
 refine Zf (Zc (Zd (Zd (Za ?_))))
 refine Lo u34 (Zb (.inl rfl) rfl) ?_
 refine Lo u34 (Yn false rfl rfl) ?_
 refine Zf (Zc ?_)
 refine ZG rfl rfl ?_
 refine Zj (Zc (Zd (Zd (Za ?_))))
 refine Lo u34 (rfl) ?_
 refine Lo u34 (W5p rfl rfl rfl rfl) ?_
 refine Lo u34 (rfl) ?_
 refine Lo u34 (Zg (VVal.int .i64 0) (.inl rfl) rfl) ?_
 refine Zf (Zc (Zo ?_))
 refine ZB (mk 34 17176723373) (env' := u34) rfl ?_
 refine ZF (fun (s : Nat) => p.who.length - s) (fun (s : Nat) => [(21, iI (s : Nat))]) (fun (s : Nat) G => (s ≤ p.who.length) ∧ ∃ Z, G = (H ++ [.dead, t6c]) ++ ((Z ++ [.cells [iI p.users, .slice (some ((H ++ [.dead, t6c]).length + j, 0)) p.who.length p.who.length false 1, .slice (some ((H ++ [.dead, t6c]).length + k, 0)) p.who.length p.who.length false 1, fzR p.rules] true]) ++ []) ∧ Z.length = Y.length ∧ Z[j]? = some (.cells ((loK p.who w s).map iW) true) ∧ Z[k]? = some (.cells (p.fixed.map iI) true)) 0 rfl ?_ ?_
 ·refine ⟨?_, ⟨Y, (by first | rfl | (rw [List.append_nil]; rfl)), rfl, by rw [loK_0]; exact hY1, hY2⟩⟩
  exact Nat.zero_le _
 rintro s _ ⟨hs9, ⟨Z, rfl, hZl, hZ1, hZ2⟩⟩
 refine ZU (env' := u34) rfl ?_
 refine Zd (Za ?_)
 refine Lo u34 (rfl) ?_
 refine Zf (Zc (Zd ?_))
 refine Zp _ rfl (fun hc1 => ?_) (fun hc1 => ?_)
 ·try simp only [qB, qN] at hc1
  refine Zj (Zc (Zd (Zo (Zd (Za ?_)))))
  refine Lo u34 (Zb (.inl rfl) rfl) ?_
  refine Lo u34 (Zb (.inr rfl) rfl) ?_
  refine Zf (Zc (Za ?_))
  refine Lo u34 (rfl) ?_
  refine Lo u34 (W5q rfl rfl rfl rfl) ?_
  refine Lo u34 (Zb (.inl rfl) rfl) ?_
  refine Lo u34 (W18 rfl rfl rfl rfl rfl rfl rfl) ?_
  refine Lo u34 (W5s rfl rfl rfl rfl) ?_
  refine Lo u34 (Zb (.inl rfl) rfl) ?_
  refine Lo u34 (v_andNotW rfl rfl rfl) ?_
  refine Lo u34 (W18 rfl rfl rfl rfl rfl rfl rfl) ?_
  refine Lo u34 (W5t rfl rfl rfl rfl rfl rfl rfl) ?_
  refine Zf (Zx (Zc (Za ?_)))
  refine Lo u34 (W14 rfl rfl rfl) ?_
  refine Lo u34 (Zb (.inl rfl) rfl) ?_
  refine Zf ?_
  refine ZE (mk 34 17176723373) (env' := u34) rfl ⟨s + 1, ?_, rfl, ?_⟩
  ·first | omega | (simp only []; omega)
  ·exact ⟨by omega, _, rfl, by rw [List.length_set]; exact hZl, by rw [List.getElem?_set_self (Zw hZ1)]; exact congrArg (fun l => some (VBlk.cells l true)) (loK_st (by omega)), by rw [List.getElem?_set_ne hjk]; exact hZ2⟩
 ·try simp only [qB, qN] at hc1
  refine ZL (ZJ (ZA (ZK (Zc (Zd ?_)))))
  obtain rfl : s = p.who.length := by omega
  rw [loK_all] at hZ1
  have hjl := Zw hZ1; have hkl := Zw hZ2
  refine Z5 (Gh.cellL (H := (H ++ [.dead, t6c])) (l := (p.who.map (fun x => x &&& ~~~w)).map iW) Y.length 1 j (Zk (get_endE hZl)) rfl (by omega) (Zk (Zk hZ1)) (Ys (by rw [List.length_map, List.length_map])) (Nat.le_refl _)) ?_
  refine Z5 (Gh.cellL (H := (H ++ [.dead, t6c])) (l := p.fixed.map iI) Y.length 2 k (List.getElem?_set_self (by simp; omega)) rfl (by omega) (by rw [List.getElem?_set_ne (by omega), List.getElem?_set_ne hjk]; exact Zk (Zk hZ2)) (Ys (by rw [List.length_map, g5])) (Nat.le_refl _)) ?_
  refine Za ?_
  refine Lo u34 (W5v rfl rfl rfl rfl rfl) ?_
  refine Lo u34 (W5k rfl rfl rfl rfl rfl rfl rfl) ?_
  refine Lo u34 (Zg (VVal.int .i64 0) (.inr rfl) rfl) ?_
  refine Zf (Zc ?_)
  refine Yl (List.append_assoc _ _ _) ?_
  refine Zl ?_
  refine W5x (.inr rfl) (Yr rfl rfl rfl rfl XH12 XH4 rfl) ?_
  exact ⟨by rw [loV_ok hk, hk]; show _ = VVal.tuple [.agg [iI p.users, .fsl ((p.who.map (fun x => x &&& ~~~w)).map iW) (p.who.map (fun x => x &&& ~~~w)).length 1 false, .fsl (p.fixed.map iI) p.fixed.length 1 false, fzR p.rules], iI 0]; rw [List.length_map, g5]; rfl, rfl⟩
theorem Lose_0 {x : SW} (H : Ze) (p : Pb) (hp : PbL p) (w : BitVec 64) (g : Go.V.Good p) (h0 : p.who = []) : F (psys x) 44 [.agg (pbB p), iW w] H fun v G => v = .tuple [.agg (pbB (loV p w)), iI (pck p)] ∧ G = H := by
 have hk := pck_good.2 g
 refine Zr Tryd.func44 rfl u34 rfl ?_
 refine Zd (Za ?_)
 refine Lo u34 (Zv rfl rfl rfl) ?_
 refine Lo u34 (Zs rfl rfl) ?_
 refine Lo u34 (Zg (VVal.int .i64 0) (.inr rfl) rfl) ?_
 refine Zf (Zc (Zd ?_))
 refine Z5 (Gh.freezePtrL (cs := pbB p) 2 0 rfl rfl rfl) ?_
 refine Za ?_
 refine Lo u34 (W24 rfl rfl rfl rfl rfl) ?_
 refine Zn rfl rfl rfl (by exact Without_spec _ p _ _ [] [] hp (RD.nil _) (RD.nil _) (Nat.zero_le _) (Nat.zero_le _)) ?_
 rintro _ _ ⟨rfl, rfl⟩; rw [show woE p [] [] = 0 from woE_ok.2 ⟨g, rfl, rfl⟩, show woP p [] [] = p from (woP_ok (woE_ok.2 ⟨g, rfl, rfl⟩)).trans (wo_nil g)]
 refine Le u34 ?_
 refine Lo u34 (Zb (.inl rfl) rfl) ?_
 refine Lo u34 (rfl) ?_
 refine Lo u34 (rfl) ?_
 refine Lo u34 (Zs rfl rfl) ?_
 refine Lo u34 (W13 rfl rfl rfl rfl rfl rfl rfl) ?_
 refine Lo u34 (Zb (.inr rfl) rfl) ?_
 refine Zf (Zc (Zd (Zd (Za ?_))))
 refine Lo u34 (Zb (.inl rfl) rfl) ?_
 refine Lo u34 (Yn false rfl rfl) ?_
 refine Zf (Zc ?_)
 refine ZG rfl rfl ?_
 refine Zj (Zc (Zd (Zd (Za ?_))))
 refine Lo u34 (rfl) ?_
 refine Lo u34 (W26 rfl rfl rfl rfl) ?_
 refine Lo u34 (rfl) ?_
 refine Lo u34 (Zg (VVal.int .i64 0) (.inl rfl) rfl) ?_
 refine Zf (Zc (Zo ?_))
 refine ZB (mk 34 17176723373) (env' := u34) rfl ?_
 refine ZF (fun (s : Nat) => p.who.length - s) (fun (s : Nat) => [(21, iI (s : Nat))]) (fun (s : Nat) G => (s ≤ p.who.length) ∧ G = H ++ [.dead, t6c, .cells (pbB p) true]) 0 rfl ?_ ?_
 ·refine ⟨?_, rfl⟩
  exact Nat.zero_le _
 rintro s _ ⟨hs9, rfl⟩
 refine ZU (env' := u34) rfl ?_
 refine Zd (Za ?_)
 refine Lo u34 (rfl) ?_
 refine Zf (Zc (Zd ?_))
 refine Zp _ rfl (fun hc1 => ?_) (fun hc1 => ?_)
 ·try simp only [qB, qN] at hc1
  exfalso
  rw [h0] at hc1; simp at hc1; omega
 ·try simp only [qB, qN] at hc1
  refine ZL (ZJ (ZA (ZK (Zc (Zd (Za ?_))))))
  refine Lo u34 (W24 rfl rfl rfl rfl rfl) ?_
  refine Lo u34 (W13 rfl rfl rfl rfl rfl rfl rfl) ?_
  refine Lo u34 (Zg (VVal.int .i64 0) (.inr rfl) rfl) ?_
  refine Zf (Zc (Zl ?_))
  refine W5z (.inr rfl) (Yr rfl rfl rfl rfl XH12 XH4 rfl) ?_
  exact ⟨by rw [loV_ok hk, hk, loP_nil h0]; rfl, rfl⟩
theorem Lose_e {x : SW} (H : Ze) (p : Pb) (hp : PbL p) (w : BitVec 64) (he : ¬ pck p = 0) : F (psys x) 44 [.agg (pbB p), iW w] H fun v G => v = .tuple [.agg (pbB (loV p w)), iI (pck p)] ∧ G = H := by
 have h1 : woE p [] [] = pck p := by unfold woE; rw [if_pos he]
 refine Zr Tryd.func44 rfl u34 rfl ?_
 refine Zd (Za ?_)
 refine Lo u34 (Zv rfl rfl rfl) ?_
 refine Lo u34 (Zs rfl rfl) ?_
 refine Lo u34 (Zg (VVal.int .i64 0) (.inr rfl) rfl) ?_
 refine Zf (Zc (Zd ?_))
 refine Z5 (Gh.freezePtrL (cs := pbB p) 2 0 rfl rfl rfl) ?_
 refine Za ?_
 refine Lo u34 (W24 rfl rfl rfl rfl rfl) ?_
 refine Zn rfl rfl rfl (by exact Without_spec _ p _ _ [] [] hp (RD.nil _) (RD.nil _) (Nat.zero_le _) (Nat.zero_le _)) ?_
 rintro _ _ ⟨rfl, rfl⟩; rw [h1]
 refine Le u34 ?_
 refine Lo u34 (Zb (.inl rfl) rfl) ?_
 refine Lo u34 (rfl) ?_
 refine Lo u34 (rfl) ?_
 refine Lo u34 (Zs rfl rfl) ?_
 refine Lo u34 (W13 rfl rfl rfl rfl rfl rfl rfl) ?_
 refine Lo u34 (Zb (.inr rfl) rfl) ?_
 refine Zf (Zc (Zd (Zd (Za ?_))))
 refine Lo u34 (Zb (.inl rfl) rfl) ?_
 refine Lo u34 (Yn true rfl (by simp [he])) ?_
 refine Zf (Zc ?_)
 refine ZX rfl rfl ?_
 refine Zd (Za ?_)
 refine Lo u34 (rfl) ?_
 refine Lo u34 (Zb (.inl rfl) rfl) ?_
 refine Lo u34 (W13 rfl rfl rfl rfl rfl rfl rfl) ?_
 refine Lo u34 (Zb (.inr rfl) rfl) ?_
 refine Zf (Zc ?_)
 refine Z5 (Gh.cellNilL 1 1 (es' := 1) rfl rfl) ?_
 refine Z5 (Gh.cellNilL 1 2 (es' := 1) rfl rfl) ?_
 refine Z5 (Gh.cellNilL 1 3 (es' := 3) rfl rfl) ?_
 refine Zl (Zq ?_)
 refine W5a (.inr rfl) (Yr rfl rfl rfl rfl XH12 XH4 rfl) ?_
 exact ⟨by rw [loV_no he]; rfl, rfl⟩
theorem Lose_spec {x : SW} (H : Ze) (p : Pb) (hp : PbL p) (w : BitVec 64) : F (psys x) 44 [.agg (pbB p), iW w] H fun v G => v = .tuple [.agg (pbB (loV p w)), iI (pck p)] ∧ G = H := by
  by_cases he : pck p = 0
  · by_cases h0 : p.who.length = 0
    · exact Lose_0 H p hp w (pck_good.1 he) (List.eq_nil_of_length_eq_zero h0)
    · exact Lose_F H p hp w (pck_good.1 he) (by omega)
  · exact Lose_e H p hp w he
abbrev u24 {a0 a1 a2 a3 a4 a5 a6 a7 a8 a9 a10 a11 a12 a13 a14 a15 a16 a17 a18 a19 a20 a21 a22 a23 : VVal} : VEnv := a0 :: a1 :: a2 :: a3 :: a4 :: a5 :: a6 :: a7 :: a8 :: a9 :: a10 :: a11 :: a12 :: a13 :: a14 :: a15 :: a16 :: a17 :: a18 :: a19 :: a20 :: a21 :: a22 :: a23 :: []
theorem W64 {P : Prop} (h : P := by first | exact ⟨by unfold brs; rw [decide_eq_true (by assumption), Bool.true_and], rfl⟩ | exact ⟨by rw [brs_no XH26]; rfl, rfl⟩ | exact ⟨by rw [brs_no (by assumption)], rfl⟩) : P := h
theorem W65 {P : Prop} (h : P := by first | (obtain rfl : u = p.users.toNat := by omega); exact ⟨by unfold neP; rw [if_pos hb], rfl⟩ | exact ⟨by unfold neP; rw [if_neg (by simpa using hc1)]; rfl, rfl⟩) : P := h
theorem bears_spec {x : SW} (H : Ze) (p : Pb) (hp : PbL p) (w : BitVec 64) : F (psys x) 91 [.agg (pbB p), iW w] H fun v G => v = .bool (brs p w) ∧ G = H := by
 refine Zr Tryd.func91 rfl u20 rfl ?_
 refine Zd (Za ?_)
 refine Lo u20 (Zv rfl rfl rfl) ?_
 refine Lo u20 (Zg (VVal.bool false) (.inr rfl) rfl) ?_
 refine Zf (Zc (Zd ?_))
 refine Z5 (Gh.freezePtrL (cs := pbB p) 2 0 rfl rfl rfl) ?_
 refine Za ?_
 refine Lo u20 (W24 rfl rfl rfl rfl rfl) ?_
 refine Lo u20 (Zb (.inl rfl) rfl) ?_
 refine Zn rfl rfl rfl (by exact Lose_spec _ p hp w) ?_
 rintro _ _ ⟨rfl, rfl⟩
 refine Le u20 ?_
 refine Lo u20 (Zb (.inl rfl) rfl) ?_
 refine Lo u20 (rfl) ?_
 refine Lo u20 (rfl) ?_
 refine Lo u20 (Zs rfl rfl) ?_
 refine Lo u20 (W13 rfl rfl rfl rfl rfl rfl rfl) ?_
 refine Lo u20 (Zb (.inr rfl) rfl) ?_
 refine Zf (Zc (Zd ?_))
 refine Z5 (Gh.freezePtrL (cs := pbB (loV p w)) 5 1 rfl rfl rfl) ?_
 refine B_drawP #[0, 1, 3, 7, 7, 31, 63, 127] XH2 ?_
 refine P_seg [0, 1, 2, 4, 3] (bef := #[0, 1, 3, 7, 7, 31, 63, 127]) XH2 XH2 XH2 ?_
 refine Oo u20 .calm rfl (Zb (.inl rfl) rfl) ?_
 refine Oo u20 .calm rfl (rfl) ?_
 refine Oo u20 .calm rfl (Zb (.inl rfl) rfl) ?_
 refine O_split 15 (env1 := u20) (env2 := u20) rfl rfl rfl (fun hg1 => ?_) (fun hg1 => ?_)
 ·try simp only [qB, qN] at hg1
  refine Z6 (env' := u20) (x := .look _ _) rfl rfl rfl (W24 rfl rfl rfl rfl rfl) rfl rfl rfl ?_
  refine ZZ (env' := u20) rfl rfl rfl rfl rfl (by exact sNew_spec _) XH8 rfl rfl ?_
  refine O_nilP [(3, 4)] XH2 (And.intro ⟨_, _, _, _, ⟨(gA (gL XH2)), (gL XH2), And.intro (W24 rfl rfl rfl rfl rfl) (W24 rfl rfl rfl rfl rfl)⟩⟩ (trivial)) ?_
  refine P_call 5 (bef := #[0, 1, 3, 7, 7, 31, 63, 127]) XH2 XH2 rfl rfl rfl rfl (by exact Can_spec ((H ++ [.dead, .dead]) ++ [gaB 0]) (H ++ [VBlk.dead, VBlk.dead]).length 0 get_end (loV p w) (loV_L hp)) ?_
  rintro _ _ ⟨rfl, rfl⟩; rw [set_end]
  refine P_env (env' := u20) rfl ?_
  refine P_seg [6, 7] (bef := #[0, 1, 3, 7, 7, 31, 63, 127]) XH2 XH2 XH2 ?_
  refine Oo u20 .calm rfl (ZH rfl rfl rfl) ?_
  refine Oo u20 .calm rfl (Zb (.inr rfl) rfl) ?_
  refine ZT [] XH2 (trivial) ?_
  refine P_end XH2 ?_
  refine Zc ?_
  refine Yl (List.append_assoc _ _ _) ?_
  refine Zl ?_
  refine W10 (.inr rfl) (Zi rfl rfl) ?_
  exact W64
 ·try simp only [qB, qN] at hg1
  refine Of u20 rfl ?_
  refine Of u20 rfl ?_
  refine ZT [] XH2 (trivial) ?_
  refine P_seg [5, 6, 7] (bef := #[0, 1, 3, 7, 7, 31, 63, 127]) XH2 XH2 XH2 ?_
  refine Of u20 rfl ?_
  refine Oo u20 .calm rfl (Zz (VVal.bool false) rfl rfl rfl) ?_
  refine Oo u20 .calm rfl (Zb (.inr rfl) rfl) ?_
  refine ZT [] XH2 (trivial) ?_
  refine P_end XH2 ?_
  refine Zc (Zl ?_)
  refine W10 (.inr rfl) (Zi rfl rfl) ?_
  exact W64
theorem Needed_spec {x : SW} (H : Ze) (p : Pb) (hp : PbL p) : F (psys x) 50 [.agg (pbB p)] H fun v G => v = iW (neP p) ∧ G = H := by
 refine Zr Tryd.func50 rfl u24 rfl ?_
 refine Zd (Za ?_)
 refine Lo u24 (Zv rfl rfl rfl) ?_
 refine Lo u24 (Zg (VVal.int .u64 0) (.inr rfl) rfl) ?_
 refine Zf (Zc (Zd (Zd ?_)))
 refine Z5 (Gh.freezePtrL (cs := pbB p) 1 0 rfl rfl rfl) ?_
 refine Za ?_
 refine Lo u24 (W24 rfl rfl rfl rfl rfl) ?_
 refine Zn rfl rfl rfl (by exact bears_spec _ p hp 0#64) ?_
 rintro _ _ ⟨rfl, rfl⟩
 refine Le u24 ?_
 refine Lo u24 (rfl) ?_
 refine Zf (Zc ?_)
 refine Zp _ rfl (fun hc1 => ?_) (fun hc1 => ?_)
 ·try simp only [qB, qN] at hc1
  refine Zd (Za ?_)
  refine Lo u24 (Zg (VVal.int .u64 0) (.inr rfl) rfl) ?_
  refine Zf (Zc (Zl (Zq ?_)))
  refine W10 (.inr rfl) (Zi rfl rfl) ?_
  exact W65
 ·try simp only [qB, qN] at hc1
  refine Zj (Zc (Zd ?_))
  have hb : brs p 0#64 = true := by simpa using hc1
  have g := brs_good hb
  have g1 := g.u0; have g2 := g.u64
  refine Za ?_
  refine Lo u24 (Zg (VVal.int .u64 0) (.inr rfl) rfl) ?_
  refine Zf (Zc (Zd (Zd (Za ?_))))
  refine Lo u24 (rfl) ?_
  refine Lo u24 (W26 rfl rfl rfl rfl) ?_
  refine Lo u24 (Zg (VVal.int .i64 0) (.inl rfl) rfl) ?_
  refine Zf (Zc (Zo ?_))
  refine ZB (mk 24 16775669) (env' := u24) rfl ?_
  refine ZF (fun (u : Nat) => p.users.toNat - u) (fun (u : Nat) => [(3, iW (neN (loB p) u)), (10, iI (u : Nat))]) (fun (u : Nat) G => (u ≤ p.users.toNat) ∧ G = H ++ [.dead]) 0 rfl ?_ ?_
  ·refine ⟨?_, rfl⟩
   exact Nat.zero_le _
  rintro u _ ⟨hu9, rfl⟩
  refine ZU (env' := u24) rfl ?_
  refine Zd (Za ?_)
  refine Lo u24 (rfl) ?_
  refine Zf (Zc (Zd ?_))
  refine Zp _ rfl (fun hc2 => ?_) (fun hc2 => ?_)
  ·try simp only [qB, qN] at hc2
   refine Zj (Zc (Zd (Zo (Zd (Za ?_)))))
   refine Lo u24 (Zb (.inl rfl) rfl) ?_
   refine Lo u24 (Zb (.inr rfl) rfl) ?_
   refine Zf (Zc (Zd ?_))
   refine ZY [0, 1, 2, 3, 4] #[0, 0, 2, 7, 15] XH2 XH2 XH2 ?_
   refine Oo u24 .look rfl (W24 rfl rfl rfl rfl rfl) ?_
   refine Oo u24 .calm rfl (Zb (.inl rfl) rfl) ?_
   refine Oo u24 .calm rfl (v_shl1 rfl rfl rfl XH5) ?_
   refine ZZ (env' := u24) rfl rfl rfl rfl rfl (by exact bears_spec _ p hp (1#64 <<< u)) XH8 rfl rfl ?_
   refine Oo u24 .calm rfl (rfl) ?_
   refine ZT [] XH2 (trivial) ?_
   refine Zc ?_
   refine Zp _ rfl (fun hc3 => ?_) (fun hc3 => ?_)
   ·try simp only [qB, qN] at hc3
    have hl : loB p (1#64 <<< u) = true := by unfold loB; simpa using hc3
    refine Za ?_
    refine Lo u24 (Zb (.inl rfl) rfl) ?_
    refine Lo u24 (Zb (.inl rfl) rfl) ?_
    refine Lo u24 (v_shl1 rfl rfl rfl XH5) ?_
    refine Lo u24 (v_orW rfl rfl rfl) ?_
    refine Lo u24 (Zb (.inr rfl) rfl) ?_
    refine Zf (Zx (Zc (Za ?_)))
    refine Lo u24 (W14 rfl rfl rfl) ?_
    refine Lo u24 (Zb (.inl rfl) rfl) ?_
    refine Zf ?_
    refine ZE (mk 24 16775669) (env' := u24) rfl ⟨u + 1, ?_, (by first | (rw [neN_yes hl]; rfl) | (rw [neN_no hl]; rfl)), ?_⟩
    ·first | omega | (simp only []; omega)
    ·exact ⟨by omega, rfl⟩
   ·try simp only [qB, qN] at hc3
    have hl : loB p (1#64 <<< u) = false := by unfold loB; simpa using hc3
    refine Zj (Zx (Zc (Za ?_)))
    refine Lo u24 (W14 rfl rfl rfl) ?_
    refine Lo u24 (Zb (.inl rfl) rfl) ?_
    refine Zf ?_
    refine ZE (mk 24 16775669) (env' := u24) rfl ⟨u + 1, ?_, (by first | (rw [neN_yes hl]; rfl) | (rw [neN_no hl]; rfl)), ?_⟩
    ·first | omega | (simp only []; omega)
    ·exact ⟨by omega, rfl⟩
  ·try simp only [qB, qN] at hc2
   refine ZL (ZJ (ZA (ZK (Zc (Zd (Za ?_))))))
   refine Lo u24 (Zb (.inl rfl) rfl) ?_
   refine Lo u24 (Zb (.inr rfl) rfl) ?_
   refine Zf (Zc (Zl ?_))
   refine W10 (.inr rfl) (Zi rfl rfl) ?_
   exact W65
abbrev u5 {a0 a1 a2 a3 a4 : VVal} : VEnv := a0 :: a1 :: a2 :: a3 :: a4 :: []
abbrev u47 {a0 a1 a2 a3 a4 a5 a6 a7 a8 a9 a10 a11 a12 a13 a14 a15 a16 a17 a18 a19 a20 a21 a22 a23 a24 a25 a26 a27 a28 a29 a30 a31 a32 a33 a34 a35 a36 a37 a38 a39 a40 a41 a42 a43 a44 a45 a46 : VVal} : VEnv := a0 :: a1 :: a2 :: a3 :: a4 :: a5 :: a6 :: a7 :: a8 :: a9 :: a10 :: a11 :: a12 :: a13 :: a14 :: a15 :: a16 :: a17 :: a18 :: a19 :: a20 :: a21 :: a22 :: a23 :: a24 :: a25 :: a26 :: a27 :: a28 :: a29 :: a30 :: a31 :: a32 :: a33 :: a34 :: a35 :: a36 :: a37 :: a38 :: a39 :: a40 :: a41 :: a42 :: a43 :: a44 :: a45 :: a46 :: []
theorem W6e {P : Prop} (h : P := by first | (obtain ⟨l, hl⟩ := Option.isSome_iff_exists.1 (show (fiN (loB p) p.users.toNat m (t ++ [v]) (v + 1)).isSome = true by simpa using hc2); exact ⟨by rw [fiN_s, hv2, fiS_hit (f := fun v => fiN (loB p) p.users.toNat m (t ++ [v]) (v + 1)) (l := l) (by omega) hl, hl]; rfl, rfl⟩) | exact ⟨by rw [fiN_s, hv2, fiS_end (by omega)]; rfl, rfl⟩) : P := h
theorem SWord_spec {x : SW} (H : Ze) (w : BitVec 64) : F (psys x) 122 [.agg [iW w]] H fun v G => v = iW w ∧ G = H := by
 refine Zr Tryd.func122 rfl u5 rfl ?_
 refine Zd (Za ?_)
 refine Lo u5 (Zv rfl rfl rfl) ?_
 refine Lo u5 (Zg (VVal.int .u64 0) (.inr rfl) rfl) ?_
 refine Zf (Zc (Zd (Za ?_)))
 refine Lo u5 (rfl) ?_
 refine Lo u5 (W12 rfl rfl rfl rfl) ?_
 refine Lo u5 (Zb (.inr rfl) rfl) ?_
 refine Zf (Zc (Zl ?_))
 refine W10 (.inr rfl) (Zi rfl rfl) ?_
 exact ⟨rfl, rfl⟩
theorem SWith_spec {x : SW} (H : Ze) (w : BitVec 64) (u : Nat) (hu : u < 64) : F (psys x) 123 [.agg [iW w], iI (u : Nat)] H fun v G => v = .tuple [.agg [iW (w ||| 1#64 <<< u)], iI 0] ∧ G = H := by
 refine Zr Tryd.func123 rfl u17 rfl ?_
 refine Zd (Za ?_)
 refine Lo u17 (Zv rfl rfl rfl) ?_
 refine Lo u17 (Zs rfl rfl) ?_
 refine Lo u17 (Zg (VVal.int .i64 0) (.inr rfl) rfl) ?_
 refine Zf (Zc (Zd (Zd (Za ?_))))
 refine Lo u17 (W11 rfl rfl rfl rfl rfl) ?_
 refine Lo u17 (Zb (.inl rfl) rfl) ?_
 refine Zn rfl rfl rfl (by exact within_spec _ _ _) ?_
 rintro v _ ⟨hv, rfl⟩; obtain rfl : v = .bool true := hv.trans (congrArg VVal.bool (by first | exact decide_eq_true (by omega) | simp; omega))
 refine Le u17 ?_
 refine Lo u17 (rfl) ?_
 refine Zf (Zc ?_)
 refine ZG rfl rfl ?_
 refine Zj (Zc (Zd ?_))
 refine ZY [0, 1, 2, 3, 4, 5, 6, 7] #[0, 1, 0, 4, 15, 31, 63, 127] XH2 XH2 XH2 ?_
 refine Oo u17 .calm rfl (rfl) ?_
 refine Oo u17 .look rfl (W12 rfl rfl rfl rfl) ?_
 refine Oo u17 .calm rfl (Zb (.inl rfl) rfl) ?_
 refine Oo u17 .calm rfl (v_shl1 rfl rfl rfl XH5) ?_
 refine Oo u17 .calm rfl (v_orW rfl rfl rfl) ?_
 refine Oo u17 .calm rfl (rfl) ?_
 refine Oo u17 .turn rfl (W13 rfl rfl rfl rfl rfl rfl rfl) ?_
 refine Oo u17 .calm rfl (Zg (VVal.int .i64 0) (.inr rfl) rfl) ?_
 refine ZT [] XH2 (trivial) ?_
 refine Zc (Zl ?_)
 refine W10 (.inr rfl) (Yr rfl rfl rfl rfl XH12 XH9 rfl) ?_
 exact ⟨rfl, rfl⟩
theorem first_0 {x : SW} (p : Pb) (hp : PbL p) (g : Go.V.Good p) (H : Ze) (t : List Nat) (u : Nat) (hu : ln (wl t) = u) : F (psys x) 88 [.agg (pbB p), .agg [iW (wl t)], iI 0] H fun v G => v = .tuple [.agg [iW (wl ((fiN (loB p) p.users.toNat 0 t u).getD t))], .bool (fiN (loB p) p.users.toNat 0 t u).isSome] ∧ G = H := by
 refine Zr Tryd.func88 rfl u47 rfl ?_
 refine Zd (Za ?_)
 refine Lo u47 (Zv rfl rfl rfl) ?_
 refine Lo u47 (Zv rfl rfl rfl) ?_
 refine Lo u47 (Zs rfl rfl) ?_
 refine Lo u47 (Zg (VVal.bool false) (.inr rfl) rfl) ?_
 refine Zf (Zc (Zd (Zd ?_)))
 refine Z5 (Gh.freezePtrL (cs := pbB p) 3 0 rfl rfl rfl) ?_
 refine Za ?_
 refine Lo u47 (Zb (.inl rfl) rfl) ?_
 refine Lo u47 (Yn true rfl rfl) ?_
 refine Zf (Zc ?_)
 refine ZX rfl rfl ?_
 refine Zd ?_
 refine ZY [0, 1, 2, 3, 4, 5, 6, 7] #[0, 0, 0, 4, 14, 30, 31, 127] XH2 XH2 XH2 ?_
 refine Z6 (env' := u47) (x := .look _ _) rfl rfl rfl (W24 rfl rfl rfl rfl rfl) rfl rfl rfl ?_
 refine Z6 (env' := u47) (x := .look _ _) rfl rfl rfl (W24 rfl rfl rfl rfl rfl) rfl rfl rfl ?_
 refine Oo u47 .look rfl (W24 rfl rfl rfl rfl rfl) ?_
 refine ZZ (env' := u47) rfl rfl rfl rfl rfl (by exact SWord_spec _ _) XH8 rfl rfl ?_
 refine ZZ (env' := u47) rfl rfl rfl rfl rfl (by exact bears_spec _ p hp (wl t)) XH8 rfl rfl ?_
 refine Oo u47 .calm rfl (rfl) ?_
 refine Oo u47 .turn rfl (W13 rfl rfl rfl rfl rfl rfl rfl) ?_
 refine Oo u47 .calm rfl (Zb (.inr rfl) rfl) ?_
 refine O_nilP [(0, 3), (0, 4), (1, 3)] XH2 (And.intro ⟨_, _, _, _, ⟨(gA (gA (gA (gA (gA (gA (gA (gL XH2)))))))), (gA (gA (gA (gA (gL XH2))))), And.intro (W24 rfl rfl rfl rfl rfl) (W24 rfl rfl rfl rfl rfl)⟩⟩ (And.intro ⟨_, _, _, _, ⟨(gA (gA (gA (gA (gA (gA (gA (gL XH2)))))))), (gA (gA (gA (gL XH2)))), And.intro (W24 rfl rfl rfl rfl rfl) (W24 rfl rfl rfl rfl rfl)⟩⟩ (And.intro ⟨_, _, _, _, ⟨(gA (gA (gA (gA (gA (gA (gL XH2))))))), (gA (gA (gA (gA (gL XH2))))), And.intro (W24 rfl rfl rfl rfl rfl) (W24 rfl rfl rfl rfl rfl)⟩⟩ (trivial)))) ?_
 refine Zc (Zl (Zq ?_))
 refine W10 (.inr rfl) (Yr rfl rfl rfl rfl XH12 XH4 rfl) ?_
 refine ⟨?_, rfl⟩
 rw [fiN_0]
 cases hl : brs p (wl t)
 ·rw [if_pos (by unfold loB; rw [hl]; rfl)]; rfl
 ·rw [if_neg (by unfold loB; rw [hl]; decide)]; rfl
theorem first_in {x : SW} {p : Pb} {H : Ze} {t : List Nat} {v : Nat} {m : VVal} {R : VVal → Ze → Prop} (h : F (psys x) 88 [.agg (pbB p), .agg [iW (wl (t ++ [v]))], m] H R) : F (psys x) 88 [.agg (pbB p), .agg [iW (wl t ||| 1#64 <<< v)], m] H R := by rw [wl_snoc] at h; exact h
theorem first_s {x : SW} (p : Pb) (hp : PbL p) (g : Go.V.Good p) (m : Nat) (hm9 : m + 1 ≤ 100) (ih : ∀ (H : Ze) (t : List Nat) (u : Nat) (hu : ln (wl t) = u), F (psys x) 88 [.agg (pbB p), .agg [iW (wl t)], iI (m : Nat)] H (fun v G => v = .tuple [.agg [iW (wl ((fiN (loB p) p.users.toNat m t u).getD t))], .bool (fiN (loB p) p.users.toNat m t u).isSome] ∧ G = H)) (H : Ze) (t : List Nat) (u : Nat) (hu : ln (wl t) = u) : F (psys x) 88 [.agg (pbB p), .agg [iW (wl t)], iI ((m + 1 : Nat) : Int)] H fun v G => v = .tuple [.agg [iW (wl ((fiN (loB p) p.users.toNat (m + 1) t u).getD t))], .bool (fiN (loB p) p.users.toNat (m + 1) t u).isSome] ∧ G = H := by
 have g1 := g.u0; have g2 := g.u64
 have h64 := ln_64 (wl t)
 refine Zr Tryd.func88 rfl u47 rfl ?_
 refine Zd (Za ?_)
 refine Lo u47 (Zv rfl rfl rfl) ?_
 refine Lo u47 (Zv rfl rfl rfl) ?_
 refine Lo u47 (Zs rfl rfl) ?_
 refine Lo u47 (Zg (VVal.bool false) (.inr rfl) rfl) ?_
 refine Zf (Zc (Zd (Zd ?_)))
 refine Z5 (Gh.freezePtrL (cs := pbB p) 3 0 rfl rfl rfl) ?_
 refine Za ?_
 refine Lo u47 (Zb (.inl rfl) rfl) ?_
 refine Lo u47 (Yn false rfl (by simp; omega)) ?_
 refine Zf (Zc ?_)
 refine ZG rfl rfl ?_
 refine Zj (Zc (Zd (Zd (Za ?_))))
 refine Lo u47 (W24 rfl rfl rfl rfl rfl) ?_
 refine Zn rfl rfl rfl (by exact High_spec _ _) ?_
 rintro _ _ ⟨rfl, rfl⟩
 refine Le u47 ?_
 refine Lo u47 (v_val (v_addI rfl rfl rfl (by omega)) (show iI ((((ln (wl t) : Nat) : Int) - 1) + 1) = iI (u : Nat) by congr 1; omega)) ?_
 refine Lo u47 (Zb (.inr rfl) rfl) ?_
 refine Zf (Zc (Zo ?_))
 refine ZB (mk 47 140737488354979) (env' := u47) rfl ?_
 refine ZF (fun (v : Nat) => p.users.toNat - v) (fun (v : Nat) => [(8, iI (v : Nat))]) (fun (v : Nat) G => (u ≤ v ∧ fiS (fun v => fiN (loB p) p.users.toNat m (t ++ [v]) (v + 1)) u (p.users.toNat - u) = fiS (fun v => fiN (loB p) p.users.toNat m (t ++ [v]) (v + 1)) v (p.users.toNat - v)) ∧ ∃ X, G = (H ++ [.dead, .cells [iW (wl t)] true, .cells [iW 0#64] true]) ++ X) u rfl ?_ ?_
 ·refine ⟨?_, ⟨[], (List.append_nil _).symm⟩⟩
  exact ⟨Nat.le_refl _, rfl⟩
 rintro v _ ⟨⟨hv1, hv2⟩, ⟨X, rfl⟩⟩
 refine ZU (env' := u47) rfl ?_
 refine Zd (Zd (Za ?_))
 refine Lo u47 (Zb (.inl rfl) rfl) ?_
 refine Lo u47 (rfl) ?_
 refine Lo u47 (W26 rfl rfl rfl rfl) ?_
 refine Lo u47 (rfl) ?_
 refine Zf (Zc ?_)
 refine Zp _ rfl (fun hc1 => ?_) (fun hc1 => ?_)
 ·try simp only [qB, qN] at hc1
  refine Zj (Zc (Zd (Zo (Zd (Za ?_)))))
  refine Lo u47 (W24 rfl rfl rfl rfl rfl) ?_
  refine Lo u47 (Zb (.inl rfl) rfl) ?_
  refine Zn rfl rfl rfl (by exact SWith_spec _ _ v (by omega)) ?_
  rintro _ _ ⟨rfl, rfl⟩
  refine Le u47 ?_
  refine Lo u47 (Zb (.inl rfl) rfl) ?_
  refine Lo u47 (rfl) ?_
  refine Lo u47 (rfl) ?_
  refine Lo u47 (Zs rfl rfl) ?_
  refine Lo u47 (W13 rfl rfl rfl rfl rfl rfl rfl) ?_
  refine Lo u47 (Zb (.inr rfl) rfl) ?_
  refine Zf (Zc (Zd (Za ?_)))
  refine Lo u47 (W24 rfl rfl rfl rfl rfl) ?_
  refine Lo u47 (W24 rfl rfl rfl rfl rfl) ?_
  refine Lo u47 (Zb (.inl rfl) rfl) ?_
  refine Lo u47 (v_val (v_subI rfl rfl rfl (by omega)) (show iI ((((m + 1 : Nat) : Int)) - 1) = iI (m : Nat) by congr 1; omega)) ?_
  refine Zn rfl rfl rfl (by exact first_in (ih _ (t ++ [v]) (v + 1) (by rw [wl_snoc]; exact ln_snoc (by omega) (by omega)))) ?_
  rintro _ _ ⟨rfl, rfl⟩
  refine Le u47 ?_
  refine Lo u47 (Zb (.inl rfl) rfl) ?_
  refine Lo u47 (rfl) ?_
  refine Lo u47 (rfl) ?_
  refine Lo u47 (Zs rfl rfl) ?_
  refine Lo u47 (W13 rfl rfl rfl rfl rfl rfl rfl) ?_
  refine Lo u47 (Zb (.inr rfl) rfl) ?_
  refine Zf (Zc (Zd (Za ?_)))
  refine Lo u47 (Zb (.inl rfl) rfl) ?_
  refine Zf (Zc ?_)
  refine Zp _ rfl (fun hc2 => ?_) (fun hc2 => ?_)
  ·try simp only [qB, qN] at hc2
   refine Zd (Za ?_)
   refine Lo u47 (W24 rfl rfl rfl rfl rfl) ?_
   refine Lo u47 (W13 rfl rfl rfl rfl rfl rfl rfl) ?_
   refine Lo u47 (Zg (VVal.bool true) (.inr rfl) rfl) ?_
   refine Zf (Zc ?_)
   refine Yl (List.append_assoc _ _ _) ?_
   refine Zl (ZN (Zq (Yf (ZN (Zq ?_)))))
   refine W10 (.inr rfl) (Yr rfl rfl rfl rfl XH0 XH4 rfl) ?_
   exact W6e
  ·try simp only [qB, qN] at hc2
   refine Zj (Zx (Zc (Za ?_)))
   refine Lo u47 (Zb (.inl rfl) rfl) ?_
   refine Lo u47 (W14 rfl rfl rfl) ?_
   refine Lo u47 (Zb (.inr rfl) rfl) ?_
   refine Zf ?_
   refine ZE (mk 47 140737488354979) (env' := u47) rfl ⟨v + 1, ?_, rfl, ?_⟩
   ·first | omega | (simp only []; omega)
   ·exact ⟨⟨by omega, hv2.trans (fiS_on (by omega) (by simpa using hc2))⟩, _, by rw [List.append_assoc, List.append_assoc]⟩
 ·try simp only [qB, qN] at hc1
  refine ZL (ZJ (ZA (ZK (Zc (Zd (Za ?_))))))
  refine Lo u47 (W24 rfl rfl rfl rfl rfl) ?_
  refine Lo u47 (W13 rfl rfl rfl rfl rfl rfl rfl) ?_
  refine Lo u47 (Zg (VVal.bool false) (.inr rfl) rfl) ?_
  refine Zf (Zc ?_)
  refine Yl (List.append_assoc _ _ _) ?_
  refine Zl ?_
  refine W10 (.inr rfl) (Yr rfl rfl rfl rfl XH0 XH4 rfl) ?_
  exact W6e
theorem first_spec {x : SW} (p : Pb) (hp : PbL p) (g : Go.V.Good p) : ∀ (m : Nat) (hm9 : m ≤ 100) (H : Ze) (t : List Nat) (u : Nat) (hu : ln (wl t) = u), F (psys x) 88 [.agg (pbB p), .agg [iW (wl t)], iI (m : Nat)] H (fun v G => v = .tuple [.agg [iW (wl ((fiN (loB p) p.users.toNat m t u).getD t))], .bool (fiN (loB p) p.users.toNat m t u).isSome] ∧ G = H)
  | 0, _, H, t, u, hu => first_0 p hp g H t u hu
  | m + 1, h, H, t, u, hu => first_s p hp g m h (fun H t u hu => first_spec p hp g m (by omega) H t u hu) H t u hu
section
variable {H X : Ze} {g : Gz} {a b c d w : VVal}
end
theorem LV.pushN {h : Nat} {X : Ze} {v : VVal} {l : List Nat} {n : Nat} (r : LV h 1 X v (rcN l ++ [iI (n : Nat)]) (l.length + 1)) : LV h 1 X v (rcN (l ++ [n])) (l ++ [n]).length := by
  rw [rcN_snoc, List.length_append]; exact r
abbrev u28 {a0 a1 a2 a3 a4 a5 a6 a7 a8 a9 a10 a11 a12 a13 a14 a15 a16 a17 a18 a19 a20 a21 a22 a23 a24 a25 a26 a27 : VVal} : VEnv := a0 :: a1 :: a2 :: a3 :: a4 :: a5 :: a6 :: a7 :: a8 :: a9 :: a10 :: a11 :: a12 :: a13 :: a14 :: a15 :: a16 :: a17 :: a18 :: a19 :: a20 :: a21 :: a22 :: a23 :: a24 :: a25 :: a26 :: a27 :: []
abbrev u30 {a0 a1 a2 a3 a4 a5 a6 a7 a8 a9 a10 a11 a12 a13 a14 a15 a16 a17 a18 a19 a20 a21 a22 a23 a24 a25 a26 a27 a28 a29 : VVal} : VEnv := a0 :: a1 :: a2 :: a3 :: a4 :: a5 :: a6 :: a7 :: a8 :: a9 :: a10 :: a11 :: a12 :: a13 :: a14 :: a15 :: a16 :: a17 :: a18 :: a19 :: a20 :: a21 :: a22 :: a23 :: a24 :: a25 :: a26 :: a27 :: a28 :: a29 :: []
theorem W6h {T : TypeId → Option VTy} {H : Ze} {op : Op} {ρ : Operand → VVal} {t : TypeId} {a : Operand} {y : VTy} {p v : VVal} (ho : op = .load t a) (ha : ρ a = p) (hy : T t = some y) (hd : Zm y.desc = false) (h : LdOk H p v := by first | exact .inl ⟨_, _, rfl, XH35⟩ | exact .inr ⟨_, _, _, _, rfl, by exact getB rfl rfl, XH35⟩) : vop T ρ H op = some (v, H) := YE ho ha hy hd h
theorem W6i {T : TypeId → Option VTy} {H : Ze} {op : Op} {ρ : VEnv} {H' : Ze} {t : TypeId} {a : Operand} {i : Nat} {v : VVal} {y : VTy} {b off : Nat} {cs new : List VVal} (ho : op = .store t a (.tmp i)) (hv : ρ[i]? = some v) (ha : ρ.eval a = .ptr (some (b, off))) (hy : T t = some y) (hx : v.cells = some new) (hn : new.length = y.size) (h1 : new.all VVal.one = true) (hb : H[b]? = some (.cells cs true) := by exact getB rfl rfl) (hl : off + new.length ≤ cs.length := by exact XH37) (hH : H.set b (.cells (ZD cs off new) true) = H' := by exact setB rfl (show 1 < 3 by decide)) : vop T ρ.eval H op = some (.skip, H') := Z0 ho hv ha hy hx hn h1 hb hl hH
theorem W6k {S : V.Sys} {H : Ze} {fn : Func} {ex : Exit} {env : VEnv} {B L : Ze} {v : VVal} {R : VVal → Ze → Prop} (hx : ex = .normal ∨ ex = .ret) (hv : ZS S.C.T env (B ++ L) fn.results = some v) (h : R v B) (hB : BaseOk H B := by exact XH38) (hu : v.under H.length = true := by exact mapN_under _ _) : fnK S fn H R ex env (B ++ L) := E_app hx hv hB hu h
theorem W6m {S : V.Sys} {H : Ze} {fn : Func} {ex : Exit} {env : VEnv} {B L : Ze} {v : VVal} {R : VVal → Ze → Prop} (hx : ex = .normal ∨ ex = .ret) (hv : ZS S.C.T env (B ++ L) fn.results = some v) (h : R v B) (hB : BaseOk H B := by exact XH38) (hu : v.under H.length = true := by first | rfl | exact (show ((fzN _).under H.length && (true && true)) = true by rw [show (fzN _).under H.length = true from mapN_under _ _]; rfl)) : fnK S fn H R ex env (B ++ L) := E_app hx hv hB hu h
theorem W6n {P : Prop} (h : P := by first | exact ⟨by rw [waV_no (waN_no (by omega))]; rfl, rfl⟩ | exact ⟨by rw [he, h3 XH26, (by first | assumption | simp_all : ok = false)]; rfl, rfl⟩ | (have hok : ok = true := by first | assumption | simp_all); exact ⟨by rw [he, hok, h2 hok]; show VVal.tuple [fzN (pl (wl l) 0), .bool true] = _; rw [fi_pl g (hwa.symm.trans (h2 hok))], rfl⟩) : P := h
theorem W6q {P : Prop} (h : P := by first | exact ⟨congrArg iI (grN_no (by assumption)).symm, rfl⟩ | exact ⟨congrArg iI ((grN_in XH26).trans (hgr.trans (grS_hit (by omega) (h1.symm.trans XH26)))).symm, rfl⟩ | exact ⟨congrArg iI ((grN_in XH26).trans (hgr.trans (grS_end (by omega)))).symm, rfl⟩) : P := h
theorem Places_spec {x : SW} (H : Ze) (w : BitVec 64) : F (psys x) 89 [.agg [iW w]] H fun v G => v = fzN (pl w 0) ∧ G = H := by
 refine Zr Tryd.func89 rfl u13 rfl ?_
 refine Zd (Za ?_)
 refine Lo u13 (Zv rfl rfl rfl) ?_
 refine Lo u13 (Zg (VVal.slice none 0 0 true 0) (.inr rfl) rfl) ?_
 refine Zf (Zc (Zd (Za ?_)))
 refine Lo u13 (Zs rfl rfl) ?_
 refine Zf (Zc (Zd (Zd ?_)))
 refine Z5 (Gh.freezePtrL (cs := [iW w]) 1 0 rfl rfl rfl) ?_
 refine Za ?_
 refine Lo u13 (W11 rfl rfl rfl rfl rfl) ?_
 refine Zn rfl rfl rfl (by exact All_spec _ _) ?_
 rintro _ _ ⟨rfl, rfl⟩
 refine Le u13 ?_
 refine Zf (Zc (Zo ?_))
 refine ZB (mk 13 8119) (env' := u13) rfl ?_
 refine B_rangeM cI (pl w 0) (fun l0 h => by cases h) rfl (fun l G R h => All1_spec _ _ _ _ h) (σ := VVal × Ze) (fun k s => (H ++ [.dead, .cells [s.1] true, k]) ++ s.2) (.slice none 0 0 true 0, []) (fun k => by rw [List.append_assoc]; exact (List.append_nil _).symm) (fun k s => by rw [List.length_append]; exact getB rfl rfl) (fun k k1 s => by rw [List.length_append]; exact setB rfl (show 2 < 3 by decide)) (fun pre s => LV (H.length + 3) 1 s.2 s.1 (rcN pre) pre.length) ?_ (fun j pre c s => False) rfl ?_ ?_ ?_
 ·exact LV.nil _ _ _
 ·intro pre c post s hx hI kr kb hkr hkb
  obtain ⟨lv, X⟩ := s
  try dsimp only at hI ⊢
  have hc : c ∈ pl w 0 := by rw [hx]; simp
  have hpl : pre.length < 64 := by have h9 := pl_le w; rw [hx, List.length_append, List.length_cons] at h9; omega
  refine ZU (env' := u13) rfl ?_
  refine Za ?_
  refine Lo u13 (Zb (.inr rfl) rfl) ?_
  refine Zf ?_
  refine ⟨rfl, (lv, X), rfl, ?_⟩
  try dsimp only
  refine Zo (Za ?_)
  refine Lo u13 (W6h rfl rfl rfl rfl) ?_
  refine Lo u13 (Zb (.inl rfl) rfl) ?_
  refine Lo u13 (ZC rfl rfl (by decide) rfl) ?_
  refine L_opX rfl rfl (YG rfl rfl rfl rfl rfl rfl rfl (by simp) hI rfl rfl (by decide) (by show (pre.length + 1) * 8 ≤ _ ∧ _; omega) (by decide)) ?_
  rintro _ _ ⟨Y3, rfl, rfl, hY1, hY2, hY3⟩
  refine Le u13 ?_
  refine Lo u13 (W6i rfl rfl rfl rfl rfl rfl rfl) ?_
  refine Zf (Zx ?_)
  refine ⟨(_, _), rfl, .inl ⟨rfl, ?_⟩⟩
  rw [List.length_append]; exact LV.pushN hY3
 ·intro s k hk hI
  obtain ⟨lv, X⟩ := s
  try dsimp only at hI ⊢
  refine Zx (Zc (Zd ?_))
  refine B_ghCell (H := H) 1 0 hI rfl rfl (by simp) fun X5 _ _ => ?_
  refine Yl (List.append_assoc _ _ _) ?_
  refine Za ?_
  refine Lo u13 (W12 rfl rfl rfl rfl) ?_
  refine Lo u13 (Zb (.inr rfl) rfl) ?_
  refine Zf (Zc (Zl ?_))
  refine W6k (.inr rfl) (Zi rfl rfl) ?_
  exact ⟨rfl, rfl⟩
 ·rintro j pre c post s k hk hx ⟨⟩
def waV (p : Pb) (m : Int) : VVal := match waN p m with
  | some l => .tuple [fzN l, .bool true]
  | none => .tuple [fzN [], .bool false]
theorem waV_eq (p : Pb) (m : Int) : ∃ l ok, waV p m = .tuple [fzN l, .bool ok] ∧ ok = (waN p m).isSome ∧ (ok = true → waN p m = some l) ∧ (ok = false → l = []) := by
  unfold waV
  cases h : waN p m with
  | none => exact ⟨[], false, rfl, rfl, fun e => (by cases e), fun _ => rfl⟩
  | some l => exact ⟨l, true, rfl, rfl, fun _ => rfl, fun e => by cases e⟩
theorem waV_no {p : Pb} {m : Int} (h : waN p m = none) : waV p m = .tuple [fzN [], .bool false] := by unfold waV; rw [h]
theorem waV_some {p : Pb} {m : Int} {l : List Nat} (h : waN p m = some l) : waV p m = .tuple [fzN l, .bool true] := by unfold waV; rw [h]
theorem grN_no {p : Pb} (h : ¬ pck p = 0) : grN p = -1 := if_neg h
theorem grN_in {p : Pb} (h : pck p = 0) : grN p = grS (fun k => (waN p (k : Nat)).isSome) 0 (4 - 0) := if_pos h
theorem waN_no {p : Pb} {m : Int} (h : ¬ (pck p = 0 ∧ 0 ≤ m ∧ m ≤ 3)) : waN p m = none := if_neg h
theorem waN_in {p : Pb} {m : Int} (h : pck p = 0 ∧ 0 ≤ m ∧ m ≤ 3) : waN p m = fiN (loB p) p.users.toNat m.toNat [] 0 := if_pos h
theorem fi_pl {p : Pb} {m : Nat} {l : List Nat} (g : Go.V.Good p) (h : fiN (loB p) p.users.toNat m [] 0 = some l) : pl (wl l) 0 = l := by
  have g2 := g.u64
  obtain ⟨h1, h2, _, _⟩ := fiN_asc (by omega) (by simp) (fun x hx => by cases hx) h
  exact pl_wl h1 fun x hx => by have := h2 x hx; omega
theorem Weak_spec {x : SW} (H : Ze) (p : Pb) (hp : PbL p) (m : Int) (hm : -9223372036854775808 ≤ m ∧ m < 9223372036854775808) : F (psys x) 48 [.agg (pbB p), iI m] H fun v G => v = waV p m ∧ G = H := by
 refine Zr Tryd.func48 rfl u30 rfl ?_
 refine Zd (Za ?_)
 refine Lo u30 (Zv rfl rfl rfl) ?_
 refine Lo u30 (Zg (VVal.slice none 0 0 true 0) (.inr rfl) rfl) ?_
 refine Lo u30 (Zg (VVal.bool false) (.inr rfl) rfl) ?_
 refine Zf (Zc (Zd (Zd ?_)))
 refine Z5 (Gh.freezePtrL (cs := pbB p) 2 0 rfl rfl rfl) ?_
 refine Za ?_
 refine Lo u30 (W24 rfl rfl rfl rfl rfl) ?_
 refine Zn rfl rfl rfl (by exact Ye _ p hp) ?_
 rintro _ _ ⟨rfl, rfl⟩
 refine Le u30 ?_
 refine Lo u30 (rfl) ?_
 refine Lo u30 (Zb (.inl rfl) rfl) ?_
 refine ZQ 11 (env1 := u30) (env2 := u30) rfl rfl rfl (fun hg1 => ?_) (fun hg1 => ?_)
 ·try simp only [qB, qN] at hg1
  refine Lf u30 ?_
  refine Lf u30 ?_
  refine Lo u30 (Yh (VVal.bool true) rfl rfl rfl) ?_
  refine Lo u30 (Zb (.inl rfl) rfl) ?_
  refine Lf u30 ?_
  refine Lf u30 ?_
  refine Lo u30 (Yh (VVal.bool true) rfl rfl rfl) ?_
  refine Zf (Zc ?_)
  refine ZX rfl rfl ?_
  refine Zd (Za ?_)
  refine Lo u30 (Zg (VVal.slice none 0 0 true 0) (.inr rfl) rfl) ?_
  refine Lo u30 (Zg (VVal.bool false) (.inr rfl) rfl) ?_
  refine Zf (Zc ?_)
  first | refine Z5 (Gh.freezeNil 4 (es' := 1) rfl rfl) ?_ | skip
  refine Zl (Zq ?_)
  refine W6m (.inr rfl) (vres_tmp2 rfl rfl rfl) ?_
  exact W6n
 ·try simp only [qB, qN] at hg1
  refine Lo u30 (Zb (.inl rfl) rfl) ?_
  refine Lo u30 (rfl) ?_
  refine Lo u30 (ZP rfl rfl rfl) ?_
  refine Lo u30 (Zb (.inl rfl) rfl) ?_
  refine ZQ 15 (env1 := u30) (env2 := u30) rfl rfl rfl (fun hg2 => ?_) (fun hg2 => ?_)
  ·try simp only [qB, qN] at hg2
   refine Lf u30 ?_
   refine Lf u30 ?_
   refine Lo u30 (Yh (VVal.bool true) rfl rfl rfl) ?_
   refine Zf (Zc ?_)
   refine ZX rfl rfl ?_
   refine Zd (Za ?_)
   refine Lo u30 (Zg (VVal.slice none 0 0 true 0) (.inr rfl) rfl) ?_
   refine Lo u30 (Zg (VVal.bool false) (.inr rfl) rfl) ?_
   refine Zf (Zc ?_)
   first | refine Z5 (Gh.freezeNil 4 (es' := 1) rfl rfl) ?_ | skip
   refine Zl (Zq ?_)
   refine W6m (.inr rfl) (vres_tmp2 rfl rfl rfl) ?_
   exact W6n
  ·try simp only [qB, qN] at hg2
   refine Lo u30 (Zb (.inl rfl) rfl) ?_
   refine Lo u30 (rfl) ?_
   refine Lo u30 (ZP rfl rfl rfl) ?_
   refine Zf (Zc ?_)
   refine Zp _ rfl (fun hc3 => ?_) (fun hc3 => ?_)
   ·try simp only [qB, qN] at hc3
    refine Zd (Za ?_)
    refine Lo u30 (Zg (VVal.slice none 0 0 true 0) (.inr rfl) rfl) ?_
    refine Lo u30 (Zg (VVal.bool false) (.inr rfl) rfl) ?_
    refine Zf (Zc ?_)
    first | refine Z5 (Gh.freezeNil 4 (es' := 1) rfl rfl) ?_ | skip
    refine Zl (Zq ?_)
    refine W6m (.inr rfl) (vres_tmp2 rfl rfl rfl) ?_
    exact W6n
   ·try simp only [qB, qN] at hc3
    refine Zj (Zc (Zd ?_))
    have hk : pck p = 0 := by first | assumption | simp_all
    have g := pck_good.1 hk
    have hmm : 0 ≤ m ∧ m ≤ 3 := by constructor <;> (first | omega | (simp at *; omega))
    obtain ⟨n, rfl⟩ : ∃ n : Nat, m = n := ⟨m.toNat, by omega⟩
    have hwa := waN_in (p := p) (m := (n : Int)) ⟨hk, hmm⟩
    rw [Int.toNat_natCast] at hwa
    refine Za ?_
    refine Lo u30 (W24 rfl rfl rfl rfl rfl) ?_
    refine Lo u30 (rfl) ?_
    refine Lo u30 (Zb (.inl rfl) rfl) ?_
    refine Zn rfl rfl rfl (by exact first_spec p hp g n (by omega) _ [] 0 rfl) ?_
    rintro v _ ⟨hv, rfl⟩; obtain ⟨l, ok, he, h1, h2, h3⟩ := waV_eq p (n : Int); rw [← hwa, ← h1] at hv; subst hv
    refine Le u30 ?_
    refine Lo u30 (Zb (.inl rfl) rfl) ?_
    refine Lo u30 (rfl) ?_
    refine Lo u30 (rfl) ?_
    refine Lo u30 (Zs rfl rfl) ?_
    refine Lo u30 (W13 rfl rfl rfl rfl rfl rfl rfl) ?_
    refine Lo u30 (Zb (.inr rfl) rfl) ?_
    refine Zf (Zc (Zd (Zd (Za ?_))))
    refine Lo u30 (Zb (.inl rfl) rfl) ?_
    refine Lo u30 (rfl) ?_
    refine Zf (Zc ?_)
    refine Zp _ rfl (fun hc4 => ?_) (fun hc4 => ?_)
    ·try simp only [qB, qN] at hc4
     refine Zd (Za ?_)
     refine Lo u30 (Zg (VVal.slice none 0 0 true 0) (.inr rfl) rfl) ?_
     refine Lo u30 (Zg (VVal.bool false) (.inr rfl) rfl) ?_
     refine Zf (Zc ?_)
     first | refine Z5 (Gh.freezeNil 4 (es' := 1) rfl rfl) ?_ | skip
     refine Zl (Zq ?_)
     refine W6m (.inr rfl) (vres_tmp2 rfl rfl rfl) ?_
     exact W6n
    ·try simp only [qB, qN] at hc4
     refine Zj (Zc (Zd (Za ?_)))
     refine Lo u30 (W24 rfl rfl rfl rfl rfl) ?_
     refine Zn rfl rfl rfl (by exact Places_spec _ _) ?_
     rintro _ _ ⟨rfl, rfl⟩
     refine Le u30 ?_
     refine Lo u30 (Zb (.inr rfl) rfl) ?_
     refine Lo u30 (Zg (VVal.bool true) (.inr rfl) rfl) ?_
     refine Zf (Zc ?_)
     first | refine Z5 (Gh.freezeNil 4 (es' := 1) rfl rfl) ?_ | skip
     refine Zl ?_
     refine W6m (.inr rfl) (vres_tmp2 rfl rfl rfl) ?_
     exact W6n
theorem Grade_spec {x : SW} (H : Ze) (p : Pb) (hp : PbL p) : F (psys x) 52 [.agg (pbB p)] H fun v G => v = iI (grN p) ∧ G = H := by
 refine Zr Tryd.func52 rfl u22 rfl ?_
 refine Zd (Za ?_)
 refine Lo u22 (Zv rfl rfl rfl) ?_
 refine Lo u22 (Zg (VVal.int .i64 0) (.inr rfl) rfl) ?_
 refine Zf (Zc (Zd (Zd ?_)))
 refine Z5 (Gh.freezePtrL (cs := pbB p) 1 0 rfl rfl rfl) ?_
 refine Za ?_
 refine Lo u22 (W24 rfl rfl rfl rfl rfl) ?_
 refine Zn rfl rfl rfl (by exact Ye _ p hp) ?_
 rintro _ _ ⟨rfl, rfl⟩
 refine Le u22 ?_
 refine Lo u22 (rfl) ?_
 refine Zf (Zc ?_)
 refine Zp _ rfl (fun hc1 => ?_) (fun hc1 => ?_)
 ·try simp only [qB, qN] at hc1
  refine Zd (Za ?_)
  refine Lo u22 (Zg (VVal.int .i64 (-1)) (.inr rfl) rfl) ?_
  refine Zf (Zc (Zl (Zq ?_)))
  refine W10 (.inr rfl) (Zi rfl rfl) ?_
  exact W6q
 ·try simp only [qB, qN] at hc1
  refine Zj (Zc (Zd (Zd (Za ?_))))
  refine Lo u22 (Zg (VVal.int .i64 0) (.inl rfl) rfl) ?_
  refine Zf (Zc (Zo ?_))
  refine ZB (mk 22 4193789) (env' := u22) rfl ?_
  refine ZF (fun (k : Nat) => 4 - k) (fun (k : Nat) => [(9, iI (k : Nat))]) (fun (k : Nat) G => (k ≤ 4 ∧ grS (fun k => (waN p (k : Nat)).isSome) 0 (4 - 0) = grS (fun k => (waN p (k : Nat)).isSome) k (4 - k)) ∧ G = H ++ [.dead]) 0 rfl ?_ ?_
  ·refine ⟨?_, rfl⟩
   exact ⟨Nat.zero_le _, rfl⟩
  rintro k _ ⟨⟨hk, hgr⟩, rfl⟩
  refine ZU (env' := u22) rfl ?_
  refine Zd (Za ?_)
  refine Lo u22 (rfl) ?_
  refine Zf (Zc (Zd ?_))
  refine Zp _ rfl (fun hc2 => ?_) (fun hc2 => ?_)
  ·try simp only [qB, qN] at hc2
   refine Zj (Zc (Zd (Zo (Zd (Za ?_)))))
   refine Lo u22 (Zb (.inl rfl) rfl) ?_
   refine Lo u22 (Zb (.inr rfl) rfl) ?_
   refine Zf (Zc (Zd (Za ?_)))
   refine Lo u22 (W24 rfl rfl rfl rfl rfl) ?_
   refine Lo u22 (Zb (.inl rfl) rfl) ?_
   refine Zn rfl rfl rfl (by exact Weak_spec _ p hp (k : Nat) (by omega)) ?_
   rintro v _ ⟨hv, rfl⟩; obtain ⟨l, ok, he, h1, h2, h3⟩ := waV_eq p ((k : Nat) : Int); rw [he] at hv; subst hv
   refine Le u22 ?_
   refine Lo u22 (Zb (.inl rfl) rfl) ?_
   refine Lo u22 (rfl) ?_
   refine Lo u22 (rfl) ?_
   refine Lo u22 (Zb (.inr rfl) rfl) ?_
   refine Lo u22 (Zb (.inr rfl) rfl) ?_
   refine Zf (Zc (Zd (Za ?_)))
   refine Lo u22 (Zb (.inl rfl) rfl) ?_
   refine Zf (Zc ?_)
   refine Zp _ rfl (fun hc3 => ?_) (fun hc3 => ?_)
   ·try simp only [qB, qN] at hc3
    refine Zd (Za ?_)
    refine Lo u22 (Zb (.inl rfl) rfl) ?_
    refine Lo u22 (W2l rfl rfl rfl) ?_
    refine Lo u22 (Zb (.inr rfl) rfl) ?_
    refine Zf (Zc (Zl (ZN (Zq (Yf (ZN (Zq ?_)))))))
    refine W10 (.inr rfl) (Zi rfl rfl) ?_
    exact W6q
   ·try simp only [qB, qN] at hc3
    refine Zj (Zx (Zc (Za ?_)))
    refine Lo u22 (W14 rfl rfl rfl) ?_
    refine Lo u22 (Zb (.inl rfl) rfl) ?_
    refine Zf ?_
    refine ZE (mk 22 4193789) (env' := u22) rfl ⟨k + 1, ?_, rfl, ?_⟩
    ·first | omega | (simp only []; omega)
    ·exact ⟨⟨by omega, hgr.trans (grS_on (by omega) (h1.symm.trans XH26))⟩, rfl⟩
  ·try simp only [qB, qN] at hc2
   refine ZL (ZJ (ZA (ZK (Zc (Zd (Za ?_))))))
   refine Lo u22 (Zg (VVal.int .i64 3) (.inr rfl) rfl) ?_
   refine Zf (Zc (Zl ?_))
   refine W10 (.inr rfl) (Zi rfl rfl) ?_
   exact W6q
def ph : Pb := (3, [1#64, 6#64], [-1, -1], [], ())
theorem ph_L : PbL ph := ⟨by decide, by decide, by decide, by decide, fun r hr => by cases hr⟩
theorem ph_w : waN ph 2 = some [0, 1] := by decide +kernel
theorem ph_n : neP ph = 1#64 := by decide +kernel
theorem ph_g : grN ph = 0 := by decide +kernel
theorem ph_v : waV ph 2 = .tuple [fzI [0, 1], .bool true] := by rw [waV_some ph_w]; rfl
theorem hwakes_spec {x : SW} (H : Ze) : F (psys x) 47 [] H fun v G => v = .bool true ∧ G = H := by
 refine Zr Tryd.func47 rfl u28 rfl ?_
 refine Zd (Za ?_)
 refine Lo u28 (Zg (VVal.bool false) (.inr rfl) rfl) ?_
 refine Zf (Zc (Zd (Za ?_)))
 refine Lo u28 (ZC rfl rfl (by decide) rfl) ?_
 refine Lo u28 (ZC rfl rfl (by decide) rfl) ?_
 refine Lo u28 (rfl) ?_
 refine Lo u28 (Zs rfl rfl) ?_
 refine Lo u28 (W13 rfl rfl rfl rfl rfl rfl rfl) ?_
 refine Zf (Zc (Zd (Za ?_)))
 refine L_gh (Gh.cellL (l := [iW 1#64, iW 6#64]) 2 1 0 rfl rfl (by decide) rfl rfl (Nat.le_refl _)) ?_
 refine L_gh (Gh.cellL (l := [iI (-1), iI (-1)]) 2 2 1 rfl rfl (by decide) rfl rfl (Nat.le_refl _)) ?_
 refine L_gh (Gh.cellNilL 2 3 (es' := 3) rfl rfl) ?_
 refine Lo u28 (W11 rfl rfl rfl rfl rfl) ?_
 refine Zn rfl rfl rfl (by exact Weak_spec _ ph ph_L 2 (by decide)) ?_
 rintro v _ ⟨hv, rfl⟩; rw [ph_v] at hv; subst hv
 refine Le u28 ?_
 refine Lo u28 (Zb (.inl rfl) rfl) ?_
 refine Lo u28 (rfl) ?_
 refine Lo u28 (rfl) ?_
 refine Lo u28 (Zb (.inr rfl) rfl) ?_
 refine Lo u28 (Zb (.inr rfl) rfl) ?_
 refine Zf (Zc (Zd (Za ?_)))
 refine Lo u28 (W11 rfl rfl rfl rfl rfl) ?_
 refine Zn rfl rfl rfl (by exact Needed_spec _ ph ph_L) ?_
 rintro v _ ⟨hv, rfl⟩; rw [ph_n] at hv; subst hv
 refine Le u28 ?_
 refine Lo u28 (Yn true rfl rfl) ?_
 refine Lo u28 (Zb (.inl rfl) rfl) ?_
 refine Lo u28 (Zb (.inl rfl) rfl) ?_
 refine Lo u28 (ZH rfl rfl rfl) ?_
 refine Lo u28 (Zb (.inl rfl) rfl) ?_
 refine Lo u28 (Zb (.inl rfl) rfl) ?_
 refine Lo u28 (ZC rfl rfl (by decide) rfl) ?_
 refine L_gh (Gh.freezeL (l := [iI 0, iI 1]) 20 3 rfl rfl rfl (Nat.le_refl _) rfl) ?_
 refine Zn rfl rfl rfl (by exact kInts_spec _ [0, 1] [0, 1] (by decide)) ?_
 rintro v _ ⟨hv, rfl⟩; obtain rfl : v = .bool true := hv.trans (congrArg VVal.bool (by decide))
 refine Le u28 ?_
 refine Lo u28 (ZH rfl rfl rfl) ?_
 refine Lo u28 (Zb (.inl rfl) rfl) ?_
 refine Lo u28 (W11 rfl rfl rfl rfl rfl) ?_
 refine Zn rfl rfl rfl (by exact Grade_spec _ ph ph_L) ?_
 rintro v _ ⟨hv, rfl⟩; rw [ph_g] at hv; subst hv
 refine Le u28 ?_
 refine Lo u28 (Yn true rfl rfl) ?_
 refine Lo u28 (ZH rfl rfl rfl) ?_
 refine Lo u28 (Zb (.inr rfl) rfl) ?_
 refine Zf (Zc (Zl ?_))
 refine W10 (.inr rfl) (Zi rfl rfl) ?_
 exact ⟨rfl, rfl⟩
section
variable {H L : Ze} {p q : Nat} {s : HSt}
end
theorem loB_eq {p : Pb} {w : BitVec 64} (h : pck p = 0) : loB p w = !(leA (loV p w)).isSome := by unfold loB brs; rw [decide_eq_true h, Bool.true_and]
theorem neP_no {p : Pb} (h : brs p 0#64 = false) : neP p = 0#64 := by unfold neP; rw [if_neg (by rw [h]; decide)]
abbrev u42 {a0 a1 a2 a3 a4 a5 a6 a7 a8 a9 a10 a11 a12 a13 a14 a15 a16 a17 a18 a19 a20 a21 a22 a23 a24 a25 a26 a27 a28 a29 a30 a31 a32 a33 a34 a35 a36 a37 a38 a39 a40 a41 : VVal} : VEnv := a0 :: a1 :: a2 :: a3 :: a4 :: a5 :: a6 :: a7 :: a8 :: a9 :: a10 :: a11 :: a12 :: a13 :: a14 :: a15 :: a16 :: a17 :: a18 :: a19 :: a20 :: a21 :: a22 :: a23 :: a24 :: a25 :: a26 :: a27 :: a28 :: a29 :: a30 :: a31 :: a32 :: a33 :: a34 :: a35 :: a36 :: a37 :: a38 :: a39 :: a40 :: a41 :: []
theorem W6v {T : TypeId → Option VTy} {H : Ze} {op : Op} {ρ : Operand → VVal} {t : TypeId} {a : Operand} {y : VTy} {p v : VVal} (ho : op = .load t a) (ha : ρ a = p) (hy : T t = some y) (hd : Zm y.desc = false) (h : LdOk H p v := by first | exact .inl ⟨_, _, rfl, by exact YI (α := Nat) 0 (by omega)⟩ | exact .inr ⟨_, _, _, _, rfl, XH34, by exact YI (α := Nat) 0 (by omega)⟩) : vop T ρ H op = some (v, H) := YE ho ha hy hd h
theorem W6w {P : Prop} (h : P := by first | (exfalso; omega) | exact ⟨congrArg VVal.bool ((lt_b hr (by omega) (by assumption)).trans (ltr_out (k := k) (by omega))).symm, rfl⟩ | exact ⟨congrArg VVal.bool ((decide_eq_decide.2 (by omega)).trans ((lt_b hr (by omega) (by assumption)).trans (ltr_ne (k := k) (u := u) (by omega) (by omega))).symm), rfl⟩ | exact ⟨congrArg VVal.bool (lt_e hr (by omega)).symm, rfl⟩) : P := h
theorem fewP_2 {p : Pb} {m : Nat} : Yk (Yk p m) m = Yk p m := by
  show fewQ (cutP (Yk p m)) m = _
  rw [fewP_cut]
  unfold Yk fewQ
  simp only [Pb.users, Pb.who, Pb.fixed, Pb.rules, List.take_take, Nat.min_self, List.filter_filter, Bool.and_self]
theorem Few2_spec {x : SW} (H : Ze) (p : Pb) (m : Nat) (hu : -9223372036854775808 ≤ p.users ∧ p.users < 9223372036854775808) : F (psys x) 15 [.agg (pbB (Yk p m)), iI (m : Nat)] H fun v G => v = .agg (pbB (Yk p m)) ∧ G = H := by
  have := Few_spec (x := x) H (Yk p m) m hu
  rw [fewP_2] at this; exact this
theorem lo_mono {p : Pb} {w : BitVec 64} {us : List Int} (g : Go.V.Good p) (h : hds (loP p w) us = true) : hds p us = true := by
  obtain ⟨g1, hl, hm, hr⟩ := hds_iff.1 h
  have hw : (loP p w).who.length = p.who.length := by show (p.who.map _).length = _; rw [List.length_map]
  rw [hw] at hl hm hr
  refine hds_iff.2 ⟨g, hl, fun i hi => ?_, hr⟩
  have h1 := hm i hi
  by_cases h0 : 0 ≤ p.fixed.getD i 0
  · rw [myB_f g hi h0]
    rw [myB_f g1 (by rw [hw]; exact hi) (show 0 ≤ (loP p w).fixed.getD i 0 from h0)] at h1
    exact h1
  · rw [myB_w g hi (by omega)]
    rw [myB_w g1 (by rw [hw]; exact hi) (show (loP p w).fixed.getD i 0 < 0 from by show p.fixed.getD i 0 < 0; omega)] at h1
    rw [Bool.and_eq_true] at h1 ⊢
    refine ⟨h1.1, ?_⟩
    have h2 : ((p.who.map (fun x => x &&& ~~~w)).getD i 0).getLsbD (us.getD i 0).toNat = true := h1.2
    rw [show (p.who.map (fun x => x &&& ~~~w)).getD i 0 = p.who.getD i 0 &&& ~~~w by simp [List.getD_eq_getElem?_getD, hi], BitVec.getLsbD_and, Bool.and_eq_true] at h2
    exact h2.1
theorem lo_can {p : Pb} {w : BitVec 64} (h : pck p = 0) (h1 : (leA (loV p w)).isSome = true) : (leA p).isSome = true := by
  rw [loV_ok h] at h1
  obtain ⟨l, hl⟩ := Option.isSome_iff_exists.1 h1
  exact leA_can (lo_mono (pck_good.1 h) (leA_some hl))
theorem lo_0 {p : Pb} (h : pck p = 0) : loB p (wl []) = !(leA p).isSome := by
  rw [loB_eq h, wl_nil, loV_ok h, loP_0]
theorem gr_neg {p : Pb} (h : pck p = 0) : decide (grN p < 0) = !(leA p).isSome := by
  have hf : (waN p ((0 : Nat) : Int)).isSome = !(leA p).isSome := by
    rw [waN_in ⟨h, by decide, by decide⟩, show ((0 : Nat) : Int).toNat = 0 from rfl, fiN_0, ← lo_0 h]
    by_cases e : loB p (wl []) = true
    · rw [if_pos e, e]; rfl
    · rw [if_neg e]; simpa using e
  rw [grN_in h]
  cases hc : (leA p).isSome with
  | true =>
    have hf0 : (waN p ((0 : Nat) : Int)).isSome = false := by rw [hf, hc]; rfl
    have h9 : (0 : Int) ≤ grS (fun k => (waN p (k : Nat)).isSome) 0 4 := grS_0 (f := fun k => (waN p (k : Nat)).isSome) (n := 3) hf0
    exact decide_eq_false (by show ¬ grS (fun k => (waN p (k : Nat)).isSome) 0 4 < 0; omega)
  | false =>
    have hf0 : (waN p ((0 : Nat) : Int)).isSome = true := by rw [hf, hc]; rfl
    have := grS_le (f := fun k => (waN p (k : Nat)).isSome) (k := 0) hf0 (n := 4) (j := 0) (Nat.le_refl _) (by decide)
    exact decide_eq_true (by show grS _ 0 4 < 0; omega)
theorem gr_lt {p : Pb} {k : Nat} (h : pck p = 0) (hk : k ≤ 3) (hw : (waN p (k : Nat)).isSome = true) : grN p < (k : Int) := by
  rw [grN_in h]
  have := grS_le (f := fun k => (waN p (k : Nat)).isSome) (k := k) hw (n := 4) (j := 0) (Nat.zero_le _) (by omega)
  show grS _ 0 4 < _; omega
theorem gr_3 {p : Pb} (h : pck p = 0) : grN p ≤ 3 := by
  rw [grN_in h]
  have aux : ∀ {f : Nat → Bool} {n j : Nat}, j + n ≤ 4 → grS f j n ≤ 3 := by
    intro f n
    induction n with
    | zero => intro j _; exact Int.le_refl _
    | succ n ih =>
      intro j hj
      rw [grS]
      split
      · omega
      · exact ih (by omega)
  exact aux (by decide)
theorem hp_set {p : Pb} {w : BitVec 64} (h : pck p = 0) (hb : ∀ j, w.getLsbD j = true → j < p.users.toNat) (hl : (leA (loV p w)).isSome = false) (h3 : (pl w 0).length ≤ 3) : ∃ l, waN p ((pl w 0).length : Nat) = some l ∧ ltr l (pl w 0) = false := by
  have hz : ∀ x, x ∈ pl w 0 → 0 ≤ x ∧ x < p.users.toNat := fun x hx => ⟨Nat.zero_le _, hb x (mem_pl.1 hx).2.2⟩
  have hlo : loB p (wl ([] ++ pl w 0)) = true := by rw [List.nil_append, wl_pl, loB_eq h, hl]; rfl
  have e : waN p ((pl w 0).length : Nat) = fiN (loB p) p.users.toNat (pl w 0).length [] 0 := by rw [waN_in ⟨h, by omega, by omega⟩, Int.toNat_natCast]
  rw [e]
  cases hf : fiN (loB p) p.users.toNat (pl w 0).length [] 0 with
  | none => rw [fiN_none hf pl_asc hz rfl] at hlo; cases hlo
  | some l =>
    obtain ⟨y, rfl, hy⟩ := fiN_first hf pl_asc hz rfl hlo
    exact ⟨_, rfl, hy⟩
theorem hp_grade {p : Pb} {w : BitVec 64} (h : pck p = 0) (hb : ∀ j, w.getLsbD j = true → j < p.users.toNat) (hl : (leA (loV p w)).isSome = false) : grN p < ((pl w 0).length : Int) := by
  have g3 := gr_3 h
  by_cases h3 : (pl w 0).length ≤ 3
  · obtain ⟨l, h4, _⟩ := hp_set h hb hl h3
    exact gr_lt h h3 (by rw [h4]; rfl)
  · omega
theorem hp_weak {p : Pb} {k : Nat} {l : List Nat} (h : pck p = 0) (hk : k ≤ 3) (hw : waN p (k : Nat) = some l) : l.Pairwise (· < ·) ∧ (∀ x, x ∈ l → x < p.users.toNat) ∧ l.length = k ∧ (leA (loV p (wl l))).isSome = false ∧ grN p < (k : Int) := by
  have g := pck_good.1 h
  have g2 := g.u64
  have h1 := gr_lt h hk (by rw [hw]; rfl)
  rw [waN_in ⟨h, by omega, by omega⟩, Int.toNat_natCast] at hw
  obtain ⟨q1, q2, q3, q4⟩ := fiN_asc (by omega) (by simp) (fun x hx => by cases hx) hw
  refine ⟨q1, q2, by simpa using q3, ?_, h1⟩
  rw [loB_eq h] at q4
  simpa using q4
theorem waN_3 {p : Pb} {m : Int} {l : List Nat} (h : waN p m = some l) : l.length ≤ 12 := by
  unfold waN at h
  split at h
  · rename_i hm
    have g2 := (pck_good.1 hm.1).u64
    have := (fiN_asc (by omega) (by simp) (fun x hx => by cases hx) h).2.2.1
    have h0 : ([] : List Nat).length = 0 := rfl
    omega
  · cases h
theorem plTo_le {w : BitVec 64} {j : Nat} : (plTo w j).length ≤ j := by
  unfold plTo; exact Nat.le_trans (List.length_filter_le _ _) (by simp)
theorem sh_pos {w : BitVec 64} {j : Nat} (h : 0 < (w >>> j).toNat) : j < 64 := by
  apply Decidable.byContradiction
  intro hn
  have : w >>> j = 0#64 := by
    apply BitVec.eq_of_getLsbD_eq
    intro i hi
    rw [BitVec.getLsbD_ushiftRight, BitVec.getLsbD_of_ge _ _ (by omega), BitVec.getLsbD_zero]
  rw [this] at h; exact absurd h (by decide)
theorem pw_at {l : List Nat} (h : l.Pairwise (· < ·)) {i : Nat} (h0 : 0 < i) (hi : i < l.length) : l.getD (i - 1) 0 < l.getD i 0 := by
  have := List.pairwise_iff_getElem.1 h (i - 1) i (by omega) hi (by omega)
  simpa [List.getD_eq_getElem?_getD, hi, show i - 1 < l.length by omega] using this
theorem getD_in {l : List Nat} {i : Nat} (hi : i < l.length) : l.getD i 0 ∈ l := by
  rw [List.getD_eq_getElem?_getD, List.getElem?_eq_getElem hi]; exact List.getElem_mem _
theorem bit1 {w : BitVec 64} {j : Nat} (h : w.getLsbD j = true) : (w >>> j &&& 1#64) = 1#64 := by
  apply BitVec.eq_of_getLsbD_eq
  intro i hi
  rw [BitVec.getLsbD_and, BitVec.getLsbD_ushiftRight]
  by_cases e : i = 0
  · subst e; simpa using h
  · simp [e]
theorem bit0 {w : BitVec 64} {j : Nat} (h : w.getLsbD j = false) : (w >>> j &&& 1#64) = 0#64 := by
  apply BitVec.eq_of_getLsbD_eq
  intro i hi
  rw [BitVec.getLsbD_and, BitVec.getLsbD_ushiftRight]
  by_cases e : i = 0
  · subst e; simpa using h
  · simp [e]
theorem bitB {w : BitVec 64} {j : Nat} : (((w >>> ((j : Nat) : Int).toNat &&& 1#64).toNat : Int) == 1) = w.getLsbD j := by
  rw [Int.toNat_natCast]
  cases h : w.getLsbD j with
  | true => rw [bit1 h]; rfl
  | false => rw [bit0 h]; rfl
theorem bitN {w : BitVec 64} {j : Nat} : ((w >>> j &&& 1#64).toNat : Int) = if w.getLsbD j = true then 1 else 0 := by
  cases h : w.getLsbD j with
  | true => rw [bit1 h]; rfl
  | false => rw [bit0 h]; rfl
theorem plTo_len {w : BitVec 64} {j : Nat} : ((plTo w (j + 1)).length : Int) = ((plTo w j).length : Int) + ((w >>> j &&& 1#64).toNat : Int) := by
  rw [bitN]
  cases h : w.getLsbD j with
  | true => rw [plTo_yes h, List.length_append]; simp
  | false => rw [plTo_no h]; simp
theorem plTo_end {w : BitVec 64} {j : Nat} (h : ¬ 0 < (w >>> j).toNat) : plTo w j = pl w 0 := by
  have hz : w >>> j = 0#64 := by apply BitVec.eq_of_toNat_eq; show _ = 0; omega
  have hb : ∀ a, w.getLsbD a = true → a < j := fun a ha => by
    apply Decidable.byContradiction
    intro hn
    have := congrArg (fun v : BitVec 64 => v.getLsbD (a - j)) hz
    simp only [BitVec.getLsbD_ushiftRight, BitVec.getLsbD_zero] at this
    rw [show j + (a - j) = a by omega, ha] at this; cases this
  by_cases hj : j ≤ 64
  · exact plTo_all hj hb
  · have : plTo w j = plTo w 64 := by
      have aux : ∀ n, plTo w (64 + n) = plTo w 64 := by
        intro n
        induction n with
        | zero => rfl
        | succ n ih => rw [← Nat.add_assoc, plTo_no (BitVec.getLsbD_of_ge _ _ (by omega)), ih]
      rw [show j = 64 + (j - 64) by omega, aux]
    rw [this]; exact plTo_all (Nat.le_refl _) (fun a ha => BitVec.lt_of_getLsbD ha)
theorem mk_lt {p : Pb} {w : BitVec 64} (g : Go.V.Good p) : ∀ j, (w &&& allW p.users).getLsbD j = true → j < p.users.toNat := fun j hj => by
  have h0 := g.u0
  rw [BitVec.getLsbD_and, Bool.and_eq_true, allW_bit g.u0 g.u64, decide_eq_true_eq] at hj
  omega
theorem wl_take {l : List Nat} {j : Nat} (h : j < l.length) : wl (l.take j) ||| 1#64 <<< (l.getD j 0) = wl (l.take (j + 1)) := by
  rw [Ya (d := 0) h, wl_snoc]
theorem hbits_spec {x : SW} (H : Ze) (w : BitVec 64) : F (psys x) 54 [iW w] H fun v G => v = iI ((pl w 0).length : Nat) ∧ G = H := by
 refine Zr Tryd.func54 rfl u14 rfl ?_
 refine Zd (Za ?_)
 refine Lo u14 (Zg (VVal.int .i64 0) (.inr rfl) rfl) ?_
 refine Zf (Zc (Zd (Za ?_)))
 refine Lo u14 (Zg (VVal.int .i64 0) (.inr rfl) rfl) ?_
 refine Zf (Zc (Zd (Zo ?_)))
 refine ZB (mk 14 16374) (env' := u14) rfl ?_
 refine ZF (fun (j : Nat) => 64 - j) (fun (j : Nat) => [(0, iW (w >>> j)), (3, iI ((plTo w j).length : Nat))]) (fun (j : Nat) G => (j ≤ 64) ∧ G = H ++ []) 0 (by rw [show w >>> 0 = w by simp]; rfl) ?_ ?_
 ·refine ⟨?_, rfl⟩
  exact Nat.zero_le _
 rintro j _ ⟨hj, rfl⟩
 refine ZU (env' := u14) rfl ?_
 refine Zd (Zd (Za ?_))
 refine Lo u14 (Zb (.inl rfl) rfl) ?_
 refine Lo u14 (rfl) ?_
 refine Zf (Zc ?_)
 refine Zp _ rfl (fun hc1 => ?_) (fun hc1 => ?_)
 ·try simp only [qB, qN] at hc1
  refine Zj (Zc (Zo (Zd (Za ?_))))
  refine Lo u14 (Zb (.inl rfl) rfl) ?_
  refine Lo u14 (Zb (.inl rfl) rfl) ?_
  refine Lo u14 (v_andW (b := 1#64) rfl rfl rfl) ?_
  refine Lo u14 (v_val rfl (congrArg iI (show IntKind.i64.wrap ((w >>> j &&& 1#64).toNat : Int) = ((w >>> j &&& 1#64).toNat : Int) by rw [bitN]; split <;> rfl))) ?_
  refine Lo u14 (v_val (v_addI rfl rfl rfl (by rw [bitN]; have := plTo_le (w := w) (j := j); split <;> omega)) (congrArg iI plTo_len.symm)) ?_
  refine Lo u14 (Zb (.inr rfl) rfl) ?_
  refine Zf (Zc (Za ?_))
  refine Lo u14 (Zb (.inl rfl) rfl) ?_
  refine Lo u14 (v_val (v_shrW (m := 1) rfl rfl rfl (by decide)) (congrArg iW (show w >>> j >>> 1 = w >>> (j + 1) from (BitVec.shiftRight_add ..).symm))) ?_
  refine Lo u14 (Zb (.inr rfl) rfl) ?_
  refine Zf (Zx ?_)
  refine ZE (mk 14 16374) (env' := u14) rfl ⟨j + 1, ?_, rfl, ?_⟩
  ·have h9 := sh_pos (show 0 < (w >>> j).toNat by first | assumption | omega); omega
  ·have h9 := sh_pos (show 0 < (w >>> j).toNat by first | assumption | omega); exact ⟨by omega, rfl⟩
 ·try simp only [qB, qN] at hc1
  refine ZL (ZJ (ZA (ZK (Zc (Zd (Za ?_))))))
  refine Lo u14 (Zb (.inl rfl) rfl) ?_
  refine Lo u14 (Zb (.inr rfl) rfl) ?_
  refine Zf (Zc (Zl ?_))
  refine W10 (.inr rfl) (Zi rfl rfl) ?_
  exact ⟨congrArg iI (by rw [plTo_end (by first | assumption | omega)]), rfl⟩
theorem lt_b {l : List Nat} {w : BitVec 64} {u k : Nat} (hr : ltr l (pl w 0) = ltr (l.drop k) (pl w u)) (hu : u < 64) (h : w.getLsbD u = true) : ltr l (pl w 0) = ltr (l.drop k) (u :: pl w (u + 1)) := by
  rw [hr, pl_step w u, if_pos hu, if_pos h]
theorem lt_n {l : List Nat} {w : BitVec 64} {u k : Nat} (hr : ltr l (pl w 0) = ltr (l.drop k) (pl w u)) (hu : u < 64) (h : w.getLsbD u = false) : ltr l (pl w 0) = ltr (l.drop k) (pl w (u + 1)) := by
  rw [hr, pl_step w u, if_pos hu, if_neg (by rw [h]; decide)]
theorem lt_e {l : List Nat} {w : BitVec 64} {u k : Nat} (hr : ltr l (pl w 0) = ltr (l.drop k) (pl w u)) (hu : ¬ u < 64) : ltr l (pl w 0) = false := by
  rw [hr, pl_step w u, if_neg hu, ltr_nil]
theorem hlater_spec {x : SW} (H : Ze) (l : List Nat) (w : BitVec 64) (hl : l.length ≤ 1000000) : F (psys x) 55 [fzN l, iW w] H fun v G => v = .bool (ltr l (pl w 0)) ∧ G = H := by
 refine Zr Tryd.func55 rfl u42 rfl ?_
 refine Zd (Za ?_)
 refine Lo u42 (Zg (VVal.bool false) (.inr rfl) rfl) ?_
 refine Zf (Zc (Zd (Za ?_)))
 refine Lo u42 (Zg (VVal.int .i64 0) (.inr rfl) rfl) ?_
 refine Zf (Zc (Zd (Zd (Za ?_))))
 refine Lo u42 (Zg (VVal.int .i64 0) (.inr rfl) rfl) ?_
 refine Zf (Zc (Zo ?_))
 refine ZB (mk 42 4398046511004) (env' := u42) rfl ?_
 refine ZF (fun (⟨u, k⟩ : Nat × Nat) => 64 - u) (fun (⟨u, k⟩ : Nat × Nat) => [(5, iI (k : Nat)), (6, iI (u : Nat))]) (fun (⟨u, k⟩ : Nat × Nat) G => (u ≤ 64 ∧ k ≤ u ∧ ltr l (pl w 0) = ltr (l.drop k) (pl w u)) ∧ G = H ++ []) ⟨0, 0⟩ rfl ?_ ?_
 ·refine ⟨?_, rfl⟩
  exact ⟨Nat.zero_le _, Nat.le_refl _, rfl⟩
 rintro ⟨u, k⟩ _ ⟨⟨hu, hk, hr⟩, rfl⟩
 refine ZU (env' := u42) rfl ?_
 refine Zd (Zd (Za ?_))
 refine Lo u42 (Zb (.inl rfl) rfl) ?_
 refine Lo u42 (rfl) ?_
 refine Zf (Zc ?_)
 refine Zp _ rfl (fun hc1 => ?_) (fun hc1 => ?_)
 ·try simp only [qB, qN] at hc1
  refine Zj (Zc (Zd (Zo (Zd (Za ?_)))))
  refine Lo u42 (Zb (.inl rfl) rfl) ?_
  refine Lo u42 (Zb (.inl rfl) rfl) ?_
  refine Lo u42 (v_shrW rfl rfl rfl XH5) ?_
  refine Lo u42 (v_andW (b := 1#64) rfl rfl rfl) ?_
  refine Lo u42 (v_val rfl (congrArg VVal.bool bitB)) ?_
  refine Zf (Zc ?_)
  refine Zp _ rfl (fun hc2 => ?_) (fun hc2 => ?_)
  ·try simp only [qB, qN] at hc2
   refine Zd (Zd (Za ?_))
   refine Lo u42 (Zb (.inl rfl) rfl) ?_
   refine Lo u42 (Zb (.inl rfl) rfl) ?_
   refine Lo u42 (rfl) ?_
   refine Lo u42 (rfl) ?_
   refine Lo u42 (Zb (.inl rfl) rfl) ?_
   refine ZQ 20 (env1 := u42) (env2 := u42) rfl rfl rfl (fun hg3 => ?_) (fun hg3 => ?_)
   ·try simp only [qB, qN] at hg3
    refine Lf u42 ?_
    refine Lf u42 ?_
    refine Lf u42 ?_
    refine Lf u42 ?_
    refine Lf u42 ?_
    refine Lf u42 ?_
    refine Lo u42 (Yh (VVal.bool true) rfl rfl rfl) ?_
    refine Zf (Zc ?_)
    refine ZX rfl rfl ?_
    refine Zd (Za ?_)
    refine Lo u42 (Zb (.inl rfl) rfl) ?_
    refine Lo u42 (Zb (.inl rfl) rfl) ?_
    refine Lo u42 (rfl) ?_
    refine Lo u42 (rfl) ?_
    refine Lo u42 (Zb (.inl rfl) rfl) ?_
    refine ZQ 32 (env1 := u42) (env2 := u42) rfl rfl rfl (fun hg4 => ?_) (fun hg4 => ?_)
    ·try simp only [qB, qN] at hg4
     refine Lo u42 (Zb (.inl rfl) rfl) ?_
     refine Lo u42 (Zb (.inl rfl) rfl) ?_
     refine Lo u42 (W18 rfl rfl rfl rfl rfl rfl rfl) ?_
     refine Lo u42 (W6v rfl rfl rfl rfl) ?_
     refine Lo u42 (Zb (.inl rfl) rfl) ?_
     refine Lo u42 (rfl) ?_
     refine Lo u42 (ZH rfl rfl rfl) ?_
     refine Lo u42 (Zb (.inr rfl) rfl) ?_
     refine Zf (Zc (Zl (Zq (ZN (Zq (Yf (ZN (Zq ?_))))))))
     refine W10 (.inr rfl) (Zi rfl rfl) ?_
     exact W6w
    ·try simp only [qB, qN] at hg4
     refine Lf u42 ?_
     refine Lf u42 ?_
     refine Lf u42 ?_
     refine Lf u42 ?_
     refine Lf u42 ?_
     refine Lf u42 ?_
     refine Lo u42 (Zz (VVal.bool false) rfl rfl rfl) ?_
     refine Lo u42 (Zb (.inr rfl) rfl) ?_
     refine Zf (Zc (Zl (Zq (ZN (Zq (Yf (ZN (Zq ?_))))))))
     refine W10 (.inr rfl) (Zi rfl rfl) ?_
     exact W6w
   ·try simp only [qB, qN] at hg3
    refine Lo u42 (Zb (.inl rfl) rfl) ?_
    refine Lo u42 (Zb (.inl rfl) rfl) ?_
    refine Lo u42 (W18 rfl rfl rfl rfl rfl rfl rfl) ?_
    refine Lo u42 (W6v rfl rfl rfl rfl) ?_
    refine Lo u42 (Zb (.inl rfl) rfl) ?_
    refine Lo u42 (rfl) ?_
    refine Lo u42 (ZP rfl rfl rfl) ?_
    refine Zf (Zc ?_)
    refine Zp _ rfl (fun hc5 => ?_) (fun hc5 => ?_)
    ·try simp only [qB, qN] at hc5
     refine Zd (Za ?_)
     refine Lo u42 (Zb (.inl rfl) rfl) ?_
     refine Lo u42 (Zb (.inl rfl) rfl) ?_
     refine Lo u42 (rfl) ?_
     refine Lo u42 (rfl) ?_
     refine Lo u42 (Zb (.inl rfl) rfl) ?_
     refine ZQ 32 (env1 := u42) (env2 := u42) rfl rfl rfl (fun hg6 => ?_) (fun hg6 => ?_)
     ·try simp only [qB, qN] at hg6
      refine Lo u42 (Zb (.inl rfl) rfl) ?_
      refine Lo u42 (Zb (.inl rfl) rfl) ?_
      refine Lo u42 (W18 rfl rfl rfl rfl rfl rfl rfl) ?_
      refine Lo u42 (W6v rfl rfl rfl rfl) ?_
      refine Lo u42 (Zb (.inl rfl) rfl) ?_
      refine Lo u42 (rfl) ?_
      refine Lo u42 (ZH rfl rfl rfl) ?_
      refine Lo u42 (Zb (.inr rfl) rfl) ?_
      refine Zf (Zc (Zl (Zq (ZN (Zq (Yf (ZN (Zq ?_))))))))
      refine W10 (.inr rfl) (Zi rfl rfl) ?_
      exact W6w
     ·try simp only [qB, qN] at hg6
      refine Lf u42 ?_
      refine Lf u42 ?_
      refine Lf u42 ?_
      refine Lf u42 ?_
      refine Lf u42 ?_
      refine Lf u42 ?_
      refine Lo u42 (Zz (VVal.bool false) rfl rfl rfl) ?_
      refine Lo u42 (Zb (.inr rfl) rfl) ?_
      refine Zf (Zc (Zl (Zq (ZN (Zq (Yf (ZN (Zq ?_))))))))
      refine W10 (.inr rfl) (Zi rfl rfl) ?_
      exact W6w
    ·try simp only [qB, qN] at hc5
     refine Zj (Zc (Za ?_))
     refine Lo u42 (Zb (.inl rfl) rfl) ?_
     refine Lo u42 (W14 rfl rfl rfl) ?_
     refine Lo u42 (Zb (.inr rfl) rfl) ?_
     refine Zf (Zx (Zc (Za ?_)))
     refine Lo u42 (Zb (.inl rfl) rfl) ?_
     refine Lo u42 (W14 rfl rfl rfl) ?_
     refine Lo u42 (Zb (.inr rfl) rfl) ?_
     refine Zf ?_
     refine ZE (mk 42 4398046511004) (env' := u42) rfl ⟨⟨u + 1, k + 1⟩, ?_, rfl, ?_⟩
     ·first | omega | (simp only []; omega)
     ·first | exact ⟨⟨by omega, by omega, (lt_b hr (by omega) (by assumption)).trans (ltr_eq (k := k) (u := u) (by omega) (by omega))⟩, rfl⟩ | exact ⟨⟨by omega, by omega, lt_n hr (by omega) (by simp_all)⟩, rfl⟩
  ·try simp only [qB, qN] at hc2
   refine Zj (Zx (Zc (Za ?_)))
   refine Lo u42 (Zb (.inl rfl) rfl) ?_
   refine Lo u42 (W14 rfl rfl rfl) ?_
   refine Lo u42 (Zb (.inr rfl) rfl) ?_
   refine Zf ?_
   refine ZE (mk 42 4398046511004) (env' := u42) rfl ⟨⟨u + 1, k⟩, ?_, rfl, ?_⟩
   ·first | omega | (simp only []; omega)
   ·first | exact ⟨⟨by omega, by omega, (lt_b hr (by omega) (by assumption)).trans (ltr_eq (k := k) (u := u) (by omega) (by omega))⟩, rfl⟩ | exact ⟨⟨by omega, by omega, lt_n hr (by omega) (by simp_all)⟩, rfl⟩
 ·try simp only [qB, qN] at hc1
  refine ZL (ZJ (ZA (ZK (Zc (Zd (Za ?_))))))
  refine Lo u42 (Zg (VVal.bool false) (.inr rfl) rfl) ?_
  refine Zf (Zc (Zl ?_))
  refine W10 (.inr rfl) (Zi rfl rfl) ?_
  exact W6w
end Go.Proofs.YtgbahioegcpjiaaDoor.VT
