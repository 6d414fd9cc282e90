/- Proved: Rows.SolveMoreCardSaid, the statement SolveMore with its card, of the given program at the commit; no conditions beyond those in the statement. -/
import Derived.Test.YtenkjadobkjaeaaDoorC7x12
set_option autoImplicit false
set_option linter.unusedVariables false
set_option linter.unusedSimpArgs false
set_option maxHeartbeats 4000000
set_option maxRecDepth 100000
namespace Go.Proofs.YtenkjadobkjaeaaDoor.VT
open Go Go.V Go.RowKit
abbrev u67 {a0 a1 a2 a3 a4 a5 a6 a7 a8 a9 a10 a11 a12 a13 a14 a15 a16 a17 a18 a19 a20 a21 a22 a23 a24 a25 a26 a27 a28 a29 a30 a31 a32 a33 a34 a35 a36 a37 a38 a39 a40 a41 a42 a43 a44 a45 a46 a47 a48 a49 a50 a51 a52 a53 a54 a55 a56 a57 a58 a59 a60 a61 a62 a63 a64 a65 a66 : VVal} : VEnv := a0 :: a1 :: a2 :: a3 :: a4 :: a5 :: a6 :: a7 :: a8 :: a9 :: a10 :: a11 :: a12 :: a13 :: a14 :: a15 :: a16 :: a17 :: a18 :: a19 :: a20 :: a21 :: a22 :: a23 :: a24 :: a25 :: a26 :: a27 :: a28 :: a29 :: a30 :: a31 :: a32 :: a33 :: a34 :: a35 :: a36 :: a37 :: a38 :: a39 :: a40 :: a41 :: a42 :: a43 :: a44 :: a45 :: a46 :: a47 :: a48 :: a49 :: a50 :: a51 :: a52 :: a53 :: a54 :: a55 :: a56 :: a57 :: a58 :: a59 :: a60 :: a61 :: a62 :: a63 :: a64 :: a65 :: a66 :: []
theorem W2j {T : TypeId → Option VTy} {H : Ze} {op : Op} {ρ : Operand → VVal} {t : TypeId} {a : Operand} {y : VTy} {p v : VVal} (ho : op = .load t a) (ha : ρ a = p) (hy : T t = some y) (hd : Zm y.desc = false) (h : LdOk H p v := by first | exact .inl ⟨_, _, rfl, by first | rfl | assumption | exact hown_cell (by omega) | exact hgp_cell hl1 | exact fget (α := BitVec 64) 0 (by omega)⟩ | exact .inr ⟨_, _, _, _, rfl, XH39, by first | rfl | assumption | exact hown_cell (by omega) | exact hgp_cell hl1 | exact fget (α := BitVec 64) 0 (by omega)⟩) : vop T ρ H op = some (v, H) := v_ld ho ha hy hd h
theorem W2l {T : TypeId → Option VTy} {H : Ze} {op : Op} {ρ : Operand → VVal} {t : TypeId} {a : Operand} {y : VTy} {p v : VVal} (ho : op = .load t a) (ha : ρ a = p) (hy : T t = some y) (hd : Zm y.desc = false) (h : LdOk H p v := by first | exact .inl ⟨_, _, rfl, by rfl⟩ | exact .inr ⟨_, _, _, _, rfl, by exact ZN (Yx rfl) rfl, by rfl⟩) : vop T ρ H op = some (v, H) := v_ld ho ha hy hd h
theorem W2m {T : TypeId → Option VTy} {H : Ze} {op : Op} {ρ : Operand → VVal} {t : TypeId} {a : Operand} {y : VTy} {p v : VVal} (ho : op = .load t a) (ha : ρ a = p) (hy : T t = some y) (hd : Zm y.desc = false) (h : LdOk H p v := by first | exact .inl ⟨_, _, rfl, by rfl⟩ | exact .inr ⟨_, _, _, _, rfl, XH39, by rfl⟩) : vop T ρ H op = some (v, H) := v_ld ho ha hy hd h
theorem W2n {T : TypeId → Option VTy} {H : Ze} {op : Op} {ρ : VEnv} {H' : Ze} {t : TypeId} {a : Operand} {i : Nat} {v : VVal} {y : VTy} {b off : Nat} {cs new : List VVal} (ho : op = .store t a (.tmp i)) (hv : ρ[i]? = some v) (ha : ρ.eval a = .ptr (some (b, off))) (hy : T t = some y) (hx : v.cells = some new) (hn : new.length = y.size) (h1 : new.all VVal.one = true) (hb : H[b]? = some (.cells cs true) := by exact XH39) (hl : off + new.length ≤ cs.length := by exact XH38) (hH : H.set b (.cells (ZC cs off new) true) = H' := by exact ht_incw hA) : vop T ρ.eval H op = some (.skip, H') := Ya ho hv ha hy hx hn h1 hb hl hH
theorem W2o {T : TypeId → Option VTy} {H : Ze} {op : Op} {ρ : VEnv} {H' : Ze} {t : TypeId} {a : Operand} {i : Nat} {v : VVal} {y : VTy} {b off : Nat} {cs new : List VVal} (ho : op = .store t a (.tmp i)) (hv : ρ[i]? = some v) (ha : ρ.eval a = .ptr (some (b, off))) (hy : T t = some y) (hx : v.cells = some new) (hn : new.length = y.size) (h1 : new.all VVal.one = true) (hb : H[b]? = some (.cells cs true) := by exact XH39) (hl : off + new.length ≤ cs.length := by exact XH38) (hH : H.set b (.cells (ZC cs off new) true) = H' := by exact ht_setq hA) : vop T ρ.eval H op = some (.skip, H') := Ya ho hv ha hy hx hn h1 hb hl hH
theorem W2p {T : TypeId → Option VTy} {H : Ze} {op : Op} {ρ : Operand → VVal} {t : TypeId} {a : Operand} {y : VTy} {p v : VVal} (ho : op = .load t a) (ha : ρ a = p) (hy : T t = some y) (hd : Zm y.desc = false) (h : LdOk H p v := by first | exact .inl ⟨_, _, rfl, by exact hown_cell (t := (s1.1, s1.2 ||| 1#64 <<< c)) (by show 0 ≤ (c : Int) ∧ (c : Int) < s1.1.length; omega)⟩ | exact .inr ⟨_, _, _, _, rfl, XH39, by exact hown_cell (t := (s1.1, s1.2 ||| 1#64 <<< c)) (by show 0 ≤ (c : Int) ∧ (c : Int) < s1.1.length; omega)⟩) : vop T ρ H op = some (v, H) := v_ld ho ha hy hd h
theorem W2r {T : TypeId → Option VTy} {H : Ze} {op : Op} {ρ : VEnv} {H' : Ze} {t : TypeId} {a : Operand} {i : Nat} {v : VVal} {y : VTy} {b off : Nat} {cs new : List VVal} (ho : op = .store t a (.tmp i)) (hv : ρ[i]? = some v) (ha : ρ.eval a = .ptr (some (b, off))) (hy : T t = some y) (hx : v.cells = some new) (hn : new.length = y.size) (h1 : new.all VVal.one = true) (hb : H[b]? = some (.cells cs true) := by exact XH39) (hl : off + new.length ≤ cs.length := by first | exact ht_len6 (t := (s1.1, 0#64)) (show c < s1.1.length by omega) | exact ht_len6 (Nat.lt_of_lt_of_eq hc64 (hgr.yes (by assumption)).1.len.symm)) (hH : H.set b (.cells (ZC cs off new) true) = H' := by first | exact ht_setp hA (show c < s1.1.length by omega) | exact ht_setp hA (Nat.lt_of_lt_of_eq hc64 (hgr.yes (by assumption)).1.len.symm)) : vop T ρ.eval H op = some (.skip, H') := Ya ho hv ha hy hx hn h1 hb hl hH
theorem W2s {T : TypeId → Option VTy} {H : Ze} {op : Op} {ρ : Operand → VVal} {t ty : TypeId} {x y : Operand} {n m : Int} (ho : op = .binOp .sub t x y ty) (hx : ρ x = .int .i64 n) (hy : ρ y = .int .i64 m) (h : -9223372036854775808 ≤ n - m ∧ n - m < 9223372036854775808 := by exact XH44) : vop T ρ H op = some (.int .i64 (n - m), H) := v_subI ho hx hy h
theorem W2t {S : V.Sys} {H : Ze} {fn : Func} {ex : Exit} {env : VEnv} {B L : Ze} {v : VVal} {R : VVal → Ze → Prop} (hx : ex = .normal ∨ ex = .ret) (hv : Z6 S.C.T env (B ++ L) fn.results = some v) (h : R v B) (hB : BaseOk H B := by exact ht_base hA) (hu : v.under H.length = true := by first | rfl | simp [VVal.under, VVal.underL, *]) : fnK S fn H R ex env (B ++ L) := E_app hx hv hB hu h
theorem hset_spec {x : SW} (H : Ze) (w : BitVec 64) : F (psys x) 145 [iW w] H fun v G => v = .agg [iW w] ∧ G = H := by
 refine Zy Tryd.func145 rfl u6 rfl ?_
 refine Zd (Za ?_)
 refine Lo u6 (Zw rfl rfl) ?_
 refine Zf (Zc (Zd (Za ?_)))
 refine Lo u6 (rfl) ?_
 refine Lo u6 (Zb (.inl rfl) rfl) ?_
 refine Zk rfl rfl rfl (by exact Of_spec _ 0#64 _) ?_
 rintro _ _ ⟨rfl, rfl⟩
 refine Le u6 ?_
 refine Lo u6 (W13 rfl rfl rfl rfl rfl rfl rfl) ?_
 refine Zf (Zc (Zn ?_))
 refine W10 (.inr rfl) (YC rfl rfl rfl rfl XH0 XH7) ?_
 exact ⟨rfl, rfl⟩
theorem hgrow_in {x : SW} {p q y n : Nat} {rows : List (BitVec 64)} (ih : ∀ (H : Ze) (row : Int) (O : List Int) (S : BitVec 64) (g : Gz), Apart3 H p q y → H[p]? = some (hmB y rows O) → H[q]? = some (hsB S) → H[y]? = some (gaB (gw g S)) → 0 ≤ row → row < rows.length → Gok rows O → 64 - come 64 S < n → F (psys x) 119 [.ptr (some (p, 0)), iI row, .ptr (some (q, 0))] H fun v G => v = .bool (grw rows n row (O, S)).1 ∧ G = htH H p q y rows (grw rows n row (O, S)).2 (gw g (grw rows n row (O, S)).2.2)) {H L : Ze} (a : Apart3 H p q y) (t : GSt) (g : Gz) (row : Int) (h0 : 0 ≤ row) (h1 : row < rows.length) (hk : Gok rows t.1) (hm : 64 - come 64 t.2 < n) :
    F (psys x) 119 [.ptr (some (p, 0)), iI row, .ptr (some (q, 0))] (htH H p q y rows t (gw g t.2) ++ L) fun v G => v = .bool (grw rows n row t).1 ∧ G = htH H p q y rows (grw rows n row t).2 (gw g (grw rows n row t).2.2) ++ L := by
  have := ih (htH H p q y rows t (gw g t.2) ++ L) row t.1 t.2 g (apart_app a) (ht_p a) (ht_q a) (ht_s a) h0 h1 hk hm
  rw [ht_ht a] at this
  exact this
theorem hgrow_s {x : SW} (p q y n : Nat) (rows : List (BitVec 64)) (ih : ∀ (H : Ze) (row : Int) (O : List Int) (S : BitVec 64) (g : Gz), Apart3 H p q y → H[p]? = some (hmB y rows O) → H[q]? = some (hsB S) → H[y]? = some (gaB (gw g S)) → 0 ≤ row → row < rows.length → Gok rows O → 64 - come 64 S < n → F (psys x) 119 [.ptr (some (p, 0)), iI row, .ptr (some (q, 0))] H fun v G => v = .bool (grw rows n row (O, S)).1 ∧ G = htH H p q y rows (grw rows n row (O, S)).2 (gw g (grw rows n row (O, S)).2.2)) (H : Ze) (hA : Apart3 H p q y) (row : Int) (O : List Int) (S : BitVec 64) (g : Gz) (hp : H[p]? = some (hmB y rows O)) (hq : H[q]? = some (hsB S)) (hs : H[y]? = some (gaB (gw g S))) (h0 : 0 ≤ row) (h1 : row < rows.length) (hO : Gok rows O) (hm : 64 - come 64 S < n + 1) (h62 : rows.length < 4611686018427387904) : F (psys x) 119 [.ptr (some (p, 0)), iI row, .ptr (some (q, 0))] H fun v G => v = .bool (grw rows (n + 1) row (O, S)).1 ∧ G = htH H p q y rows (grw rows (n + 1) row (O, S)).2 (gw g (grw rows (n + 1) row (O, S)).2.2) := by
 refine Zy Tryd.func119 rfl u67 rfl ?_
 refine Zd (Za ?_)
 refine Lo u67 (ZE rfl rfl rfl) ?_
 refine Lo u67 (ZE rfl rfl rfl) ?_
 refine Lo u67 (ZE rfl rfl rfl) ?_
 refine Lo u67 (Zw rfl rfl) ?_
 refine Zf (Zc (Zd (Zd ?_)))
 refine ZS [0, 1, 2, 3, 4, 5, 6, 7, 8] #[0, 1, 3, 7, 0, 31, 63, 127, 255] XH2 XH2 XH2 ?_
 refine Oo u67 .look rfl (W2j rfl rfl rfl rfl) ?_
 refine Oo u67 .calm rfl (rfl) ?_
 refine Oo u67 .calm rfl (rfl) ?_
 refine Oo u67 .look rfl (W2j rfl rfl rfl rfl) ?_
 refine Oo u67 .look rfl (W2j rfl rfl rfl rfl) ?_
 refine Oo u67 .calm rfl (W18 rfl rfl rfl rfl rfl rfl rfl) ?_
 refine Oo u67 .look rfl (W2j rfl rfl rfl rfl) ?_
 refine Ye (env' := u67) rfl rfl rfl rfl rfl (by exact hset_spec _ _) XH17 rfl rfl ?_
 refine Ye (env' := u67) rfl rfl rfl rfl rfl (by exact All_spec _ _) XH17 rfl rfl ?_
 refine ZR [] XH2 (trivial) ?_
 refine Zc (Zp ?_)
 refine ZI (mk 67 147573952589676347271) (env' := u67) rfl ?_
 refine B_rangeM cI (pl (rows.getD row.toNat 0) 0) (fun l0 h => by cases h) rfl (fun l G R h => All1_spec _ _ _ _ h) (σ := GSt × Bool) (fun k s => htH H p q y rows s.1 (gw g (s.1).2) ++ [.cells [.ptr (some (p, 0))] true, .cells [iI row] true, .cells [.ptr (some (q, 0))] true, .cells [.bool s.2] true, k]) ((O, S), false) (fun k => by show _ = htH H p q y rows (O, S) (gw g S) ++ _; rw [htH_id hp hq hs, List.append_assoc]; rfl) (fun k s => by rw [List.length_append]; exact ZN (Yx rfl) rfl) (fun k k1 s => by rw [List.length_append]; exact Z4 (Yx rfl)) (fun pre s => ∃ z, (pl (rows.getD row.toNat 0) 0) = pre ++ z ∧ grL (grw rows n) row (pl (rows.getD row.toNat 0) 0) (O, S) = grL (grw rows n) row z s.1 ∧ s.1.1 = O ∧ 64 - come 64 s.1.2 ≤ n ∧ s.2 = false) ?_ (fun j pre c s => (j = Code.ret ∧ (grL (grw rows n) row (pl (rows.getD row.toNat 0) 0) (O, S) = (true, s.1) ∧ s.2 = true))) rfl ?_ ?_ ?_
 ·exact ⟨_, rfl, rfl, rfl, by show 64 - come 64 S ≤ n; omega, rfl⟩
 ·intro pre c post s hx hI kr kb hkr hkb
  obtain ⟨s1, res⟩ := s
  try dsimp only at hI ⊢
  obtain ⟨z, hz, hg, hO1, hcm, hres⟩ := hI
  have hres : res = false := hres
  subst hres
  obtain rfl : z = c :: post := List.append_cancel_left (hz.symm.trans hx)
  have hO1 : s1.1 = O := hO1
  have hcm : 64 - come 64 s1.2 ≤ n := hcm
  have hg : grL (grw rows n) row (pl (rows.getD row.toNat 0) 0) (O, S) = grL (grw rows n) row (c :: post) s1 := hg
  have hcx : c ∈ (pl (rows.getD row.toNat 0) 0) := by rw [hx]; simp
  obtain ⟨_, hc64, _⟩ := mem_pl.1 hcx
  have hk1 : Gok rows s1.1 := by rw [hO1]; exact hO
  have hl1 : s1.1.length = 64 := hk1.len
  have hnn1 := hk1.nn c hc64
  refine ZZ (env' := u67) rfl ?_
  refine Za ?_
  refine Lo u67 (Zb (.inr rfl) rfl) ?_
  refine Zf ?_
  refine ⟨rfl, (s1, false), rfl, ?_⟩
  try dsimp only
  refine Zp (Zd (Zd (Za ?_)))
  refine Lo u67 (W2l rfl rfl rfl rfl) ?_
  refine Lo u67 (rfl) ?_
  refine Lo u67 (W2m rfl rfl rfl rfl) ?_
  refine Zk rfl rfl rfl (by exact hset_spec _ _) ?_
  rintro _ _ ⟨rfl, rfl⟩
  refine Le u67 ?_
  refine Lo u67 (Zb (.inl rfl) rfl) ?_
  refine Zk rfl rfl rfl (by exact Has_spec _ _ _) ?_
  rintro v _ ⟨hv, rfl⟩; obtain rfl : v = .bool (s1.2.getLsbD c) := hv.trans (by rw [decide_eq_true ⟨Int.natCast_nonneg c, by omega⟩, Bool.true_and]; rfl)
  refine Le u67 ?_
  refine Zf (Zc ?_)
  refine Zo _ rfl (fun hc1 => ?_) (fun hc1 => ?_)
  ·try simp only [qB] at hc1
   refine ZL (ZJ (ZK ?_))
   have hseen : s1.2.getLsbD c = true := by assumption
   refine ⟨(s1, false), rfl, .inl ⟨rfl, ?_⟩⟩
   exact ⟨post, by rw [hx, List.append_assoc]; rfl, by rw [hg, grL, if_pos hseen], hO1, hcm, rfl⟩
  ·try simp only [qB] at hc1
   refine Zl (Zc (Zd (Za ?_)))
   have hnseen : ¬ s1.2.getLsbD c = true := nof (by assumption)
   have hcg := come_grow (s := s1.2) (t := s1.2 ||| 1#64 <<< c) (fun a ha => (or1 hc64).2 (.inl ha)) ⟨c, (or1 hc64).2 (.inr rfl), bool_f hnseen⟩
   have hcl := come_le (s1.2 ||| 1#64 <<< c)
   refine Lo u67 (W2l rfl rfl rfl rfl) ?_
   refine Lo u67 (rfl) ?_
   refine Lo u67 (rfl) ?_
   refine Lo u67 (W2j rfl rfl rfl rfl) ?_
   refine Lo u67 (rfl) ?_
   refine Lo u67 (rfl) ?_
   refine Lo u67 (W2m rfl rfl rfl rfl) ?_
   refine Lo u67 (v_addW (b := 1#64) rfl rfl rfl) ?_
   refine Lo u67 (rfl) ?_
   refine Lo u67 (rfl) ?_
   refine Lo u67 (W2n rfl rfl rfl rfl rfl rfl rfl) ?_
   refine Zf (Zc (Zd ?_))
   refine ZS [0, 1, 2, 3, 4, 5, 6, 7] #[0, 1, 3, 0, 8, 31, 63, 127] XH2 XH2 XH2 ?_
   refine Oo u67 .look rfl (W2l rfl rfl rfl rfl) ?_
   refine Oo u67 .calm rfl (rfl) ?_
   refine Oo u67 .look rfl (W2j rfl rfl rfl rfl) ?_
   refine Oo u67 .calm rfl (Zb (.inl rfl) rfl) ?_
   refine Oo u67 .calm rfl (v_shl1 rfl rfl rfl XH3) ?_
   refine Oo u67 .calm rfl (v_orW rfl rfl rfl) ?_
   refine Oo u67 .calm rfl (rfl) ?_
   refine Oo u67 .turn rfl (W2o rfl rfl rfl rfl rfl rfl rfl) ?_
   refine ZR [] XH2 (trivial) ?_
   refine Zc (Zd ?_)
   rw [come_one hc64 (bool_f hnseen) g]
   refine ZS [0, 1, 2, 3, 4, 5, 6, 7, 8, 9, 10, 11, 12, 13, 14, 15, 16, 17, 18] #[0, 0, 1, 5, 15, 31, 63, 127, 255, 255, 255, 767, 2815, 7935, 16127, 32511, 255, 131071, 262143] XH2 XH2 XH2 ?_
   refine Oo u67 .look rfl (W2l rfl rfl rfl rfl) ?_
   refine Oo u67 .calm rfl (Zb (.inl rfl) rfl) ?_
   refine Oo u67 .calm rfl (rfl) ?_
   refine Oo u67 .calm rfl (rfl) ?_
   refine Oo u67 .calm rfl XH33 ?_
   refine Oo u67 .look rfl (W2p rfl rfl rfl rfl) ?_
   refine Oo u67 .calm rfl (rfl) ?_
   refine Oo u67 .calm rfl (Zb (.inl rfl) rfl) ?_
   refine O_split 48 (env1 := u67) (env2 := u67) rfl rfl rfl (fun hg2 => ?_) (fun hg2 => ?_)
   ·try simp only [qB] at hg2
    refine Of u67 rfl ?_
    refine Of u67 rfl ?_
    refine Of u67 rfl ?_
    refine Of u67 rfl ?_
    refine Of u67 rfl ?_
    refine Of u67 rfl ?_
    refine Of u67 rfl ?_
    refine Of u67 rfl ?_
    refine Of u67 rfl ?_
    refine Of u67 rfl ?_
    refine Oo u67 .calm rfl (YE (VVal.bool true) rfl rfl rfl) ?_
    refine ZR [] XH2 (trivial) ?_
    refine Zc ?_
    refine ZV rfl rfl ?_
    refine Zd ?_
    refine ZS [0, 1, 2, 3, 4, 5, 6, 7] #[0, 0, 0, 4, 1, 17, 63, 127] XH2 XH2 XH2 ?_
    refine Oo u67 .look rfl (W2l rfl rfl rfl rfl) ?_
    refine Oo u67 .calm rfl (Zb (.inl rfl) rfl) ?_
    refine Oo u67 .look rfl (W2l rfl rfl rfl rfl) ?_
    refine Oo u67 .calm rfl (W14 rfl rfl rfl) ?_
    refine Oo u67 .calm rfl (rfl) ?_
    refine Oo u67 .calm rfl (rfl) ?_
    refine Oo u67 .calm rfl XH33 ?_
    refine Oo u67 .turn rfl (W2r rfl rfl rfl rfl rfl rfl rfl) ?_
    refine ZR [] XH2 (trivial) ?_
    refine Zc (Zd (Za ?_))
    refine Lo u67 (YD (VVal.bool true) rfl rfl rfl rfl rfl rfl rfl XH16 XH4 (by exact Z4 (Yx rfl))) ?_
    refine Zf (Zc (Zn (ZU ?_)))
    refine ⟨(_, true), rfl, .inr ⟨Code.ret, rfl, ⟨rfl, ?_⟩⟩⟩
    first
      | exact ⟨by rw [hg, grL, if_neg hnseen, if_pos (by assumption)]; rfl, rfl⟩
      | exact ⟨by rw [hg, grL, if_neg hnseen, if_neg hno, if_pos (by assumption)]; rfl, rfl⟩
   ·try simp only [qB] at hg2
    have hno : ¬ s1.1.getD c 0 = 0 := by assumption
    have hgr := grw_ok (rows := rows) (n := n) (row := s1.1.getD c 0 - 1) (s := (s1.1, s1.2 ||| 1#64 <<< c)) (by omega) (by omega) hk1 (by show 64 - come 64 (s1.2 ||| 1#64 <<< c) < n; omega)
    refine Oo u67 .look rfl (W2l rfl rfl rfl rfl) ?_
    refine Oo u67 .look rfl (W2l rfl rfl rfl rfl) ?_
    refine Oo u67 .calm rfl (Zb (.inl rfl) rfl) ?_
    refine Oo u67 .calm rfl (rfl) ?_
    refine Oo u67 .calm rfl (rfl) ?_
    refine Oo u67 .calm rfl XH33 ?_
    refine Oo u67 .look rfl (W2p rfl rfl rfl rfl) ?_
    refine Oo u67 .calm rfl (W2s rfl rfl rfl) ?_
    refine Oo u67 .look rfl (W2l rfl rfl rfl rfl) ?_
    refine Ye (env' := u67) rfl rfl rfl rfl rfl (by exact hgrow_in ih hA (s1.1, s1.2 ||| 1#64 <<< c) g _ (show (0 : Int) ≤ s1.1.getD c 0 - 1 by omega) (show s1.1.getD c 0 - 1 < (rows.length : Int) by omega) hk1 (by show 64 - come 64 (s1.2 ||| 1#64 <<< c) < n; omega)) XH17 rfl rfl ?_
    refine Oo u67 .calm rfl (Yf rfl rfl rfl) ?_
    refine ZR [] XH2 (trivial) ?_
    refine Zc ?_
    refine Zo _ rfl (fun hc3 => ?_) (fun hc3 => ?_)
    ·try simp only [qB] at hc3
     refine Zd ?_
     refine ZS [0, 1, 2, 3, 4, 5, 6, 7] #[0, 0, 0, 4, 1, 17, 63, 127] XH2 XH2 XH2 ?_
     refine Oo u67 .look rfl (W2l rfl rfl rfl rfl) ?_
     refine Oo u67 .calm rfl (Zb (.inl rfl) rfl) ?_
     refine Oo u67 .look rfl (W2l rfl rfl rfl rfl) ?_
     refine Oo u67 .calm rfl (W14 rfl rfl rfl) ?_
     refine Oo u67 .calm rfl (rfl) ?_
     refine Oo u67 .calm rfl (rfl) ?_
     refine Oo u67 .calm rfl XH33 ?_
     refine Oo u67 .turn rfl (W2r rfl rfl rfl rfl rfl rfl rfl) ?_
     refine ZR [] XH2 (trivial) ?_
     refine Zc (Zd (Za ?_))
     refine Lo u67 (YD (VVal.bool true) rfl rfl rfl rfl rfl rfl rfl XH16 XH4 (by exact Z4 (Yx rfl))) ?_
     refine Zf (Zc (Zn (ZU ?_)))
     refine ⟨(_, true), rfl, .inr ⟨Code.ret, rfl, ⟨rfl, ?_⟩⟩⟩
     first
       | exact ⟨by rw [hg, grL, if_neg hnseen, if_pos (by assumption)]; rfl, rfl⟩
       | exact ⟨by rw [hg, grL, if_neg hnseen, if_neg hno, if_pos (by assumption)]; rfl, rfl⟩
    ·try simp only [qB] at hc3
     refine Zl (ZG ?_)
     have hcg2 : come 64 (s1.2 ||| 1#64 <<< c) ≤ come 64 (grw rows n (s1.1.getD c 0 - 1) (s1.1, s1.2 ||| 1#64 <<< c)).2.2 := come_le2 hgr.sub
     refine ⟨(_, false), rfl, .inl ⟨rfl, ?_⟩⟩
     exact ⟨post, by rw [hx, List.append_assoc]; rfl, by rw [hg, grL, if_neg hnseen, if_neg hno, if_neg (nof (by assumption))]; rfl, ((hgr.no (by assumption)).1).trans hO1, (by show 64 - come 64 (grw rows n (s1.1.getD c 0 - 1) (s1.1, s1.2 ||| 1#64 <<< c)).2.2 ≤ n; omega), rfl⟩
 ·intro s k hk hI
  obtain ⟨s1, res⟩ := s
  try dsimp only at hI ⊢
  obtain ⟨z, hz, hg, hO1, hcm, hres⟩ := hI
  have hres : res = false := hres
  subst hres
  obtain rfl : z = [] := by simpa using hz
  refine ZG (Zc (Zd (Za ?_)))
  refine Lo u67 (YD (VVal.bool false) rfl rfl rfl rfl rfl rfl rfl XH16 XH4 (by exact Z4 (Yx rfl))) ?_
  refine Zf (Zc (Zn ?_))
  refine W2t (.inr rfl) (vres_cell rfl rfl rfl rfl (by exact ZN (Yx rfl) rfl) (by first | rfl | assumption | exact hown_cell (by omega) | exact hgp_cell hl1 | exact fget (α := BitVec 64) 0 (by omega))) ?_
  exact ⟨by rw [show grw rows (n + 1) row (O, S) = (false, s1) from grw_all.trans hg], by rw [show grw rows (n + 1) row (O, S) = (false, s1) from grw_all.trans hg]⟩
 ·rintro j pre c post s k hk hx (⟨rfl, hX⟩)
  obtain ⟨s1, res⟩ := s
  try dsimp only
  obtain ⟨hX1, hX2⟩ := hX
  have hX2 : res = true := hX2
  subst hX2
  refine J_ret ?_
  refine ZU (Zu ?_)
  refine W2t (.inr rfl) (vres_cell rfl rfl rfl rfl (by exact ZN (Yx rfl) rfl) (by first | rfl | assumption | exact hown_cell (by omega) | exact hgp_cell hl1 | exact fget (α := BitVec 64) 0 (by omega))) ?_
  exact ⟨by rw [show grw rows (n + 1) row (O, S) = (true, s1) from grw_all.trans hX1], by rw [show grw rows (n + 1) row (O, S) = (true, s1) from grw_all.trans hX1]⟩
abbrev u51 {a0 a1 a2 a3 a4 a5 a6 a7 a8 a9 a10 a11 a12 a13 a14 a15 a16 a17 a18 a19 a20 a21 a22 a23 a24 a25 a26 a27 a28 a29 a30 a31 a32 a33 a34 a35 a36 a37 a38 a39 a40 a41 a42 a43 a44 a45 a46 a47 a48 a49 a50 : VVal} : VEnv := a0 :: a1 :: a2 :: a3 :: a4 :: a5 :: a6 :: a7 :: a8 :: a9 :: a10 :: a11 :: a12 :: a13 :: a14 :: a15 :: a16 :: a17 :: a18 :: a19 :: a20 :: a21 :: a22 :: a23 :: a24 :: a25 :: a26 :: a27 :: a28 :: a29 :: a30 :: a31 :: a32 :: a33 :: a34 :: a35 :: a36 :: a37 :: a38 :: a39 :: a40 :: a41 :: a42 :: a43 :: a44 :: a45 :: a46 :: a47 :: a48 :: a49 :: a50 :: []
theorem W2w {T : TypeId → Option VTy} {H : Ze} {op : Op} {ρ : Operand → VVal} {t : TypeId} {a : Operand} {y : VTy} {p v : VVal} (ho : op = .load t a) (ha : ρ a = p) (hy : T t = some y) (hd : Zm y.desc = false) (h : LdOk H p v := by first | exact .inl ⟨_, _, rfl, by first | exact fget0 (α := BitVec 64) 0 (by rw [mkT_len]; omega) | rfl⟩ | exact .inr ⟨_, _, _, _, rfl, XH35, by first | exact fget0 (α := BitVec 64) 0 (by rw [mkT_len]; omega) | rfl⟩) : vop T ρ H op = some (v, H) := v_ld ho ha hy hd h
theorem W2y {T : TypeId → Option VTy} {H : Ze} {op : Op} {ρ : VEnv} {H' : Ze} {t : TypeId} {a : Operand} {i : Nat} {v : VVal} {y : VTy} {b off : Nat} {cs new : List VVal} (ho : op = .store t a (.tmp i)) (hv : ρ[i]? = some v) (ha : ρ.eval a = .ptr (some (b, off))) (hy : T t = some y) (hx : v.cells = some new) (hn : new.length = y.size) (h1 : new.all VVal.one = true) (hb : H[b]? = some (.cells cs true) := by exact XH35) (hl : off + new.length ≤ cs.length := by show 0 + (k : Int).toNat * 1 + 1 ≤ _; rw [List.length_map, mkT_len]; omega) (hH : H.set b (.cells (ZC cs off new) true) = H' := by exact (Z4 rfl).trans (by show H ++ [VBlk.cells (ZC (List.map iW (mkT l t k)) (0 + (k : Int).toNat * 1) [_]) true, _] = _; rw [spl_w (by rw [mkT_len]; omega)])) : vop T ρ.eval H op = some (.skip, H') := Ya ho hv ha hy hx hn h1 hb hl hH
theorem W30 {S : V.Sys} {H : Ze} {fn : Func} {ex : Exit} {env : VEnv} {B L : Ze} {v : VVal} {R : VVal → Ze → Prop} (hx : ex = .normal ∨ ex = .ret) (hv : Z6 S.C.T env (B ++ L) fn.results = some v) (h : R v B) (hB : BaseOk H B := by exact BaseOk.set (BaseOk.refl _) _ rfl) (hu : v.under H.length = true := by first | rfl | simp [VVal.under, VVal.underL, *]) : fnK S fn H R ex env (B ++ L) := E_app hx hv hB hu h
theorem W31 {P : Prop} (h : P := by first | exact ⟨by rw [(full_no (by omega) hz (by assumption)).1], by rw [show fuG l t = ⟨0, 0, edN (msk l t) (k + 1)⟩ from congrArg (Gz.mk 0 0) (full_no (by omega) hz (by assumption)).2]⟩ | (obtain rfl : k = l.length := by omega); exact ⟨by rw [full_yes hz], rfl⟩) : P := h
theorem hgrow_spec {x : SW} (p q y : Nat) (rows : List (BitVec 64)) (h62 : rows.length < 4611686018427387904) : ∀ (n : Nat) (H : Ze) (row : Int) (O : List Int) (S : BitVec 64) (g : Gz), Apart3 H p q y → H[p]? = some (hmB y rows O) → H[q]? = some (hsB S) → H[y]? = some (gaB (gw g S)) → 0 ≤ row → row < rows.length → Gok rows O → 64 - come 64 S < n → F (psys x) 119 [.ptr (some (p, 0)), iI row, .ptr (some (q, 0))] H fun v G => v = .bool (grw rows n row (O, S)).1 ∧ G = htH H p q y rows (grw rows n row (O, S)).2 (gw g (grw rows n row (O, S)).2.2)
  | 0, _, _, _, _, _, _, _, _, _, _, _, _, h => absurd h (by omega)
  | n + 1, H, row, O, S, g, a, hp, hq, hs, h0, h1, hO, hm => hgrow_s p q y n rows (fun H row O S g a b c d e f h i => hgrow_spec p q y rows h62 n H row O S g a b c d e f h i) H a row O S g hp hq hs h0 h1 hO hm h62
theorem gw_0 (g : Gz) : gw g 0#64 = g := by unfold gw; rw [come_0]; rfl
theorem gw_ed {rows : List (BitVec 64)} {k : Nat} {g : Gz} (h : (szO rows k).2 = k) : gw (g + ⟨0, 0, edN rows k⟩) (grw rows 65 k ((szO rows k).1, 0#64)).2.2 = g + ⟨0, 0, edN rows (k + 1)⟩ := by
  rw [edN_yes h]; exact Gz.ext' rfl rfl (Nat.add_assoc _ _ _)
theorem hgrow_at {x : SW} {H : Ze} {y p q : Nat} (hp : p = H.length + 1) (hq : q = H.length + 2) (g : Gz) (hy : y < H.length) (rows : List (BitVec 64)) (O : List Int) (row : Int) (h0 : 0 ≤ row) (h1 : row < rows.length) (hO : Gok rows O) (h62 : rows.length < 4611686018427387904) : F (psys x) 119 [.ptr (some (p, 0)), iI row, .ptr (some (q, 0))] (H.set y (gaB g) ++ [.dead, hmB y rows O, hsB 0#64]) fun v G => v = .bool (grw rows 65 row (O, 0#64)).1 ∧ G = H.set y (gaB (gw g (grw rows 65 row (O, 0#64)).2.2)) ++ [.dead, hmB y rows (grw rows 65 row (O, 0#64)).2.1, hsB (grw rows 65 row (O, 0#64)).2.2] := by
  subst hp hq
  have := hgrow_spec (x := x) (H.length + 1) (H.length + 2) y rows h62 65 (H.set y (gaB g) ++ [.dead, hmB y rows O, hsB 0#64]) row O 0#64 g ⟨by simp, by simp, by simp; omega, by omega, by omega, by omega⟩ (ZN (List.length_set) rfl) (ZN (List.length_set) rfl) (by rw [gw_0]; exact get_out (List.getElem?_set_self hy)) h0 h1 hO (by rw [come_0]; omega)
  unfold htH at this
  rw [Z4 (List.length_set), Z4 (List.length_set), Yn XH24, List.set_set] at this
  exact this
theorem hmB_under {n y : Nat} {rows : List (BitVec 64)} {O : List Int} (h : y < n) : (hmB y rows O).under n = true := by
  show VVal.underL n (fzW rows :: (O.map iI ++ [.ptr (some (y, 0))])) = true
  have h1 : VVal.underL n (O.map iI ++ [.ptr (some (y, 0))]) = true := VVal.underL_app (VVal.underL_map fun _ => rfl) (by simp [VVal.underL, VVal.under, h])
  simp only [VVal.underL, h1, Bool.and_true]
  exact VVal.underL_map fun _ => rfl
theorem wApp_c {l : List (BitVec 64)} : Zt (l.map iW) 0 (l.length * 1) = some (l.map iW) := by
  unfold Zt; rw [if_pos XH20, List.drop_zero, List.take_of_length_le XH20]
theorem spl_w {l : List (BitVec 64)} {k : Nat} {w : BitVec 64} (h : k < l.length) : ZC (l.map iW) (0 + k * 1) [iW w] = (l.set k w).map iW := by
  rw [show 0 + k * 1 = k by omega]
  unfold ZC
  rw [List.map_set, List.set_eq_take_append_cons_drop, if_pos (by rw [List.length_map]; exact h)]; simp
section
variable {T : TypeId → Option VTy} {ρ : Operand → VVal} {H : Ze} {op : Op}
theorem v_eqNilC {t : TypeId} {x y : Operand} {ty : TypeId} {cs : List VVal} {len es : Nat} {ex : Bool} {i : VTy} {e : TypeId} (ho : op = .binOp .eql t x y ty) (hx : ρ x = .fsl cs len es ex) (hy : ρ y = .slice none 0 0 true 0) (hT : T t = some i) (hd : i.desc = .slice e) (hl : len ≠ 0) : vop T ρ H op = some (.bool false, H) := by
  rw [ho]; simp [vop, vbin, hx, hy, veq, hT, hd, hl]
end
theorem CloW_nil {x : SW} (H : Ze) : F (psys x) 99 [.slice none 0 0 true 0] H fun v G => v = .fsl [] 0 1 false ∧ G = H := by
 refine Zy Tryd.func99 rfl u8 rfl ?_
 refine Zd (Za ?_)
 refine Lo u8 (Zj (VVal.slice none 0 0 true 0) (.inr rfl) rfl) ?_
 refine Zf (Zc (Zd (Zd (Za ?_))))
 refine Lo u8 (Zb (.inl rfl) rfl) ?_
 refine Lo u8 (rfl) ?_
 refine Zf (Zc ?_)
 refine ZV rfl rfl ?_
 refine Zd (Za ?_)
 refine Lo u8 (Zj (VVal.slice none 0 0 true 0) (.inr rfl) rfl) ?_
 refine Zf (Zc (Zn (Zu ?_)))
 refine E_gh (.inr rfl) (Zi rfl rfl) (Gh.ansLV (BaseOk.refl _) (LV.nil H.length 1 []) rfl) ?_
 exact ⟨rfl, rfl⟩
theorem CloW_emp {x : SW} (H : Ze) : F (psys x) 99 [.slice none 0 0 false 0] H fun v G => v = .fsl [] 0 1 false ∧ G = H := by
 refine Zy Tryd.func99 rfl u8 rfl ?_
 refine Zd (Za ?_)
 refine Lo u8 (Zj (VVal.slice none 0 0 true 0) (.inr rfl) rfl) ?_
 refine Zf (Zc (Zd (Zd (Za ?_))))
 refine Lo u8 (Zb (.inl rfl) rfl) ?_
 refine Lo u8 (rfl) ?_
 refine Zf (Zc ?_)
 refine ZA rfl rfl ?_
 refine Zl (Zc (Zd (Za ?_)))
 refine Lo u8 (Zs rfl rfl (by decide) rfl) ?_
 refine Lo u8 (Zb (.inl rfl) rfl) ?_
 refine Lo u8 (v_appIn rfl rfl rfl rfl rfl rfl rfl (ZN rfl rfl) rfl rfl rfl rfl (by decide) (by decide) (by decide)) ?_
 refine L_heap (H' := H ++ [.cells [] true]) (by rw [Z4 rfl]; rfl) ?_
 refine Lo u8 (Zb (.inr rfl) rfl) ?_
 refine Zf (Zc (Zn ?_))
 refine E_gh (.inr rfl) (Zi rfl rfl) (Gh.fsl (j := 0) (off := 0) (len := 0) (l := []) (BaseOk.refl _) rfl rfl (Nat.le_refl _) rfl) ?_
 exact ⟨rfl, rfl⟩
theorem CloW_c {x : SW} (H : Ze) (l : List (BitVec 64)) (hne : l ≠ []) (hl : l.length ≤ 1000000) : F (psys x) 99 [fzW l] H fun v G => v = .slice (some (H.length, 0)) l.length l.length (decide (l.length = 0)) 1 ∧ G = H ++ [.cells (l.map iW) true] := by
 refine Zy Tryd.func99 rfl u8 rfl ?_
 refine Zd (Za ?_)
 refine Lo u8 (Zj (VVal.slice none 0 0 true 0) (.inr rfl) rfl) ?_
 refine Zf (Zc (Zd (Zd (Za ?_))))
 refine Lo u8 (Zb (.inl rfl) rfl) ?_
 refine Lo u8 (v_eqNilC rfl rfl rfl rfl rfl (fun e => hne (List.eq_nil_of_length_eq_zero e))) ?_
 refine Zf (Zc ?_)
 refine ZA rfl rfl ?_
 refine Zl (Zc (Zd (Za ?_)))
 refine Lo u8 (Zs rfl rfl (by decide) rfl) ?_
 refine Lo u8 (Zb (.inl rfl) rfl) ?_
 refine L_opX rfl rfl (v_appE rfl rfl rfl rfl rfl rfl rfl rfl (by rw [List.length_map]; exact (Nat.mul_one _).symm) (mapW_one _) (by decide) (by show l.length * 8 ≤ _ ∧ l.length ≤ _; omega)) ?_
 rintro _ _ ⟨Z, i, rfl, rfl, hi⟩
 refine Le u8 ?_
 refine Lo u8 (Zb (.inr rfl) rfl) ?_
 refine Zf (Zc (Zn ?_))
 refine E_gh (.inr rfl) (Zi rfl rfl) (Gh.pack (BaseOk.refl _) hi (mapW_under _ _)) ?_
 exact ⟨rfl, rfl⟩
theorem CloW_0 {x : SW} (H : Ze) : F (psys x) 99 [fzW []] H fun v G => v = .fsl [] 0 1 false ∧ G = H := F_split0 (CloW_nil H) (CloW_emp H)
theorem CloW_L {x : SW} (H L : Ze) (l : List (BitVec 64)) (hne : l ≠ []) (hl : l.length ≤ 1000000) : F (psys x) 99 [fzW l] (H ++ L) fun v G => v = .slice (some (H.length + L.length, 0)) l.length l.length (decide (l.length = 0)) 1 ∧ G = H ++ (L ++ [.cells (l.map iW) true]) := by
  have := CloW_c (x := x) (H ++ L) l hne hl
  rw [List.length_append, List.append_assoc] at this
  exact this
abbrev huC (u : Int) (ws rs : VVal) (y : Nat) : List VVal := [iI u, ws, rs, .ptr (some (y, 0))]
abbrev huP (u : Int) (ws rs : VVal) (y : Nat) : VVal := .fptr (huC u ws rs y) 0
theorem hfull_0 {x : SW} {u : Int} {ws rs : VVal} (H : Ze) (y : Nat) (g : Gz) (hs : H[y]? = some (gaB g)) (t : BitVec 64) : F (psys x) 87 [huP u ws rs y, fzW [], iW t] H fun v G => v = .bool (YA [] t) ∧ G = H := by
 refine Zy Tryd.func87 rfl u51 rfl ?_
 refine Zd (Za ?_)
 refine Lo u51 (Zj (VVal.bool false) (.inr rfl) rfl) ?_
 refine Zf (Zc (Zd ?_))
 refine ZS [0, 2, 3, 4, 5, 1, 6, 7, 8] #[0, 1, 0, 4, 12, 28, 63, 127, 255] XH2 XH2 XH2 ?_
 refine Oo u51 .calm rfl (Zb (.inl rfl) rfl) ?_
 refine Oo u51 .calm rfl (Zb (.inl rfl) rfl) ?_
 refine Oo u51 .calm rfl (rfl) ?_
 refine Oo u51 .calm rfl (rfl) ?_
 refine Yp (env' := u51) (x := .look _ _) rfl rfl rfl (W12 rfl rfl rfl rfl) rfl rfl rfl ?_
 refine Ye (env' := u51) rfl rfl rfl rfl rfl (by exact CloW_0 _) XH6 rfl rfl ?_
 refine Oo u51 .calm rfl (rfl) ?_
 refine Oo u51 .grow rfl (ZE rfl rfl rfl) ?_
 refine Oo u51 .calm rfl (Zb (.inr rfl) rfl) ?_
 refine ZR [_] (by rfl) (And.intro (And.intro (W12 rfl rfl rfl rfl) (W12 rfl rfl rfl rfl)) trivial) ?_
 refine Zc (Zd (Zd (Za ?_)))
 refine Lo u51 (Zb (.inl rfl) rfl) ?_
 refine Lo u51 (rfl) ?_
 refine Lo u51 (rfl) ?_
 refine Lo u51 (W12 rfl rfl rfl rfl) ?_
 refine Lo u51 (rfl) ?_
 refine Lo u51 (Zj (VVal.int .i64 0) (.inl rfl) rfl) ?_
 refine Zf (Zc (Zp ?_))
 refine ZI (mk 51 2251799788519291) (env' := u51) rfl ?_
 refine ZP (fun (k : Nat) => 0) (fun (k : Nat) => [(24, iI (k : Nat))]) (fun (k : Nat) G => (k = 0) ∧ G = H ++ [hmB y [] (szO [] 0).1]) 0 rfl ?_ ?_
 ·refine ⟨?_, rfl⟩
  trivial
 rintro k _ ⟨_, rfl⟩
 refine ZZ (env' := u51) rfl ?_
 refine Zd (Za ?_)
 refine Lo u51 (rfl) ?_
 refine Zf (Zc (Zd ?_))
 refine Zo _ rfl (fun hc1 => ?_) (fun hc1 => ?_)
 ·try simp only [qB] at hc1
  exfalso; try simp only [List.length_nil] at *
  omega
 ·try simp only [qB] at hc1
  refine ZL (ZJ (ZB (ZK (Zc (Zd (Zd (Za ?_)))))))
  refine Lo u51 (Zb (.inl rfl) rfl) ?_
  refine Lo u51 (rfl) ?_
  refine Lo u51 (rfl) ?_
  refine Lo u51 (W12 rfl rfl rfl rfl) ?_
  refine Lo u51 (rfl) ?_
  refine Lo u51 (Zj (VVal.int .i64 0) (.inl rfl) rfl) ?_
  refine Zf (Zc (Zp ?_))
  refine ZI (mk 51 2238605674151807) (env' := u51) rfl ?_
  refine ZP (fun (k : Nat) => 0) (fun (k : Nat) => [(43, iI (k : Nat))]) (fun (k : Nat) G => (k = 0) ∧ G = H ++ [hmB y [] (szO [] 0).1]) 0 rfl ?_ ?_
  ·refine ⟨?_, rfl⟩
   trivial
  rintro k _ ⟨_, rfl⟩
  refine ZZ (env' := u51) rfl ?_
  refine Zd (Za ?_)
  refine Lo u51 (rfl) ?_
  refine Zf (Zc (Zd ?_))
  refine Zo _ rfl (fun hc2 => ?_) (fun hc2 => ?_)
  ·try simp only [qB] at hc2
   exfalso; try simp only [List.length_nil] at *
   omega
  ·try simp only [qB] at hc2
   refine ZL (ZJ (ZB (ZK (Zc (Zd (Za ?_))))))
   refine Lo u51 (Zj (VVal.bool true) (.inr rfl) rfl) ?_
   refine Zf (Zc (Zn ?_))
   refine W10 (.inr rfl) (Zi rfl rfl) ?_
   exact ⟨rfl, rfl⟩
theorem hfull_c {x : SW} {u : Int} {ws rs : VVal} (H : Ze) (y : Nat) (g : Gz) (hs : H[y]? = some (gaB g)) (l : List (BitVec 64)) (t : BitVec 64) (hne : l ≠ []) (hl : l.length ≤ 1000000) : F (psys x) 87 [huP u ws rs y, fzW l, iW t] H fun v G => v = .bool (YA l t) ∧ G = H.set y (gaB (g + fuG l t)) := by
 have hy := ZD hs
 refine Zy Tryd.func87 rfl u51 rfl ?_
 refine Zd (Za ?_)
 refine Lo u51 (Zj (VVal.bool false) (.inr rfl) rfl) ?_
 refine Zf (Zc (Zd ?_))
 refine ZS [0, 2, 3, 4, 5, 1, 6, 7, 8] #[0, 1, 0, 4, 12, 28, 63, 127, 255] XH2 XH2 XH2 ?_
 refine Oo u51 .calm rfl (Zb (.inl rfl) rfl) ?_
 refine Oo u51 .calm rfl (Zb (.inl rfl) rfl) ?_
 refine Oo u51 .calm rfl (rfl) ?_
 refine Oo u51 .calm rfl (rfl) ?_
 refine Yp (env' := u51) (x := .look _ _) rfl rfl rfl (W2w rfl rfl rfl rfl) rfl rfl rfl ?_
 refine Ye (env' := u51) rfl rfl rfl rfl rfl (by exact CloW_L _ _ _ hne hl) XH6 rfl rfl ?_
 refine Oo u51 .calm rfl (rfl) ?_
 refine Oo u51 .grow rfl (ZE rfl rfl rfl) ?_
 refine Oo u51 .calm rfl (Zb (.inr rfl) rfl) ?_
 refine ZR [_] (by rfl) (And.intro (And.intro (W2w rfl rfl rfl rfl) (W2w rfl rfl rfl rfl)) trivial) ?_
 refine Zc (Zd (Zd (Za ?_)))
 refine Lo u51 (Zb (.inl rfl) rfl) ?_
 refine Lo u51 (rfl) ?_
 refine Lo u51 (rfl) ?_
 refine Lo u51 (W2w rfl rfl rfl rfl) ?_
 refine Lo u51 (rfl) ?_
 refine Lo u51 (Zj (VVal.int .i64 0) (.inl rfl) rfl) ?_
 refine Zf (Zc (Zp ?_))
 refine ZI (mk 51 2251799788519291) (env' := u51) rfl ?_
 refine ZP (fun (k : Nat) => l.length - k) (fun (k : Nat) => [(24, iI (k : Nat))]) (fun (k : Nat) G => (k ≤ l.length) ∧ G = H ++ [.cells ((mkT l t k).map iW) true, .cells (.slice (some (H.length + 0, 0)) l.length l.length (decide (l.length = 0)) 1 :: ((List.replicate 64 0).map iI ++ [.ptr (some (y, 0))])) true]) 0 rfl ?_ ?_
 ·refine ⟨?_, (by rw [mkT_0]; rfl)⟩
  exact Nat.zero_le _
 rintro k _ ⟨hk, rfl⟩
 refine ZZ (env' := u51) rfl ?_
 refine Zd (Za ?_)
 refine Lo u51 (rfl) ?_
 refine Zf (Zc (Zd ?_))
 refine Zo _ rfl (fun hc1 => ?_) (fun hc1 => ?_)
 ·try simp only [qB] at hc1
  refine Zl (Zc (Zd (Zp (Zd (Za ?_)))))
  refine Lo u51 (Zb (.inl rfl) rfl) ?_
  refine Lo u51 (Zb (.inr rfl) rfl) ?_
  refine Zf (Zc (Za ?_))
  refine Lo u51 (Zb (.inl rfl) rfl) ?_
  refine Lo u51 (rfl) ?_
  refine Lo u51 (rfl) ?_
  refine Lo u51 (W2w rfl rfl rfl rfl) ?_
  refine Lo u51 (Zb (.inl rfl) rfl) ?_
  refine Lo u51 (W18 rfl rfl rfl rfl rfl rfl rfl) ?_
  refine Lo u51 (W2w rfl rfl rfl rfl) ?_
  refine Lo u51 (Zb (.inl rfl) rfl) ?_
  refine Lo u51 (v_andNotW rfl rfl rfl) ?_
  refine Lo u51 (W18 rfl rfl rfl rfl rfl rfl rfl) ?_
  refine Lo u51 (W2y rfl rfl rfl rfl rfl rfl rfl) ?_
  refine Zf (ZG (Zc (Za ?_)))
  refine Lo u51 (W14 rfl rfl rfl) ?_
  refine Lo u51 (Zb (.inl rfl) rfl) ?_
  refine Zf ?_
  have hE : (mkT l t k).set (k : Int).toNat ((mkT l t k).getD (k : Int).toNat 0 &&& ~~~t) = mkT l t (k + 1) := by rw [Int.toNat_natCast, mkT_get (by omega), mkT_set (by omega)]
  refine Zz (mk 51 2251799788519291) (env' := u51) rfl ⟨k + 1, ?_, rfl, ?_⟩
  ·first | omega | (simp only []; omega)
  ·exact ⟨by omega, by rw [← hE]⟩
 ·try simp only [qB] at hc1
  refine ZL (ZJ (ZB (ZK (Zc (Zd (Zd ?_))))))
  obtain rfl : k = l.length := by omega
  rw [mkT_all]
  refine Yg (Gh.cellL (l := (msk l t).map iW) 1 0 0 rfl rfl (by decide) rfl (by rw [show l.length * 1 = (msk l t).length * 1 by rw [YG]]; exact wApp_c) (Nat.le_refl _)) ?_
  refine Za ?_
  refine Lo u51 (Zb (.inl rfl) rfl) ?_
  refine Lo u51 (rfl) ?_
  refine Lo u51 (rfl) ?_
  refine Lo u51 (W2w rfl rfl rfl rfl) ?_
  refine Lo u51 (rfl) ?_
  refine Lo u51 (Zj (VVal.int .i64 0) (.inl rfl) rfl) ?_
  refine Zf (Zc (Zp ?_))
  refine ZI (mk 51 2238605674151807) (env' := u51) rfl ?_
  refine ZP (fun (k : Nat) => l.length - k) (fun (k : Nat) => [(43, iI (k : Nat))]) (fun (k : Nat) G => (k ≤ l.length ∧ (szO (msk l t) k).2 = k) ∧ G = H.set y (gaB (g + ⟨0, 0, edN (msk l t) k⟩)) ++ [.dead, hmB y (msk l t) (szO (msk l t) k).1]) 0 rfl ?_ ?_
  ·refine ⟨?_, (by rw [edN, show g + ⟨0, 0, 0⟩ = g from Gz.add_zero g, ← set_keep hs]; show H ++ [VBlk.dead, VBlk.cells (VVal.fsl ((msk l t).map iW) l.length 1 false :: _) true] = H ++ [VBlk.dead, VBlk.cells (VVal.fsl ((msk l t).map iW) (msk l t).length 1 false :: _) true]; rw [YG]; rfl)⟩
   exact ⟨Nat.zero_le _, rfl⟩
  rintro k _ ⟨⟨hk, hz⟩, rfl⟩
  refine ZZ (env' := u51) rfl ?_
  refine Zd (Za ?_)
  refine Lo u51 (rfl) ?_
  refine Zf (Zc (Zd ?_))
  refine Zo _ rfl (fun hc2 => ?_) (fun hc2 => ?_)
  ·try simp only [qB] at hc2
   refine Zl (Zc (Zd (Zp (Zd (Za ?_)))))
   refine Lo u51 (Zb (.inl rfl) rfl) ?_
   refine Lo u51 (Zb (.inr rfl) rfl) ?_
   refine Zf (Zc (Zd (Za ?_)))
   refine Lo u51 (Zw rfl rfl) ?_
   refine Lo u51 (YD (VVal.int .u64 0) rfl rfl rfl rfl rfl rfl rfl XH0 XH4 XH5) ?_
   refine Zf (Zc (Zd (Za ?_)))
   refine Lo u51 (Zb (.inl rfl) rfl) ?_
   refine Lo u51 (Zb (.inl rfl) rfl) ?_
   refine Zk rfl rfl rfl (by exact hgrow_at (p := H.length + 1) (q := (H.set y (gaB (g + ⟨0, 0, edN (msk l t) k⟩))).length + 2) rfl (by rw [List.length_set]) (g + ⟨0, 0, edN (msk l t) k⟩) hy (msk l t) (szO (msk l t) k).1 k (by omega) (by rw [YG]; omega) (szO_ok (by rw [YG]; omega)) (by rw [YG]; omega)) ?_
   rintro v _ ⟨rfl, rfl⟩; rw [gw_ed hz]
   refine Le u51 ?_
   refine Lo u51 (rfl) ?_
   refine Zf (Zc ?_)
   refine Zo _ rfl (fun hc3 => ?_) (fun hc3 => ?_)
   ·try simp only [qB] at hc3
    refine Zd (Za ?_)
    refine Lo u51 (Zj (VVal.bool false) (.inr rfl) rfl) ?_
    refine Zf (Zc (Zn (ZU (Zu (YH (ZU (Zu ?_)))))))
    refine W30 (.inr rfl) (Zi rfl rfl) ?_
    exact W31
   ·try simp only [qB] at hc3
    refine Zl (ZG (Zc (Za ?_)))
    refine Lo u51 (W14 rfl rfl rfl) ?_
    refine Lo u51 (Zb (.inl rfl) rfl) ?_
    refine Zf ?_
    refine K_loopG (mk 51 2238605674151807) (env' := u51) rfl (Gh.dropTo (L := [.dead, hmB y (msk l t) (szO (msk l t) (k + 1)).1]) (X := [hsB _]) 2 rfl (BaseOk.set (BaseOk.refl _) _ rfl) (by first | (simp [VVal.underL, VVal.under]; done) | (simp [VVal.underL, VVal.under]; omega)) (by show (true && ((hmB y _ _).under _ && true)) = true; rw [hmB_under (by first | omega | (rw [List.length_set]; omega))]; rfl)) ⟨k + 1, ?_, rfl, ?_⟩
    ·first | omega | (simp only []; omega)
    ·exact ⟨⟨by omega, szO_yes hz (by assumption)⟩, rfl⟩
  ·try simp only [qB] at hc2
   refine ZL (ZJ (ZB (ZK (Zc (Zd (Za ?_))))))
   refine Lo u51 (Zj (VVal.bool true) (.inr rfl) rfl) ?_
   refine Zf (Zc (Zn ?_))
   refine W30 (.inr rfl) (Zi rfl rfl) ?_
   exact W31
abbrev u44 {a0 a1 a2 a3 a4 a5 a6 a7 a8 a9 a10 a11 a12 a13 a14 a15 a16 a17 a18 a19 a20 a21 a22 a23 a24 a25 a26 a27 a28 a29 a30 a31 a32 a33 a34 a35 a36 a37 a38 a39 a40 a41 a42 a43 : VVal} : VEnv := a0 :: a1 :: a2 :: a3 :: a4 :: a5 :: a6 :: a7 :: a8 :: a9 :: a10 :: a11 :: a12 :: a13 :: a14 :: a15 :: a16 :: a17 :: a18 :: a19 :: a20 :: a21 :: a22 :: a23 :: a24 :: a25 :: a26 :: a27 :: a28 :: a29 :: a30 :: a31 :: a32 :: a33 :: a34 :: a35 :: a36 :: a37 :: a38 :: a39 :: a40 :: a41 :: a42 :: a43 :: []
theorem W33 {T : TypeId → Option VTy} {H : Ze} {op : Op} {ρ : Operand → VVal} {t : TypeId} {a : Operand} {y : VTy} {p v : VVal} (ho : op = .load t a) (ha : ρ a = p) (hy : T t = some y) (hd : Zm y.desc = false) (h : LdOk H p v := by first | exact .inl ⟨_, _, rfl, by first | rfl | assumption | exact fgetN (α := Nat) 0 (by omega) | exact fgetN (α := BitVec 64) 0 (by omega)⟩ | exact .inr ⟨_, _, _, _, rfl, XH35, by first | rfl | assumption | exact fgetN (α := Nat) 0 (by omega) | exact fgetN (α := BitVec 64) 0 (by omega)⟩) : vop T ρ H op = some (v, H) := v_ld ho ha hy hd h
theorem W35 {T : TypeId → Option VTy} {H : Ze} {op : Op} {ρ : Operand → VVal} {t : TypeId} {a : Operand} {y : VTy} {p v : VVal} (ho : op = .load t a) (ha : ρ a = p) (hy : T t = some y) (hd : Zm y.desc = false) (h : LdOk H p v := by first | exact .inl ⟨_, _, rfl, by exact fget0N (f := iW) (l := Z5 ws a k) (k := a.getD k 0) 0 hlt⟩ | exact .inr ⟨_, _, _, _, rfl, by exact ZN rfl hbX, by exact fget0N (f := iW) (l := Z5 ws a k) (k := a.getD k 0) 0 hlt⟩) : vop T ρ H op = some (v, H) := v_ld ho ha hy hd h
theorem W36 {T : TypeId → Option VTy} {H : Ze} {op : Op} {ρ : VEnv} {H' : Ze} {t : TypeId} {a : Operand} {i : Nat} {v : VVal} {y : VTy} {b off : Nat} {cs new : List VVal} (ho : op = .store t a (.tmp i)) (hv : ρ[i]? = some v) (ha : ρ.eval a = .ptr (some (b, off))) (hy : T t = some y) (hx : v.cells = some new) (hn : new.length = y.size) (h1 : new.all VVal.one = true) (hb : H[b]? = some (.cells cs true) := by exact XH35) (hl : off + new.length ≤ cs.length := by show 0 + ((a.getD k 0 : Nat) : Int).toNat * 1 + 1 ≤ (List.map iW (Z5 ws a k)).length; rw [List.length_map]; omega) (hH : H.set b (.cells (ZC cs off new) true) = H' := by exact (Z4 rfl).trans (by show H ++ X.set b (VBlk.cells (ZC ((Z5 ws a k).map iW) (0 + ((a.getD k 0 : Nat) : Int).toNat * 1) [_]) true) = _; rw [Int.toNat_natCast, spl_w hlt])) : vop T ρ.eval H op = some (.skip, H') := Ya ho hv ha hy hx hn h1 hb hl hH
theorem hfull_spec {x : SW} {u : Int} {ws rs : VVal} (H : Ze) (y : Nat) (g : Gz) (hs : H[y]? = some (gaB g)) (l : List (BitVec 64)) (t : BitVec 64) (hl : l.length ≤ 1000000) : F (psys x) 87 [huP u ws rs y, fzW l, iW t] H fun v G => v = .bool (YA l t) ∧ G = H.set y (gaB (g + fuG l t)) := by
  by_cases h : l = []
  · subst h
    refine (hfull_0 H y g hs t).mono ?_
    rintro v G ⟨rfl, rfl⟩
    exact ⟨rfl, by rw [show fuG [] t = 0 from rfl, Gz.add_zero, ← set_keep hs]⟩
  · exact hfull_c H y g hs l t h hl
theorem hBlocks_spec {x : SW} {u : Int} {rs : VVal} {y : Nat} (H : Ze) (ws : List (BitVec 64)) (a : List Nat) (ha : Pat a) (hw : a.length ≤ ws.length) (hn : ws.length ≤ 1000000) : F (psys x) 85 [huP u (fzW ws) rs y, fzN a] H fun v G => v = fzW (Z5 ws a a.length) ∧ G = H := by
 refine Zy Tryd.func85 rfl u44 rfl ?_
 refine Zd (Za ?_)
 refine Lo u44 (Zj (VVal.slice none 0 0 true 0) (.inr rfl) rfl) ?_
 refine Zf (Zc (Zd (Za ?_)))
 refine Lo u44 (Zj (VVal.slice none 0 0 true 0) (.inr rfl) rfl) ?_
 refine Zf (Zc (Zd (Zd (Za ?_))))
 refine Lo u44 (Zb (.inl rfl) rfl) ?_
 refine Lo u44 (rfl) ?_
 refine Lo u44 (Zj (VVal.int .i64 0) (.inl rfl) rfl) ?_
 refine Zf (Zc (Zp ?_))
 refine ZI (mk 44 17592186042590) (env' := u44) rfl ?_
 refine ZP (fun (⟨k, lv⟩ : Nat × VVal) => a.length - k) (fun (⟨k, lv⟩ : Nat × VVal) => [(5, lv), (10, iI (k : Nat))]) (fun (⟨k, lv⟩ : Nat × VVal) G => (k ≤ a.length) ∧ ∃ X, G = H ++ X ∧ LV H.length 1 X lv ((Z5 ws a k).map iW) (Z5 ws a k).length) ⟨0, _⟩ rfl ?_ ?_
 ·refine ⟨?_, ⟨_, rfl, LV.nil _ _ _⟩⟩
  exact Nat.zero_le _
 rintro ⟨k, lv⟩ _ ⟨hk, ⟨X, rfl, hl⟩⟩
 refine ZZ (env' := u44) rfl ?_
 refine Zd (Za ?_)
 refine Lo u44 (rfl) ?_
 refine Zf (Zc (Zd ?_))
 refine Zo _ rfl (fun hc1 => ?_) (fun hc1 => ?_)
 ·try simp only [qB, qN] at hc1
  refine Zl (Zc (Zd (Zp (Zd (Za ?_)))))
  refine Lo u44 (Zb (.inl rfl) rfl) ?_
  refine Lo u44 (W18 rfl rfl rfl rfl rfl rfl rfl) ?_
  refine Lo u44 (W33 rfl rfl rfl rfl) ?_
  refine Lo u44 (Zb (.inr rfl) rfl) ?_
  refine Lo u44 (Zb (.inr rfl) rfl) ?_
  refine Zf (Zc (Zd (Za ?_)))
  refine Lo u44 (Zb (.inl rfl) rfl) ?_
  refine Lo u44 (Zb (.inl rfl) rfl) ?_
  refine Lo u44 (v_len rfl rfl rfl rfl hl) ?_
  refine Lo u44 (rfl) ?_
  refine Zf (Zc ?_)
  refine Zo _ rfl (fun hc2 => ?_) (fun hc2 => ?_)
  ·try simp only [qB, qN] at hc2
   refine Za ?_
   refine Lo u44 (Zb (.inl rfl) rfl) ?_
   refine Lo u44 (Zb (.inl rfl) rfl) ?_
   refine Lo u44 (rfl) ?_
   refine Lo u44 (rfl) ?_
   refine Lo u44 (W33 rfl rfl rfl rfl) ?_
   refine Lo u44 (Zb (.inl rfl) rfl) ?_
   refine Lo u44 (W18 rfl rfl rfl rfl rfl rfl rfl) ?_
   refine Lo u44 (W33 rfl rfl rfl rfl) ?_
   refine Lo u44 (Zs rfl rfl (by decide) rfl) ?_
   refine L_opX rfl rfl (v_appX rfl rfl rfl rfl rfl rfl rfl hl rfl rfl (by decide) (by have := @blkN_len ws a k; have := @szP_le a k; show (_ + 1) * 8 ≤ _ ∧ _ + 1 ≤ _; omega) (by decide)) ?_
   rintro _ _ ⟨Y1, rfl, rfl, hY1, hY2, hY3⟩
   refine Le u44 ?_
   refine Lo u44 (Zb (.inr rfl) rfl) ?_
   refine Zf (ZG (Zc (Za ?_)))
   refine Lo u44 (W14 rfl rfl rfl) ?_
   refine Lo u44 (Zb (.inl rfl) rfl) ?_
   refine Zf ?_
   refine Zz (mk 44 17592186042590) (env' := u44) rfl ⟨⟨k + 1, _⟩, ?_, rfl, ?_⟩
   ·first | omega | (simp only []; omega)
   ·first | exact ⟨by omega, _, rfl, by rw [blkN_new (by assumption)]; exact LV.pushW hY3⟩ | exact ⟨by omega, _, rfl, by rw [blkN_old (by assumption), List.length_set]; exact LV.upW hl h0 (ZD hbX) (by rw [List.length_set])⟩
  ·try simp only [qB, qN] at hc2
   have hak := ha k (by omega)
   have hbl := @blkN_len ws a k
   have hlt : a.getD k 0 < (Z5 ws a k).length := by omega
   have h0 : 0 < (Z5 ws a k).length := by omega
   obtain ⟨b, rfl, hbX⟩ := LV.pos hl h0
   refine ZS [0, 1, 2, 3, 4, 5, 6, 7, 8, 9, 10, 11, 12, 13] #[0, 0, 3, 7, 0, 16, 48, 112, 0, 496, 1008, 2047, 4095, 8191] XH2 XH2 XH2 ?_
   refine Oo u44 .calm rfl (Zb (.inl rfl) rfl) ?_
   refine Oo u44 .calm rfl (Zb (.inl rfl) rfl) ?_
   refine Oo u44 .calm rfl (W18 rfl rfl rfl rfl rfl rfl rfl) ?_
   refine Oo u44 .look rfl (W35 rfl rfl rfl rfl) ?_
   refine Oo u44 .calm rfl (Zb (.inl rfl) rfl) ?_
   refine Oo u44 .calm rfl (rfl) ?_
   refine Oo u44 .calm rfl (rfl) ?_
   refine Oo u44 .look rfl (W33 rfl rfl rfl rfl) ?_
   refine Oo u44 .calm rfl (Zb (.inl rfl) rfl) ?_
   refine Oo u44 .calm rfl (W18 rfl rfl rfl rfl rfl rfl rfl) ?_
   refine Oo u44 .look rfl (W33 rfl rfl rfl rfl) ?_
   refine Oo u44 .calm rfl (v_andW rfl rfl rfl) ?_
   refine Oo u44 .calm rfl (W18 rfl rfl rfl rfl rfl rfl rfl) ?_
   refine Oo u44 .turn rfl (W36 rfl rfl rfl rfl rfl rfl rfl) ?_
   refine ZR [] XH2 (trivial) ?_
   refine ZG (Zc (Za ?_))
   refine Lo u44 (W14 rfl rfl rfl) ?_
   refine Lo u44 (Zb (.inl rfl) rfl) ?_
   refine Zf ?_
   refine Zz (mk 44 17592186042590) (env' := u44) rfl ⟨⟨k + 1, _⟩, ?_, rfl, ?_⟩
   ·first | omega | (simp only []; omega)
   ·first | exact ⟨by omega, _, rfl, by rw [blkN_new (by assumption)]; exact LV.pushW hY3⟩ | exact ⟨by omega, _, rfl, by rw [blkN_old (by assumption), List.length_set]; exact LV.upW hl h0 (ZD hbX) (by rw [List.length_set])⟩
 ·try simp only [qB, qN] at hc1
  refine ZL (ZJ (ZB (ZK (Zc (Zd (Za ?_))))))
  refine Lo u44 (Zb (.inl rfl) rfl) ?_
  refine Lo u44 (Zb (.inr rfl) rfl) ?_
  refine Zf (Zc (Zn ?_))
  refine E_gh (.inr rfl) (Zi rfl rfl) (Gh.ansLV (BaseOk.refl _) hl (mapW_under _ _)) ?_
  obtain rfl : k = a.length := by omega
  exact ⟨rfl, rfl⟩
abbrev u22 {a0 a1 a2 a3 a4 a5 a6 a7 a8 a9 a10 a11 a12 a13 a14 a15 a16 a17 a18 a19 a20 a21 : VVal} : VEnv := a0 :: a1 :: a2 :: a3 :: a4 :: a5 :: a6 :: a7 :: a8 :: a9 :: a10 :: a11 :: a12 :: a13 :: a14 :: a15 :: a16 :: a17 :: a18 :: a19 :: a20 :: a21 :: []
abbrev u73 {a0 a1 a2 a3 a4 a5 a6 a7 a8 a9 a10 a11 a12 a13 a14 a15 a16 a17 a18 a19 a20 a21 a22 a23 a24 a25 a26 a27 a28 a29 a30 a31 a32 a33 a34 a35 a36 a37 a38 a39 a40 a41 a42 a43 a44 a45 a46 a47 a48 a49 a50 a51 a52 a53 a54 a55 a56 a57 a58 a59 a60 a61 a62 a63 a64 a65 a66 a67 a68 a69 a70 a71 a72 : VVal} : VEnv := a0 :: a1 :: a2 :: a3 :: a4 :: a5 :: a6 :: a7 :: a8 :: a9 :: a10 :: a11 :: a12 :: a13 :: a14 :: a15 :: a16 :: a17 :: a18 :: a19 :: a20 :: a21 :: a22 :: a23 :: a24 :: a25 :: a26 :: a27 :: a28 :: a29 :: a30 :: a31 :: a32 :: a33 :: a34 :: a35 :: a36 :: a37 :: a38 :: a39 :: a40 :: a41 :: a42 :: a43 :: a44 :: a45 :: a46 :: a47 :: a48 :: a49 :: a50 :: a51 :: a52 :: a53 :: a54 :: a55 :: a56 :: a57 :: a58 :: a59 :: a60 :: a61 :: a62 :: a63 :: a64 :: a65 :: a66 :: a67 :: a68 :: a69 :: a70 :: a71 :: a72 :: []
theorem W39 {P : Prop} (h : P := by first | exact ⟨by unfold erl; rw [hck, decide_eq_true hg2]; rfl, rfl⟩ | exact ⟨by unfold erl; rw [hck, decide_eq_false (by omega)]; rfl, rfl⟩ | exact ⟨by unfold erl; rw [hck]; rfl, rfl⟩) : P := h
theorem W3a {T : TypeId → Option VTy} {H : Ze} {op : Op} {ρ : Operand → VVal} {t : TypeId} {a : Operand} {y : VTy} {p v : VVal} (ho : op = .load t a) (ha : ρ a = p) (hy : T t = some y) (hd : Zm y.desc = false) (h : LdOk H p v := by first | exact .inl ⟨_, _, rfl, XH40⟩ | exact .inr ⟨_, _, _, _, rfl, XH35, XH40⟩) : vop T ρ H op = some (v, H) := v_ld ho ha hy hd h
theorem W3b {T : TypeId → Option VTy} {H : Ze} {op : Op} {ρ : VEnv} {H' : Ze} {t : TypeId} {a : Operand} {i : Nat} {v : VVal} {y : VTy} {b off : Nat} {cs new : List VVal} (ho : op = .store t a (.tmp i)) (hv : ρ[i]? = some v) (ha : ρ.eval a = .ptr (some (b, off))) (hy : T t = some y) (hx : v.cells = some new) (hn : new.length = y.size) (h1 : new.all VVal.one = true) (hb : H[b]? = some (.cells cs true) := by exact XH35) (hl : off + new.length ≤ cs.length := by exact XH38) (hH : H.set b (.cells (ZC cs off new) true) = H' := by exact ga_n0 hs) : vop T ρ.eval H op = some (.skip, H') := Ya ho hv ha hy hx hn h1 hb hl hH
theorem W3c {T : TypeId → Option VTy} {H : Ze} {op : Op} {ρ : Operand → VVal} {t : TypeId} {a : Operand} {y : VTy} {p v : VVal} (ho : op = .load t a) (ha : ρ a = p) (hy : T t = some y) (hd : Zm y.desc = false) (h : LdOk H p v := by first | exact .inl ⟨_, _, rfl, XH40⟩ | exact .inr ⟨_, _, _, _, rfl, by exact get_out (List.getElem?_set_self hy), XH40⟩) : vop T ρ H op = some (v, H) := v_ld ho ha hy hd h
theorem W3d {T : TypeId → Option VTy} {H : Ze} {op : Op} {ρ : VEnv} {H' : Ze} {t : TypeId} {a : Operand} {i : Nat} {v : VVal} {y : VTy} {b off : Nat} {cs new : List VVal} (ho : op = .store t a (.tmp i)) (hv : ρ[i]? = some v) (ha : ρ.eval a = .ptr (some (b, off))) (hy : T t = some y) (hx : v.cells = some new) (hn : new.length = y.size) (h1 : new.all VVal.one = true) (hb : H[b]? = some (.cells cs true) := by exact get_out (List.getElem?_set_self hy)) (hl : off + new.length ≤ cs.length := by exact XH38) (hH : H.set b (.cells (ZC cs off new) true) = H' := by exact ga_p hy) : vop T ρ.eval H op = some (.skip, H') := Ya ho hv ha hy hx hn h1 hb hl hH
theorem W3h {P : Prop} (h : P := by first | exact ⟨by rw [(kpK_0 (u := u) (by assumption)).1], by rw [(kpK_0 (by assumption)).2]; rfl⟩ | exact ⟨by rw [(kpK_1 (u := u) (by assumption) (all_bad (k := k) (d := r0) (by omega) (by first | assumption | exact Bool.eq_false_iff.2 ‹_›))).1], by rw [(kpK_1 (by assumption) (all_bad (k := k) (d := r0) (by omega) (by first | assumption | exact Bool.eq_false_iff.2 ‹_›))).2]; rfl⟩ | exact ⟨by rw [(kpK_2 (u := u) (by assumption) (all_full (by omega) hall)).1], by rw [(kpK_2 (by assumption) (all_full (by omega) hall)).2, ← Gz.assoc]; rfl⟩) : P := h
theorem W3i {T : TypeId → Option VTy} {H : Ze} {op : Op} {ρ : Operand → VVal} {t : TypeId} {a : Operand} {y : VTy} {p v : VVal} (ho : op = .load t a) (ha : ρ a = p) (hy : T t = some y) (hd : Zm y.desc = false) (h : LdOk H p v := by first | exact .inl ⟨_, _, rfl, by exact fgetN (f := fzR) (l := rss) (k := a.length - 1) [] (by omega)⟩ | exact .inr ⟨_, _, _, _, rfl, XH35, by exact fgetN (f := fzR) (l := rss) (k := a.length - 1) [] (by omega)⟩) : vop T ρ H op = some (v, H) := v_ld ho ha hy hd h
theorem W3j {T : TypeId → Option VTy} {H : Ze} {op : Op} {ρ : Operand → VVal} {t : TypeId} {a : Operand} {y : VTy} {p : VVal} {n : Nat} {vs : List VVal} (ho : op = .load t a) (ha : ρ a = p) (hy : T t = some y) (hd : Zm y.desc = true) (hn : y.size = n) (h : LdOkA H p n vs := by first | exact .inl ⟨_, _, rfl, XH40⟩ | exact .inr ⟨_, _, _, _, rfl, XH35, XH40⟩) : vop T ρ H op = some (.agg vs, H) := v_ldA ho ha hy hd hn h
abbrev fzRR (rss : List (List Rul)) : VVal := .fsl (rss.map fzR) rss.length 1 false
theorem fzR_und (n : Nat) (l : List Rul) : (fzR l).under n = true := VVal.underL_all (n := n) (vs := l.flatMap rlB) fun v hv => by
  obtain ⟨r, _, h⟩ := List.mem_flatMap.1 hv
  simp only [List.mem_cons, List.not_mem_nil, or_false] at h
  rcases h with rfl | rfl | rfl
  · rfl
  · rfl
  · exact VVal.underL_map fun _ => rfl
theorem mapN_under (n : Nat) (l : List Nat) : VVal.underL n (l.map fun (m : Nat) => iI (m : Nat)) = true := VVal.underL_map fun _ => rfl
theorem rss_under (n : Nat) (rss : List (List Rul)) : VVal.underL n (rss.map fzR) = true := VVal.underL_map fun l => fzR_und n l
theorem huUnder {H : Ze} {y : Nat} (hy : y < H.length) (u : Int) (ws : List (BitVec 64)) (rss : List (List Rul)) : (huP u (fzW ws) (fzRR rss) y).under H.length = true := by
  show VVal.underL _ [iI u, fzW ws, fzRR rss, .ptr (some (y, 0))] = true
  simp only [VVal.underL, VVal.under, fzW_under, mapW_under, rss_under, hy, decide_true, Bool.and_true]
theorem rEarly_spec {x : SW} (H : Ze) (r : Rul) (n : Int) (l : List Int) (hl : r.steps.length ≤ 1000000) : F (psys x) 86 [.agg (rlB r), iI n, fzI l] H fun v G => v = .bool (erl r n l) ∧ G = H := by
 refine Zy Tryd.func86 rfl u22 rfl ?_
 refine Zd (Za ?_)
 refine Lo u22 (ZE rfl rfl rfl) ?_
 refine Lo u22 (Zj (VVal.bool false) (.inr rfl) rfl) ?_
 refine Zf (Zc (Zd (Za ?_)))
 refine Lo u22 (Zb (.inl rfl) rfl) ?_
 refine Lo u22 (W11 rfl rfl rfl rfl rfl) ?_
 refine Zk rfl rfl rfl (by exact rCheck_spec _ _ _ (by omega)) ?_
 rintro _ _ ⟨rfl, rfl⟩
 refine Le u22 ?_
 refine Lo u22 (rfl) ?_
 refine Lo u22 (Zb (.inl rfl) rfl) ?_
 refine ZF 11 (env1 := u22) (env2 := u22) rfl rfl rfl (fun hg1 => ?_) (fun hg1 => ?_)
 ·try simp only [qB] at hg1
  have hck : rck n r = true := rcE_eq.1 hg1
  refine Lo u22 (Zb (.inl rfl) rfl) ?_
  refine Lo u22 (rfl) ?_
  refine Lo u22 (Zb (.inl rfl) rfl) ?_
  refine Lo u22 (rfl) ?_
  refine Lo u22 (Zx rfl rfl rfl) ?_
  refine Lo u22 (Zb (.inl rfl) rfl) ?_
  refine ZF 17 (env1 := u22) (env2 := u22) rfl rfl rfl (fun hg2 => ?_) (fun hg2 => ?_)
  ·try simp only [qB] at hg2
   refine Lo u22 (W11 rfl rfl rfl rfl rfl) ?_
   refine Lo u22 (Zb (.inl rfl) rfl) ?_
   refine Zk rfl rfl rfl (by exact keeps_spec _ _ _ (rck_kind hck) (rck_pos hck) (Nat.le_trans (rck_len hck) (by decide))) ?_
   rintro _ _ ⟨rfl, rfl⟩
   refine Le u22 ?_
   refine Lo u22 (Zx rfl rfl rfl) ?_
   refine Lo u22 (Zb (.inr rfl) rfl) ?_
   refine Zf (Zc (Zn ?_))
   refine W10 (.inr rfl) (Zi rfl rfl) ?_
   exact W39
  ·try simp only [qB] at hg2
   refine Lf u22 ?_
   refine Lf u22 ?_
   refine Lf u22 ?_
   refine Lo u22 (Zv (VVal.bool false) rfl rfl rfl) ?_
   refine Lo u22 (Zb (.inr rfl) rfl) ?_
   refine Zf (Zc (Zn ?_))
   refine W10 (.inr rfl) (Zi rfl rfl) ?_
   exact W39
 ·try simp only [qB] at hg1
  have hck : rck n r = false := bool_f fun e => hg1 (rcE_eq.2 e)
  refine Lf u22 ?_
  refine Lf u22 ?_
  refine Lf u22 ?_
  refine Lf u22 ?_
  refine Lo u22 (Zv (VVal.bool false) rfl rfl rfl) ?_
  refine Lo u22 (Zb (.inl rfl) rfl) ?_
  refine Lf u22 ?_
  refine Lf u22 ?_
  refine Lf u22 ?_
  refine Lo u22 (Zv (VVal.bool false) rfl rfl rfl) ?_
  refine Lo u22 (Zb (.inr rfl) rfl) ?_
  refine Zf (Zc (Zn ?_))
  refine W10 (.inr rfl) (Zi rfl rfl) ?_
  exact W39
theorem rEarlyN {x : SW} (H : Ze) (r : Rul) (n : Int) (a : List Nat) (hl : r.steps.length ≤ 1000000) : F (psys x) 86 [.agg (rlB r), iI n, fzN a] H fun v G => v = .bool (erl r n (zI a)) ∧ G = H := by
  rw [fzN_is]; exact rEarly_spec H r n (zI a) hl
theorem hKeep_spec {x : SW} {u : Nat} (H : Ze) (y : Nat) (g : Gz) (hs : H[y]? = some (gaB g)) (ws : List (BitVec 64)) (rss : List (List Rul)) (a : List Nat) (ha : Pat a) (h0 : 0 < a.length) (hw : a.length ≤ ws.length) (hn : ws.length ≤ 1000000) (hr : rss.length = ws.length) (hR : ∀ i, (rss.getD i []).length ≤ 1000000 ∧ ∀ r, r ∈ rss.getD i [] → r.steps.length ≤ 1000000) : F (psys x) 53 [huP (u : Nat) (fzW ws) (fzRR rss) y, fzN a] H fun v G => v = .bool (kpB ws rss a) ∧ G = H.set y (gaB (g + kpG u ws rss a)) := by
 have hy := ZD hs
 have hbl := @blkN_len ws a a.length
 have hla := ha (a.length - 1) (by omega)
 have hsl : a.getD (a.length - 1) 0 < szP a a.length := by
    obtain ⟨m, hm⟩ : ∃ m, a.length = m + 1 := ⟨a.length - 1, by omega⟩
    rw [hm] at hla ⊢; rw [szP]; rw [Nat.add_sub_cancel] at hla ⊢; split <;> omega
 have hR1 := hR (a.length - 1)
 refine Zy Tryd.func53 rfl u73 rfl ?_
 refine Zd (Za ?_)
 refine Lo u73 (Zj (VVal.bool false) (.inr rfl) rfl) ?_
 refine Zf (Zc (Zd (Za ?_)))
 refine Lo u73 (Zb (.inl rfl) rfl) ?_
 refine Lo u73 (rfl) ?_
 refine Lo u73 (rfl) ?_
 refine Lo u73 (W3a rfl rfl rfl rfl) ?_
 refine Lo u73 (rfl) ?_
 refine Lo u73 (rfl) ?_
 refine Lo u73 (W3a rfl rfl rfl rfl) ?_
 refine Lo u73 (v_addW (b := 1#64) rfl rfl rfl) ?_
 refine Lo u73 (rfl) ?_
 refine Lo u73 (rfl) ?_
 refine Lo u73 (W3b rfl rfl rfl rfl rfl rfl rfl) ?_
 refine Zf (Zc (Zd ?_))
 refine ZS [0, 1, 2, 3, 4, 5, 6, 7, 8, 9, 10, 11, 12, 13, 14, 15] #[0, 1, 3, 7, 15, 31, 63, 0, 128, 384, 896, 1920, 4095, 8191, 16383, 32767] XH2 XH2 XH2 ?_
 refine Oo u73 .calm rfl (Zb (.inl rfl) rfl) ?_
 refine Oo u73 .calm rfl (rfl) ?_
 refine Oo u73 .calm rfl (rfl) ?_
 refine Oo u73 .look rfl (W3a rfl rfl rfl rfl) ?_
 refine Oo u73 .calm rfl (rfl) ?_
 refine Oo u73 .calm rfl (rfl) ?_
 refine Oo u73 .look rfl (W3c rfl rfl rfl rfl) ?_
 refine Oo u73 .calm rfl (Zb (.inl rfl) rfl) ?_
 refine Oo u73 .calm rfl (rfl) ?_
 refine Oo u73 .calm rfl (rfl) ?_
 refine Oo u73 .look rfl (W3a rfl rfl rfl rfl) ?_
 refine Oo u73 .calm rfl (v_cvW rfl rfl rfl rfl rfl) ?_
 refine Oo u73 .calm rfl (v_addW rfl rfl rfl) ?_
 refine Oo u73 .calm rfl (rfl) ?_
 refine Oo u73 .calm rfl (rfl) ?_
 refine Oo u73 .turn rfl (W3d rfl rfl rfl rfl rfl rfl rfl) ?_
 refine ZR [] XH2 (trivial) ?_
 refine Zc (Zd (Za ?_))
 refine Lo u73 (Zb (.inl rfl) rfl) ?_
 refine Lo u73 (Zb (.inl rfl) rfl) ?_
 refine Zk rfl rfl rfl (by exact hBlocks_spec _ _ _ ha hw hn) ?_
 rintro _ _ ⟨rfl, rfl⟩
 refine Le u73 ?_
 refine Lo u73 (Zb (.inl rfl) rfl) ?_
 refine Lo u73 (rfl) ?_
 refine Lo u73 (W2s rfl rfl rfl) ?_
 refine Lo u73 (Zb (.inr rfl) rfl) ?_
 refine Lo u73 (Zb (.inr rfl) rfl) ?_
 refine Zf (Zc (Zd (Zd ?_)))
 rw [show ((a.length : Nat) : Int) - 1 = ((a.length - 1 : Nat) : Int) by omega]
 refine Za ?_
 refine Lo u73 (Zb (.inl rfl) rfl) ?_
 refine Lo u73 (Zb (.inl rfl) rfl) ?_
 refine Lo u73 (Zb (.inl rfl) rfl) ?_
 refine Lo u73 (W18 rfl rfl rfl rfl rfl rfl rfl) ?_
 refine Lo u73 (W3a rfl rfl rfl rfl) ?_
 refine Lo u73 (W18 rfl rfl rfl rfl rfl rfl rfl) ?_
 refine Lo u73 (W3a rfl rfl rfl rfl) ?_
 refine Lo u73 (rfl) ?_
 refine Zf (Zc ?_)
 refine Zo _ rfl (fun hc1 => ?_) (fun hc1 => ?_)
 ·try simp only [qB, qN] at hc1
  refine Zd (Za ?_)
  refine Lo u73 (Zj (VVal.bool false) (.inr rfl) rfl) ?_
  refine Zf (Zc (Zn (Zu ?_)))
  refine W30 (.inr rfl) (Zi rfl rfl) ?_
  exact W3h
 ·try simp only [qB, qN] at hc1
  refine Zl (Zc (Zd (Zd (Za ?_))))
  refine Lo u73 (Zb (.inl rfl) rfl) ?_
  refine Lo u73 (rfl) ?_
  refine Lo u73 (rfl) ?_
  refine Lo u73 (W3a rfl rfl rfl rfl) ?_
  refine Lo u73 (Zb (.inl rfl) rfl) ?_
  refine Lo u73 (W18 rfl rfl rfl rfl rfl rfl rfl) ?_
  refine Lo u73 (W3i rfl rfl rfl rfl) ?_
  refine Lo u73 (rfl) ?_
  refine Lo u73 (Zj (VVal.int .i64 0) (.inl rfl) rfl) ?_
  refine Zf (Zc (Zp ?_))
  refine ZI (mk 73 9444606864949724053468) (env' := u73) rfl ?_
  refine ZP (fun (k : Nat) => (rss.getD (a.length - 1) []).length - k) (fun (k : Nat) => [(56, iI (k : Nat))]) (fun (k : Nat) G => (k ≤ (rss.getD (a.length - 1) []).length ∧ ((rss.getD (a.length - 1) []).take k).all (fun r => erl r ws.length (zI a)) = true) ∧ G = H.set y (gaB (⟨g.n + 1, g.p + u, g.e⟩ : Gz)) ++ []) 0 rfl ?_ ?_
  ·refine ⟨?_, rfl⟩
   exact ⟨Nat.zero_le _, rfl⟩
  rintro k _ ⟨⟨hk, hall⟩, rfl⟩
  refine ZZ (env' := u73) rfl ?_
  refine Zd (Za ?_)
  refine Lo u73 (rfl) ?_
  refine Zf (Zc (Zd ?_))
  refine Zo _ rfl (fun hc2 => ?_) (fun hc2 => ?_)
  ·try simp only [qB, qN] at hc2
   refine Zl (Zc (Zd (Zp (Zd (Za ?_)))))
   refine Lo u73 (W18 rfl rfl rfl rfl rfl rfl rfl) ?_
   refine Lo u73 (W3j rfl rfl rfl rfl rfl) ?_
   refine Lo u73 (Zw rfl rfl) ?_
   refine Lo u73 (W13 rfl rfl rfl rfl rfl rfl rfl) ?_
   refine Zf (Zc (Zd ?_))
   refine ZS [0, 1, 2, 3, 4, 5, 6, 7, 8] #[0, 0, 2, 6, 14, 30, 0, 127, 255] XH2 XH2 XH2 ?_
   refine Oo u73 .look rfl (W3j rfl rfl rfl rfl rfl) ?_
   refine Oo u73 .calm rfl (Zb (.inl rfl) rfl) ?_
   refine Oo u73 .calm rfl (rfl) ?_
   refine Oo u73 .calm rfl (rfl) ?_
   refine Oo u73 .look rfl (W3a rfl rfl rfl rfl) ?_
   refine Oo u73 .look rfl (rfl) ?_
   refine Oo u73 .calm rfl (Zb (.inl rfl) rfl) ?_
   refine Ye (env' := u73) rfl rfl rfl rfl rfl (by exact rEarlyN _ _ _ _ (hR1.2 _ (rul_mem (by omega)))) XH6 rfl rfl ?_
   refine Oo u73 .calm rfl (rfl) ?_
   refine ZR [] XH2 (trivial) ?_
   refine Zc ?_
   refine Zo _ rfl (fun hc3 => ?_) (fun hc3 => ?_)
   ·try simp only [qB, qN] at hc3
    refine Zd (Za ?_)
    refine Lo u73 (Zj (VVal.bool false) (.inr rfl) rfl) ?_
    refine Zf (Zc (Zn (ZU (Zu (YH (ZU (Zu ?_)))))))
    refine W30 (.inr rfl) (Zi rfl rfl) ?_
    exact W3h
   ·try simp only [qB, qN] at hc3
    refine Zl (ZG (Zc (Za ?_)))
    refine Lo u73 (W14 rfl rfl rfl) ?_
    refine Lo u73 (Zb (.inl rfl) rfl) ?_
    refine Zf ?_
    refine K_loopG (mk 73 9444606864949724053468) (env' := u73) rfl (Gh.dropTo (L := []) (X := [_]) 0 rfl (BaseOk.set (BaseOk.refl _) _ rfl) (by first | (simp [VVal.underL, VVal.under, fzW_under]; done) | (simp [VVal.underL, VVal.under, fzW_under, rss_under, mapW_under, mapN_under, fzR_und, List.length_set, hy]; done) | (simp [VVal.underL, VVal.under, fzW_under]; omega)) rfl) ⟨k + 1, ?_, rfl, ?_⟩
    ·first | omega | (simp only []; omega)
    ·exact ⟨⟨by omega, all_step (by omega) hall (by assumption)⟩, rfl⟩
  ·try simp only [qB, qN] at hc2
   refine ZL (ZJ (ZB (ZK (Zc (Zd (Za ?_))))))
   refine Lo u73 (Zb (.inl rfl) rfl) ?_
   refine Lo u73 (Zb (.inl rfl) rfl) ?_
   refine Zk rfl rfl rfl (by exact hfull_spec (H.set y (gaB (⟨g.n + 1, g.p + u, g.e⟩ : Gz)) ++ []) y (⟨g.n + 1, g.p + u, g.e⟩ : Gz) (Zq (List.getElem?_set_self hy)) (Z5 ws a a.length) 0#64 (by have := @szP_le a a.length; omega)) ?_
   rintro v _ ⟨rfl, rfl⟩; rw [Yn XH24, List.set_set]
   refine Le u73 ?_
   refine Lo u73 (Zb (.inr rfl) rfl) ?_
   refine Zf (Zc (Zn ?_))
   refine W30 (.inr rfl) (Zi rfl rfl) ?_
   exact W3h
theorem W3m {T : TypeId → Option VTy} {H : Ze} {op : Op} {ρ : Operand → VVal} {t : TypeId} {a : Operand} {y : VTy} {p v : VVal} (ho : op = .load t a) (ha : ρ a = p) (hy : T t = some y) (hd : Zm y.desc = false) (h : LdOk H p v := by first | exact .inl ⟨_, _, rfl, XH36⟩ | exact .inr ⟨_, _, _, _, rfl, by exact get_out hq, XH36⟩) : vop T ρ H op = some (v, H) := v_ld ho ha hy hd h
theorem W3n {T : TypeId → Option VTy} {H : Ze} {op : Op} {ρ : VEnv} {H' : Ze} {t : TypeId} {a : Operand} {i : Nat} {v : VVal} {y : VTy} {b off : Nat} {cs new : List VVal} (ho : op = .store t a (.tmp i)) (hv : ρ[i]? = some v) (ha : ρ.eval a = .ptr (some (b, off))) (hy : T t = some y) (hx : v.cells = some new) (hn : new.length = y.size) (h1 : new.all VVal.one = true) (hb : H[b]? = some (.cells cs true) := by exact get_out hq) (hl : off + new.length ≤ cs.length := by exact XH38) (hH : H.set b (.cells (ZC cs off new) true) = H' := by exact Yn hql) : vop T ρ.eval H op = some (.skip, H') := Ya ho hv ha hy hx hn h1 hb hl hH
theorem W3o {T : TypeId → Option VTy} {H : Ze} {op : Op} {ρ : Operand → VVal} {t : TypeId} {a : Operand} {y : VTy} {p v : VVal} (ho : op = .load t a) (ha : ρ a = p) (hy : T t = some y) (hd : Zm y.desc = false) (h : LdOk H p v := by first | exact .inl ⟨_, _, rfl, by rfl⟩ | exact .inr ⟨_, _, _, _, rfl, by exact get_out (List.getElem?_set_self hql), by rfl⟩) : vop T ρ H op = some (v, H) := v_ld ho ha hy hd h
theorem W3p {T : TypeId → Option VTy} {H : Ze} {op : Op} {ρ : Operand → VVal} {t : TypeId} {a : Operand} {y : VTy} {p v : VVal} (ho : op = .load t a) (ha : ρ a = p) (hy : T t = some y) (hd : Zm y.desc = false) (h : LdOk H p v := by first | exact .inl ⟨_, _, rfl, XH36⟩ | exact .inr ⟨_, _, _, _, rfl, by exact get_out ((List.getElem?_set_ne (Ne.symm hqm)).trans hm), XH36⟩) : vop T ρ H op = some (v, H) := v_ld ho ha hy hd h
theorem Found_spec {x : SW} (H : Ze) (q m : Nat) (hq : H[q]? = some (.cells [.slice none 0 0 true 0] true)) (hm : H[m]? = some (.cells [iI 1] true)) (a : List Nat) : F (psys x) 83 [fzN a, .ptr (some (q, 0)), .ptr (some (m, 0))] H fun v G => v = .bool false ∧ ∃ X w, G = H.set q (.cells [w] true) ++ X ∧ LV H.length 1 X w [fzN a] 1 := by
 have hql := ZD hq
 have hqm : m ≠ q := fun e => by subst e; rw [hm] at hq; cases hq
 refine Zy Tryd.func83 rfl u13 rfl ?_
 refine Zd (Za ?_)
 refine Lo u13 (Zj (VVal.bool false) (.inr rfl) rfl) ?_
 refine Zf (Zc (Zd (Za ?_)))
 refine Lo u13 (W3m rfl rfl rfl rfl) ?_
 refine Lo u13 (Zb (.inl rfl) rfl) ?_
 refine Lo u13 (Zs rfl rfl (by decide) rfl) ?_
 refine L_opX rfl rfl (v_appX rfl rfl rfl rfl rfl rfl rfl (LV.nil _ _ _) rfl rfl (by decide) (by decide) (by decide)) ?_
 rintro _ _ ⟨Y1, rfl, rfl, hY1, hY2, hY3⟩
 refine Le u13 ?_
 refine Lo u13 (W3n rfl rfl rfl rfl rfl rfl rfl) ?_
 refine Zf (Zc (Zd (Za ?_)))
 refine Lo u13 (W3o rfl rfl rfl rfl) ?_
 refine Lo u13 (v_len rfl rfl rfl rfl hY3) ?_
 refine Lo u13 (W3p rfl rfl rfl rfl) ?_
 refine Lo u13 (rfl) ?_
 refine Lo u13 (Zb (.inr rfl) rfl) ?_
 refine Zf (Zc (Zn ?_))
 refine E_keep (.inr rfl) (Zi rfl rfl) ?_
 exact ⟨rfl, _, _, rfl, hY3⟩
theorem CloI_nil {x : SW} (H : Ze) : F (psys x) 109 [.slice none 0 0 true 0] H fun v G => v = .fsl [] 0 1 false ∧ G = H := by
 refine Zy Tryd.func109 rfl u8 rfl ?_
 refine Zd (Za ?_)
 refine Lo u8 (Zj (VVal.slice none 0 0 true 0) (.inr rfl) rfl) ?_
 refine Zf (Zc (Zd (Zd (Za ?_))))
 refine Lo u8 (Zb (.inl rfl) rfl) ?_
 refine Lo u8 (rfl) ?_
 refine Zf (Zc ?_)
 refine ZV rfl rfl ?_
 refine Zd (Za ?_)
 refine Lo u8 (Zj (VVal.slice none 0 0 true 0) (.inr rfl) rfl) ?_
 refine Zf (Zc (Zn (Zu ?_)))
 refine E_gh (.inr rfl) (Zi rfl rfl) (Gh.ansLV (BaseOk.refl _) (LV.nil H.length 1 []) rfl) ?_
 exact ⟨rfl, rfl⟩
theorem CloI_b {x : SW} (H : Ze) (b cap : Nat) (cs l : List VVal) (hb : H[b]? = some (.cells cs true)) (hc : cs.take l.length = l) (hl : l.length ≤ cs.length) (h0 : 0 < l.length) (hm : l.length ≤ 1000000) (h1 : l.all VVal.one = true) (hu : VVal.underL H.length l = true) : F (psys x) 109 [.slice (some (b, 0)) l.length cap false 1] H fun v G => v = .fsl l l.length 1 false ∧ G = H := by
 refine Zy Tryd.func109 rfl u8 rfl ?_
 refine Zd (Za ?_)
 refine Lo u8 (Zj (VVal.slice none 0 0 true 0) (.inr rfl) rfl) ?_
 refine Zf (Zc (Zd (Zd (Za ?_))))
 refine Lo u8 (Zb (.inl rfl) rfl) ?_
 refine Lo u8 (rfl) ?_
 refine Zf (Zc ?_)
 refine ZA rfl rfl ?_
 refine Zl (Zc (Zd (Za ?_)))
 refine Lo u8 (Zs rfl rfl (by decide) rfl) ?_
 refine Lo u8 (Zb (.inl rfl) rfl) ?_
 refine L_opX rfl rfl (v_appEs rfl rfl rfl rfl rfl rfl rfl rfl (srcLive hb hc hl) (by exact (Nat.mul_one _).symm) h1 (by decide) (by show l.length * 8 ≤ _ ∧ l.length ≤ _; omega)) ?_
 rintro _ _ ⟨Z, i, rfl, rfl, hi⟩
 refine Le u8 ?_
 refine Lo u8 (Zb (.inr rfl) rfl) ?_
 refine Zf (Zc (Zn ?_))
 refine E_gh (.inr rfl) (Zi rfl rfl) (Gh.fsl (BaseOk.refl _) hi (by show Zt l 0 (l.length * 1) = some l; unfold Zt; rw [if_pos (by omega), List.drop_zero, Nat.mul_one, List.take_length]) (Nat.le_refl _) hu) ?_
 exact ⟨rfl, rfl⟩
theorem rc_under (n : Nat) (row : List Nat) : VVal.underL n (rcN row) = true := VVal.underL_map fun _ => rfl
theorem rc_one (row : List Nat) : (rcN row).all VVal.one = true := List.all_eq_true.2 fun v hv => by
  obtain ⟨n, _, rfl⟩ := List.mem_map.1 hv; rfl
theorem CloR {x : SW} (B X : Ze) (rv : VVal) (row : List Nat) (r : RV B.length X rv (rcN row)) (h : row = [] → rv = .slice none 0 0 true 0) (hm : row.length ≤ 1000000) : F (psys x) 109 [rv] (B ++ X) fun v G => v = fzN row ∧ G = B ++ X := by
  rcases r with ⟨h1, rfl⟩ | ⟨b, cap, cs, rfl, h2, h3, h4, h5⟩
  · obtain rfl : row = [] := by simpa using h1
    exact CloI_nil _
  · by_cases h0 : row = []
    · exact absurd (h h0) (by simp)
    · have hlen : (rcN row).length = row.length := by simp
      have hpos : 0 < row.length := List.length_pos_iff.2 h0
      have := CloI_b (x := x) (B ++ X) (B.length + b) cap cs (rcN row) (ZN rfl h2) h5 (by omega) (by omega) (by omega) (rc_one _) (rc_under _ _)
      rw [hlen] at this ⊢
      exact this
abbrev kpV (u : Nat) (ws : List (BitVec 64)) (rss : List (List Rul)) (y : Nat) : VVal := .func 53 [huP (u : Nat) (fzW ws) (fzRR rss) y] []
abbrev fdV (H : Ze) : VVal := .func 83 [] [.ptr (some (H.length + 1, 0)), .ptr (some (H.length, 0))]
abbrev niS : VVal := .slice none 0 0 true 0
def wkH (H : Ze) (y : Nat) (kv rv fnd : VVal) (g : Gz) : Ze := H.set y (gaB g) ++ [.cells [iI 1] true, .cells [fnd] true, .cells [rv, kv, fdV H] true]
section
variable {H X : Ze} {y : Nat} {kv rv fnd : VVal} {g : Gz}
theorem wk_len : (wkH H y kv rv fnd g).length = H.length + 3 := by unfold wkH; rw [List.length_append, List.length_set]; rfl
theorem wk_at {n : Nat} {k : VBlk} (h : n < 3) (hk : [VBlk.cells [iI 1] true, .cells [fnd] true, .cells [rv, kv, fdV H] true][n]? = some k) : (wkH H y kv rv fnd g ++ X)[H.length + n]? = some k := by
  unfold wkH; rw [List.append_assoc]; exact ZN (List.length_set) (by rw [List.getElem?_append_left h]; exact hk)
theorem wk_ga (hy : y < H.length) : (wkH H y kv rv fnd g ++ X)[y]? = some (gaB g) := by
  unfold wkH; rw [List.append_assoc]; exact get_out (List.getElem?_set_self hy)
theorem wk_setg {g' : Gz} (hy : y < H.length) : (wkH H y kv rv fnd g ++ X).set y (gaB g') = wkH H y kv rv fnd g' ++ X := by
  unfold wkH; rw [List.append_assoc, Yn XH24, List.set_set, List.append_assoc]
theorem wk_setf {w : VVal} : (wkH H y kv rv fnd g ++ X).set (H.length + 1) (.cells [w] true) = wkH H y kv rv w g ++ X := by
  unfold wkH; rw [List.append_assoc, Z4 (List.length_set), List.append_assoc]; rfl
theorem wk_setr {w : VVal} : (wkH H y kv rv fnd g ++ X).set (H.length + 2) (.cells (ZC [rv, kv, fdV H] (0 + 0) [w]) true) = wkH H y kv w fnd g ++ X := by
  unfold wkH; rw [List.append_assoc, Z4 (List.length_set), List.append_assoc]; rfl
end
def frPost (H : Ze) (y : Nat) (kv : VVal) (g : Gz) (row : List Nat) (r : Gz × Option (List Nat)) (v : VVal) (G : Ze) : Prop :=
  ∃ rv X, RV (H.length + 3) X rv (rcN row) ∧ ((r.2 = none ∧ v = .bool true ∧ G = wkH H y kv rv niS (g + r.1) ++ X) ∨ ∃ s w, r.2 = some s ∧ v = .bool false ∧ G = wkH H y kv rv w (g + r.1) ++ X ∧ LV (H.length + 3) 1 X w [fzN s] 1)
theorem hKeep_in {x : SW} {H X : Ze} {u y : Nat} {ws : List (BitVec 64)} {rss : List (List Rul)} {rv fnd : VVal} {g : Gz} (hy : y < H.length) (a : List Nat) (ha : Pat a) (h0 : 0 < a.length) (hw : a.length ≤ ws.length) (hn : ws.length ≤ 1000000) (hr : rss.length = ws.length) (hR : ∀ i, (rss.getD i []).length ≤ 1000000 ∧ ∀ r, r ∈ rss.getD i [] → r.steps.length ≤ 1000000) :
    F (psys x) 53 [huP (u : Nat) (fzW ws) (fzRR rss) y, fzN a] (wkH H y (kpV u ws rss y) rv fnd g ++ X) fun v G => (v = .bool true ∧ kpB ws rss a = true ∧ G = wkH H y (kpV u ws rss y) rv fnd (g + kpG u ws rss a) ++ X) ∨ (v = .bool false ∧ kpB ws rss a = false ∧ G = wkH H y (kpV u ws rss y) rv fnd (g + kpG u ws rss a) ++ X) := by
  refine (hKeep_spec _ y g (wk_ga hy) ws rss a ha h0 hw hn hr hR).mono ?_
  rintro v G ⟨rfl, rfl⟩
  rw [wk_setg hy]
  cases h : kpB ws rss a
  · exact .inr ⟨rfl, rfl, rfl⟩
  · exact .inl ⟨rfl, rfl, rfl⟩
abbrev u84 {a0 a1 a2 a3 a4 a5 a6 a7 a8 a9 a10 a11 a12 a13 a14 a15 a16 a17 a18 a19 a20 a21 a22 a23 a24 a25 a26 a27 a28 a29 a30 a31 a32 a33 a34 a35 a36 a37 a38 a39 a40 a41 a42 a43 a44 a45 a46 a47 a48 a49 a50 a51 a52 a53 a54 a55 a56 a57 a58 a59 a60 a61 a62 a63 a64 a65 a66 a67 a68 a69 a70 a71 a72 a73 a74 a75 a76 a77 a78 a79 a80 a81 a82 a83 : VVal} : VEnv := a0 :: a1 :: a2 :: a3 :: a4 :: a5 :: a6 :: a7 :: a8 :: a9 :: a10 :: a11 :: a12 :: a13 :: a14 :: a15 :: a16 :: a17 :: a18 :: a19 :: a20 :: a21 :: a22 :: a23 :: a24 :: a25 :: a26 :: a27 :: a28 :: a29 :: a30 :: a31 :: a32 :: a33 :: a34 :: a35 :: a36 :: a37 :: a38 :: a39 :: a40 :: a41 :: a42 :: a43 :: a44 :: a45 :: a46 :: a47 :: a48 :: a49 :: a50 :: a51 :: a52 :: a53 :: a54 :: a55 :: a56 :: a57 :: a58 :: a59 :: a60 :: a61 :: a62 :: a63 :: a64 :: a65 :: a66 :: a67 :: a68 :: a69 :: a70 :: a71 :: a72 :: a73 :: a74 :: a75 :: a76 :: a77 :: a78 :: a79 :: a80 :: a81 :: a82 :: a83 :: []
theorem W3q {T : TypeId → Option VTy} {H : Ze} {op : Op} {ρ : Operand → VVal} {t : TypeId} {a : Operand} {y : VTy} {p v : VVal} (ho : op = .load t a) (ha : ρ a = p) (hy : T t = some y) (hd : Zm y.desc = false) (h : LdOk H p v := by first | exact .inl ⟨_, _, rfl, by first | rfl | assumption⟩ | exact .inr ⟨_, _, _, _, rfl, by exact wk_at (n := 2) (by decide) rfl, by first | rfl | assumption⟩) : vop T ρ H op = some (v, H) := v_ld ho ha hy hd h
theorem W3s {T : TypeId → Option VTy} {H : Ze} {op : Op} {ρ : Operand → VVal} {t ty : TypeId} {x y : Operand} {n m : Int} (ho : op = .binOp .sub t x y ty) (hx : ρ x = .int .i64 n) (hy : ρ y = .int .i64 m) (h : -9223372036854775808 ≤ n - m ∧ n - m < 9223372036854775808 := by simp; omega) : vop T ρ H op = some (.int .i64 (n - m), H) := v_subI ho hx hy h
theorem W3t {P : Prop} (h : P := by first | exact ⟨_, _, hr4, .inr ⟨s, w, by rw [frm_R, hx, frR_hit (by omega) hk1 ho], rfl, by rw [frm_R, hx, frR_hit (by omega) hk1 ho]; simp only [Gz.assoc], hw⟩⟩ | exact ⟨_, _, hr1, .inl ⟨by rw [frm_R, hx, frR_end (by omega)], rfl, by rw [frm_R, hx, frR_end (by omega)]; show _ = wkH _ _ _ _ _ (g + (d + 0)) ++ _; rw [Gz.add_zero]⟩⟩) : P := h
theorem from_0 {x : SW} (H : Ze) {u y : Nat} {ws : List (BitVec 64)} {rss : List (List Rul)} (hy : y < H.length) (hn : ws.length ≤ 1000000) (hr : rss.length = ws.length) (hR : ∀ i, (rss.getD i []).length ≤ 1000000 ∧ ∀ r, r ∈ rss.getD i [] → r.steps.length ≤ 1000000) (row : List Nat) (rv : VVal) (X : Ze) (g : Gz) (hp : Pat row) (hrv : RV (H.length + 3) X rv (rcN row)) (h0 : row = [] → rv = niS) (hl : row.length = ws.length) : F (psys x) 84 [.ptr (some (H.length + 2, 0)), iI (ws.length : Nat), iI (szP row row.length : Nat)] (wkH H y (kpV u ws rss y) rv niS g ++ X) (frPost H y (kpV u ws rss y) g row (frm (kpB ws rss) (kpG u ws rss) 0 row (szP row row.length))) := by
 refine Zy Tryd.func84 rfl u84 rfl ?_
 refine Zd (Za ?_)
 refine Lo u84 (Zj (VVal.bool false) (.inr rfl) rfl) ?_
 refine Zf (Zc (Zd (Zd ?_)))
 rw [List.append_nil]
 refine Za ?_
 refine Lo u84 (Zb (.inl rfl) rfl) ?_
 refine Lo u84 (rfl) ?_
 refine Lo u84 (rfl) ?_
 refine Lo u84 (W3q rfl rfl rfl rfl) ?_
 refine Lo u84 (v_lenN rfl rfl rfl rfl hrv) ?_
 refine Lo u84 (Zb (.inl rfl) rfl) ?_
 refine Lo u84 (v_is true rfl (by rw [hl]; simp)) ?_
 refine Zf (Zc ?_)
 refine ZV rfl rfl ?_
 refine Zd ?_
 refine B_drawP #[0, 1, 3, 7, 0, 16, 48, 112, 240, 511, 1023] XH2 ?_
 refine P_seg [0, 1, 2, 3, 4, 5, 6, 7, 8] (bef := #[0, 1, 3, 7, 0, 16, 48, 112, 240, 511, 1023]) XH2 XH2 XH2 ?_
 refine Oo u84 .calm rfl (Zb (.inl rfl) rfl) ?_
 refine Oo u84 .calm rfl (rfl) ?_
 refine Oo u84 .calm rfl (rfl) ?_
 refine Yp (env' := u84) (x := .look _ _) rfl rfl rfl (W3q rfl rfl rfl rfl) rfl rfl rfl ?_
 refine Oo u84 .calm rfl (Zb (.inl rfl) rfl) ?_
 refine Oo u84 .calm rfl (rfl) ?_
 refine Oo u84 .calm rfl (rfl) ?_
 refine Oo u84 .look rfl (W3q rfl rfl rfl rfl) ?_
 refine Ye (env' := u84) rfl rfl rfl rfl rfl (by exact CloR _ _ _ _ (by rw [wk_len]; exact hrv) h0 (by omega)) XH6 rfl rfl ?_
 refine ZR [_] (by rfl) (And.intro (And.intro (W3q rfl rfl rfl rfl) (W3q rfl rfl rfl rfl)) trivial) ?_
 refine P_call 9 (bef := #[0, 1, 3, 7, 0, 16, 48, 112, 240, 511, 1023]) XH2 XH2 rfl rfl rfl rfl (by exact Found_spec _ (H.length + 1) H.length (wk_at (n := 1) (by decide) rfl) (wk_at (n := 0) (by decide) rfl) row) ?_
 rintro _ _ ⟨rfl, X2, w, rfl, hw⟩; rw [wk_setf, List.append_assoc]
 refine P_env (env' := u84) rfl ?_
 refine P_seg [10] (bef := #[0, 1, 3, 7, 0, 16, 48, 112, 240, 511, 1023]) XH2 XH2 XH2 ?_
 refine Oo u84 .calm rfl (Zb (.inr rfl) rfl) ?_
 refine ZR [] XH2 (trivial) ?_
 refine P_end XH2 ?_
 refine Zc (Zn (Zu ?_))
 refine E_keep (.inr rfl) (Zi rfl rfl) ?_
 exact ⟨rv, X ++ X2, hrv.app _, .inr ⟨row, w, rfl, rfl, by rw [show (frm (kpB ws rss) (kpG u ws rss) 0 row (szP row row.length)).1 = 0 from rfl, Gz.add_zero, List.append_assoc], LV.behind (by rw [List.length_append, wk_len]) hw⟩⟩
theorem from_s {x : SW} (H : Ze) {u y : Nat} {ws : List (BitVec 64)} {rss : List (List Rul)} (hy : y < H.length) (hn : ws.length ≤ 1000000) (hr : rss.length = ws.length) (hR : ∀ i, (rss.getD i []).length ≤ 1000000 ∧ ∀ r, r ∈ rss.getD i [] → r.steps.length ≤ 1000000) (n : Nat) (ih : ∀ (row : List Nat) (rv : VVal) (X : Ze) (g : Gz) (hp : Pat row) (hrv : RV (H.length + 3) X rv (rcN row)) (h0 : row = [] → rv = niS), row.length + n = ws.length → F (psys x) 84 [.ptr (some (H.length + 2, 0)), iI (ws.length : Nat), iI (szP row row.length : Nat)] (wkH H y (kpV u ws rss y) rv niS g ++ X) (frPost H y (kpV u ws rss y) g row (frm (kpB ws rss) (kpG u ws rss) n row (szP row row.length)))) (row : List Nat) (rv : VVal) (X : Ze) (g : Gz) (hp : Pat row) (hrv : RV (H.length + 3) X rv (rcN row)) (h0 : row = [] → rv = niS) (hl : row.length + (n + 1) = ws.length) : F (psys x) 84 [.ptr (some (H.length + 2, 0)), iI (ws.length : Nat), iI (szP row row.length : Nat)] (wkH H y (kpV u ws rss y) rv niS g ++ X) (frPost H y (kpV u ws rss y) g row (frm (kpB ws rss) (kpG u ws rss) (n + 1) row (szP row row.length))) := by
 refine Zy Tryd.func84 rfl u84 rfl ?_
 refine Zd (Za ?_)
 refine Lo u84 (Zj (VVal.bool false) (.inr rfl) rfl) ?_
 refine Zf (Zc (Zd (Zd ?_)))
 rw [List.append_nil]
 refine Za ?_
 refine Lo u84 (Zb (.inl rfl) rfl) ?_
 refine Lo u84 (rfl) ?_
 refine Lo u84 (rfl) ?_
 refine Lo u84 (W3q rfl rfl rfl rfl) ?_
 refine Lo u84 (v_lenN rfl rfl rfl rfl hrv) ?_
 refine Lo u84 (Zb (.inl rfl) rfl) ?_
 refine Lo u84 (v_is false rfl (by simp; omega)) ?_
 refine Zf (Zc ?_)
 refine ZA rfl rfl ?_
 refine Zl (Zc (Zd (Zd (Za ?_))))
 refine Lo u84 (Zj (VVal.int .i64 0) (.inr rfl) rfl) ?_
 refine Zf (Zc (Zp ?_))
 refine ZI (mk 84 19342813113834066795298680) (env' := u84) rfl ?_
 refine ZP (fun (k : Nat) => szP row row.length + 1 - k) (fun (k : Nat) => [(7, iI (k : Nat))]) (fun (k : Nat) G => (k ≤ szP row row.length + 1) ∧ ∃ X1 rv1 d, G = wkH H y (kpV u ws rss y) rv1 niS (g + d) ++ X1 ∧ RV (H.length + 3) X1 rv1 (rcN row) ∧ frR (kpB ws rss) (kpG u ws rss) (frm (kpB ws rss) (kpG u ws rss) n) row (szP row row.length) 0 = (d + (frR (kpB ws rss) (kpG u ws rss) (frm (kpB ws rss) (kpG u ws rss) n) row (szP row row.length) k).1, (frR (kpB ws rss) (kpG u ws rss) (frm (kpB ws rss) (kpG u ws rss) n) row (szP row row.length) k).2)) 0 rfl ?_ ?_
 ·refine ⟨?_, ⟨X, rv, 0, by rw [Gz.add_zero], hrv, by rw [Gz.zero_add]⟩⟩
  exact Nat.zero_le _
 rintro k _ ⟨hk, ⟨X1, rv1, d, rfl, hr1, hx⟩⟩
 refine ZZ (env' := u84) rfl ?_
 have hsz := @szP_le row row.length
 refine Zd (Zd (Za ?_))
 refine Lo u84 (Zb (.inl rfl) rfl) ?_
 refine Lo u84 (Zb (.inl rfl) rfl) ?_
 refine Lo u84 (rfl) ?_
 refine Zf (Zc ?_)
 refine Zo _ rfl (fun hc1 => ?_) (fun hc1 => ?_)
 ·try simp only [qB, qN] at hc1
  refine Zl (Zc (Zd (Zp (Zd (Za ?_)))))
  refine Lo u84 (Zb (.inl rfl) rfl) ?_
  refine Lo u84 (Zb (.inl rfl) rfl) ?_
  refine Lo u84 (rfl) ?_
  refine Lo u84 (rfl) ?_
  refine Lo u84 (W3q rfl rfl rfl rfl) ?_
  refine Lo u84 (Zb (.inl rfl) rfl) ?_
  refine Lo u84 (Zs rfl rfl (by decide) rfl) ?_
  refine L_opX rfl rfl (v_rvApp rfl rfl rfl rfl rfl rfl rfl rfl (by rw [wk_len]; exact hr1) rfl (by rw [List.length_map]; show (row.length + 1) * 8 ≤ _ ∧ _; omega)) ?_
  rintro v2 _ ⟨Y1, rfl, hY⟩; have hY : RV (H.length + 3) Y1 v2 (rcN (row ++ [k])) := by rw [rcN_snoc]; rw [wk_len] at hY; exact hY
  refine Le u84 ?_
  refine Lo u84 (rfl) ?_
  refine Lo u84 (rfl) ?_
  refine Lo u84 (Ya rfl rfl rfl rfl hY.cells rfl (by simp [hY.one]) (wk_at (n := 2) (by decide) rfl) (Nat.le_of_ble_eq_true rfl) wk_setr) ?_
  refine Zf (Zc (Zd ?_))
  refine B_drawP #[0, 1, 3, 7, 15, 31, 63, 127, 255, 511, 63, 1087, 3135, 7231, 15423, 32767, 65535, 131071, 262143, 524287, 524287, 524287, 524287, 4718591, 15204351, 33554431, 67108863, 134217727] XH2 ?_
  refine P_seg [0, 1, 2, 3, 4, 5, 6, 7, 8, 9, 10, 11, 12, 13, 14] (bef := #[0, 1, 3, 7, 15, 31, 63, 127, 255, 511, 63, 1087, 3135, 7231, 15423, 32767, 65535, 131071, 262143, 524287, 524287, 524287, 524287, 4718591, 15204351, 33554431, 67108863, 134217727]) XH2 XH2 XH2 ?_
  refine Oo u84 .calm rfl (Zb (.inl rfl) rfl) ?_
  refine Oo u84 .calm rfl (rfl) ?_
  refine Oo u84 .calm rfl (rfl) ?_
  refine Oo u84 .look rfl (W3q rfl rfl rfl rfl) ?_
  refine Oo u84 .calm rfl (rfl) ?_
  refine Oo u84 .calm rfl (Zb (.inl rfl) rfl) ?_
  refine Oo u84 .calm rfl (Zb (.inl rfl) rfl) ?_
  refine Oo u84 .calm rfl (rfl) ?_
  refine Oo u84 .calm rfl (rfl) ?_
  refine Yp (env' := u84) (x := .look _ _) rfl rfl rfl (W3q rfl rfl rfl rfl) rfl rfl rfl ?_
  refine Oo u84 .calm rfl (Zb (.inl rfl) rfl) ?_
  refine Oo u84 .calm rfl (rfl) ?_
  refine Oo u84 .calm rfl (rfl) ?_
  refine Oo u84 .look rfl (W3q rfl rfl rfl rfl) ?_
  refine Ye (env' := u84) rfl rfl rfl rfl rfl (by exact CloR _ _ _ (row ++ [k]) (by rw [wk_len]; exact hY) (by simp) (by simp; omega)) XH6 rfl rfl ?_
  refine ZR [_] (by rfl) (And.intro (And.intro (W3q rfl rfl rfl rfl) (W3q rfl rfl rfl rfl)) trivial) ?_
  refine P_call 15 (bef := #[0, 1, 3, 7, 15, 31, 63, 127, 255, 511, 63, 1087, 3135, 7231, 15423, 32767, 65535, 131071, 262143, 524287, 524287, 524287, 524287, 4718591, 15204351, 33554431, 67108863, 134217727]) XH2 XH2 rfl rfl rfl rfl (by exact hKeep_in hy (row ++ [k]) (Pat_snoc hp (by omega)) (by simp) (by simp; omega) hn hr hR) ?_
  rintro _ _ (⟨rfl, hk1, rfl⟩ | ⟨rfl, hk1, rfl⟩)
  ·skip
   refine P_env (env' := u84) rfl ?_
   refine P_seg [16, 17, 18, 19, 20, 21, 22, 23, 24] (bef := #[0, 1, 3, 7, 15, 31, 63, 127, 255, 511, 63, 1087, 3135, 7231, 15423, 32767, 65535, 131071, 262143, 524287, 524287, 524287, 524287, 4718591, 15204351, 33554431, 67108863, 134217727]) XH2 XH2 XH2 ?_
   refine Oo u84 .calm rfl (rfl) ?_
   refine Oo u84 .calm rfl (Zx rfl rfl rfl) ?_
   refine Oo u84 .calm rfl (Zb (.inl rfl) rfl) ?_
   refine Oo u84 .calm rfl (Zb (.inl rfl) rfl) ?_
   refine Oo u84 .calm rfl (Zb (.inl rfl) rfl) ?_
   refine Oo u84 .calm rfl (Zb (.inl rfl) rfl) ?_
   refine Oo u84 .calm rfl (Zb (.inl rfl) rfl) ?_
   refine Oo u84 .calm rfl (W14 rfl rfl rfl) ?_
   refine Oo u84 .calm rfl (v_val rfl (by show iI _ = iI ((max (szP row row.length) (k + 1) : Nat)); congr 1; omega)) ?_
   refine ZR [] XH2 (trivial) ?_
   refine P_call 25 (bef := #[0, 1, 3, 7, 15, 31, 63, 127, 255, 511, 63, 1087, 3135, 7231, 15423, 32767, 65535, 131071, 262143, 524287, 524287, 524287, 524287, 4718591, 15204351, 33554431, 67108863, 134217727]) XH2 XH2 rfl rfl rfl rfl (by have := ih (row ++ [k]) _ _ (g + d + kpG u ws rss (row ++ [k])) (Pat_snoc hp (by omega)) hY (by simp) (by simp; omega); rw [szP_next (by omega)] at this; exact this) ?_
   rintro _ _ ⟨rv3, X3, hr3, (⟨ho, rfl, rfl⟩ | ⟨s, w, ho, rfl, rfl, hw⟩)⟩
   ·skip
    refine P_env (env' := u84) rfl ?_
    refine P_seg [26, 27] (bef := #[0, 1, 3, 7, 15, 31, 63, 127, 255, 511, 63, 1087, 3135, 7231, 15423, 32767, 65535, 131071, 262143, 524287, 524287, 524287, 524287, 4718591, 15204351, 33554431, 67108863, 134217727]) XH2 XH2 XH2 ?_
    refine Oo u84 .calm rfl (Yf rfl rfl rfl) ?_
    refine Oo u84 .calm rfl (Zb (.inr rfl) rfl) ?_
    refine ZR [] XH2 (trivial) ?_
    refine P_end XH2 ?_
    refine Zc (Zd ?_)
    refine ZS [0, 1, 2, 3, 4, 5, 6, 7, 8, 9, 10, 11, 12, 13, 14] #[0, 0, 2, 6, 14, 0, 32, 96, 224, 480, 992, 2046, 4095, 8191, 16383] XH2 XH2 XH2 ?_
    refine Oo u84 .calm rfl (Zb (.inl rfl) rfl) ?_
    refine Oo u84 .calm rfl (Zb (.inl rfl) rfl) ?_
    refine Oo u84 .calm rfl (rfl) ?_
    refine Oo u84 .calm rfl (rfl) ?_
    refine Oo u84 .look rfl (W3q rfl rfl rfl rfl) ?_
    refine Oo u84 .calm rfl (Zb (.inl rfl) rfl) ?_
    refine Oo u84 .calm rfl (rfl) ?_
    refine Oo u84 .calm rfl (rfl) ?_
    refine Oo u84 .look rfl (W3q rfl rfl rfl rfl) ?_
    refine Oo u84 .look rfl (XH26) ?_
    refine Oo u84 .calm rfl (W3s rfl rfl rfl) ?_
    refine O_opX .calm rfl rfl rfl (XH15) rfl rfl ?_
    rintro v4 _ ⟨rfl, hr4⟩
    refine O_env (env' := u84) rfl ?_
    refine Oo u84 .calm rfl (rfl) ?_
    refine Oo u84 .calm rfl (rfl) ?_
    refine Oo u84 .turn rfl (Ya rfl rfl rfl rfl hr4.cells rfl (by simp [hr4.one]) (wk_at (n := 2) (by decide) rfl) (Nat.le_of_ble_eq_true rfl) wk_setr) ?_
    refine ZR [] XH2 (trivial) ?_
    refine Zc (Zd (Za ?_))
    refine Lo u84 (Zb (.inl rfl) rfl) ?_
    refine Lo u84 (rfl) ?_
    refine Zf (Zc ?_)
    refine ZA rfl rfl ?_
    refine Zl (ZG (Zc (Za ?_)))
    refine Lo u84 (Zb (.inl rfl) rfl) ?_
    refine Lo u84 (W14 rfl rfl rfl) ?_
    refine Lo u84 (Zb (.inr rfl) rfl) ?_
    refine Zf ?_
    refine Zz (mk 84 19342813113834066795298680) (env' := u84) rfl ⟨k + 1, ?_, rfl, ?_⟩
    ·first | omega | (simp only []; omega)
    ·first | exact ⟨by omega, _, _, d + (kpG u ws rss (row ++ [k]) + (frm (kpB ws rss) (kpG u ws rss) n (row ++ [k]) (max (szP row row.length) (k + 1))).1), by simp only [Gz.assoc], hr4, by rw [hx, frR_on (by omega) hk1 ho]; simp only [Gz.assoc]⟩ | exact ⟨by omega, _, _, d + kpG u ws rss (row ++ [k]), by simp only [Gz.assoc], hr4, by rw [hx, frR_no (by omega) hk1]; simp only [Gz.assoc]⟩
   ·skip
    refine P_env (env' := u84) rfl ?_
    refine P_seg [26, 27] (bef := #[0, 1, 3, 7, 15, 31, 63, 127, 255, 511, 63, 1087, 3135, 7231, 15423, 32767, 65535, 131071, 262143, 524287, 524287, 524287, 524287, 4718591, 15204351, 33554431, 67108863, 134217727]) XH2 XH2 XH2 ?_
    refine Oo u84 .calm rfl (Yf rfl rfl rfl) ?_
    refine Oo u84 .calm rfl (Zb (.inr rfl) rfl) ?_
    refine ZR [] XH2 (trivial) ?_
    refine P_end XH2 ?_
    refine Zc (Zd ?_)
    refine ZS [0, 1, 2, 3, 4, 5, 6, 7, 8, 9, 10, 11, 12, 13, 14] #[0, 0, 2, 6, 14, 0, 32, 96, 224, 480, 992, 2046, 4095, 8191, 16383] XH2 XH2 XH2 ?_
    refine Oo u84 .calm rfl (Zb (.inl rfl) rfl) ?_
    refine Oo u84 .calm rfl (Zb (.inl rfl) rfl) ?_
    refine Oo u84 .calm rfl (rfl) ?_
    refine Oo u84 .calm rfl (rfl) ?_
    refine Oo u84 .look rfl (W3q rfl rfl rfl rfl) ?_
    refine Oo u84 .calm rfl (Zb (.inl rfl) rfl) ?_
    refine Oo u84 .calm rfl (rfl) ?_
    refine Oo u84 .calm rfl (rfl) ?_
    refine Oo u84 .look rfl (W3q rfl rfl rfl rfl) ?_
    refine Oo u84 .look rfl (XH26) ?_
    refine Oo u84 .calm rfl (W3s rfl rfl rfl) ?_
    refine O_opX .calm rfl rfl rfl (XH15) rfl rfl ?_
    rintro v4 _ ⟨rfl, hr4⟩
    refine O_env (env' := u84) rfl ?_
    refine Oo u84 .calm rfl (rfl) ?_
    refine Oo u84 .calm rfl (rfl) ?_
    refine Oo u84 .turn rfl (Ya rfl rfl rfl rfl hr4.cells rfl (by simp [hr4.one]) (wk_at (n := 2) (by decide) rfl) (Nat.le_of_ble_eq_true rfl) wk_setr) ?_
    refine ZR [] XH2 (trivial) ?_
    refine Zc (Zd (Za ?_))
    refine Lo u84 (Zb (.inl rfl) rfl) ?_
    refine Lo u84 (rfl) ?_
    refine Zf (Zc ?_)
    refine ZV rfl rfl ?_
    refine Zd (Za ?_)
    refine Lo u84 (Zj (VVal.bool false) (.inr rfl) rfl) ?_
    refine Zf (Zc (Zn (ZU (Zu (YH (ZU (Zu ?_)))))))
    refine E_keep (.inr rfl) (Zi rfl rfl) ?_
    exact W3t
  ·skip
   refine P_env (env' := u84) rfl ?_
   refine P_seg [16, 17, 18, 19, 20, 21, 22, 23, 24] (bef := #[0, 1, 3, 7, 15, 31, 63, 127, 255, 511, 63, 1087, 3135, 7231, 15423, 32767, 65535, 131071, 262143, 524287, 524287, 524287, 524287, 4718591, 15204351, 33554431, 67108863, 134217727]) XH2 XH2 XH2 ?_
   refine Oo u84 .calm rfl (rfl) ?_
   refine Oo u84 .calm rfl (Zx rfl rfl rfl) ?_
   refine Oo u84 .calm rfl (Zb (.inl rfl) rfl) ?_
   refine Of u84 rfl ?_
   refine Of u84 rfl ?_
   refine Of u84 rfl ?_
   refine Of u84 rfl ?_
   refine Of u84 rfl ?_
   refine Of u84 rfl ?_
   refine ZR [] XH2 (trivial) ?_
   refine P_seg [25, 26, 27] (bef := #[0, 1, 3, 7, 15, 31, 63, 127, 255, 511, 63, 1087, 3135, 7231, 15423, 32767, 65535, 131071, 262143, 524287, 524287, 524287, 524287, 4718591, 15204351, 33554431, 67108863, 134217727]) XH2 XH2 XH2 ?_
   refine Of u84 rfl ?_
   refine Oo u84 .calm rfl (YE (VVal.bool true) rfl rfl rfl) ?_
   refine Oo u84 .calm rfl (Zb (.inr rfl) rfl) ?_
   refine ZR [] XH2 (trivial) ?_
   refine P_end XH2 ?_
   refine Zc (Zd ?_)
   refine ZS [0, 1, 2, 3, 4, 5, 6, 7, 8, 9, 10, 11, 12, 13, 14] #[0, 0, 2, 6, 14, 0, 32, 96, 224, 480, 992, 2046, 4095, 8191, 16383] XH2 XH2 XH2 ?_
   refine Oo u84 .calm rfl (Zb (.inl rfl) rfl) ?_
   refine Oo u84 .calm rfl (Zb (.inl rfl) rfl) ?_
   refine Oo u84 .calm rfl (rfl) ?_
   refine Oo u84 .calm rfl (rfl) ?_
   refine Oo u84 .look rfl (W3q rfl rfl rfl rfl) ?_
   refine Oo u84 .calm rfl (Zb (.inl rfl) rfl) ?_
   refine Oo u84 .calm rfl (rfl) ?_
   refine Oo u84 .calm rfl (rfl) ?_
   refine Oo u84 .look rfl (W3q rfl rfl rfl rfl) ?_
   refine Oo u84 .look rfl (XH26) ?_
   refine Oo u84 .calm rfl (W3s rfl rfl rfl) ?_
   refine O_opX .calm rfl rfl rfl (XH15) rfl rfl ?_
   rintro v4 _ ⟨rfl, hr4⟩
   refine O_env (env' := u84) rfl ?_
   refine Oo u84 .calm rfl (rfl) ?_
   refine Oo u84 .calm rfl (rfl) ?_
   refine Oo u84 .turn rfl (Ya rfl rfl rfl rfl hr4.cells rfl (by simp [hr4.one]) (wk_at (n := 2) (by decide) rfl) (Nat.le_of_ble_eq_true rfl) wk_setr) ?_
   refine ZR [] XH2 (trivial) ?_
   refine Zc (Zd (Za ?_))
   refine Lo u84 (Zb (.inl rfl) rfl) ?_
   refine Lo u84 (rfl) ?_
   refine Zf (Zc ?_)
   refine ZA rfl rfl ?_
   refine Zl (ZG (Zc (Za ?_)))
   refine Lo u84 (Zb (.inl rfl) rfl) ?_
   refine Lo u84 (W14 rfl rfl rfl) ?_
   refine Lo u84 (Zb (.inr rfl) rfl) ?_
   refine Zf ?_
   refine Zz (mk 84 19342813113834066795298680) (env' := u84) rfl ⟨k + 1, ?_, rfl, ?_⟩
   ·first | omega | (simp only []; omega)
   ·first | exact ⟨by omega, _, _, d + (kpG u ws rss (row ++ [k]) + (frm (kpB ws rss) (kpG u ws rss) n (row ++ [k]) (max (szP row row.length) (k + 1))).1), by simp only [Gz.assoc], hr4, by rw [hx, frR_on (by omega) hk1 ho]; simp only [Gz.assoc]⟩ | exact ⟨by omega, _, _, d + kpG u ws rss (row ++ [k]), by simp only [Gz.assoc], hr4, by rw [hx, frR_no (by omega) hk1]; simp only [Gz.assoc]⟩
 ·try simp only [qB, qN] at hc1
  refine ZL (ZJ (ZB (ZK (Zc (Zd (Za ?_))))))
  refine Lo u84 (Zj (VVal.bool true) (.inr rfl) rfl) ?_
  refine Zf (Zc (Zn ?_))
  refine E_keep (.inr rfl) (Zi rfl rfl) ?_
  exact W3t
abbrev u29 {a0 a1 a2 a3 a4 a5 a6 a7 a8 a9 a10 a11 a12 a13 a14 a15 a16 a17 a18 a19 a20 a21 a22 a23 a24 a25 a26 a27 a28 : VVal} : VEnv := a0 :: a1 :: a2 :: a3 :: a4 :: a5 :: a6 :: a7 :: a8 :: a9 :: a10 :: a11 :: a12 :: a13 :: a14 :: a15 :: a16 :: a17 :: a18 :: a19 :: a20 :: a21 :: a22 :: a23 :: a24 :: a25 :: a26 :: a27 :: a28 :: []
theorem W3w {T : TypeId → Option VTy} {H : Ze} {op : Op} {ρ : Operand → VVal} {t : TypeId} {a : Operand} {y : VTy} {p v : VVal} (ho : op = .load t a) (ha : ρ a = p) (hy : T t = some y) (hd : Zm y.desc = false) (h : LdOk H p v := by first | exact .inl ⟨_, _, rfl, by rfl⟩ | exact .inr ⟨_, _, _, _, rfl, by exact ZN (List.length_set) hX, by rfl⟩) : vop T ρ H op = some (v, H) := v_ld ho ha hy hd h
theorem from_spec {x : SW} (H : Ze) {u y : Nat} {ws : List (BitVec 64)} {rss : List (List Rul)} (hy : y < H.length) (hn : ws.length ≤ 1000000) (hr : rss.length = ws.length) (hR : ∀ i, (rss.getD i []).length ≤ 1000000 ∧ ∀ r, r ∈ rss.getD i [] → r.steps.length ≤ 1000000) : ∀ (n : Nat) (row : List Nat) (rv : VVal) (X : Ze) (g : Gz) (hp : Pat row) (hrv : RV (H.length + 3) X rv (rcN row)) (h0 : row = [] → rv = niS), row.length + n = ws.length → F (psys x) 84 [.ptr (some (H.length + 2, 0)), iI (ws.length : Nat), iI (szP row row.length : Nat)] (wkH H y (kpV u ws rss y) rv niS g ++ X) (frPost H y (kpV u ws rss y) g row (frm (kpB ws rss) (kpG u ws rss) n row (szP row row.length)))
  | 0, row, rv, X, g, hp, hrv, h0, hl => from_0 H hy hn hr hR row rv X g hp hrv h0 hl
  | n + 1, row, rv, X, g, hp, hrv, h0, hl => from_s H hy hn hr hR n (fun row rv X g a b c d => from_spec H hy hn hr hR n row rv X g a b c d) row rv X g hp hrv h0 hl
theorem from_in {x : SW} (H : Ze) {u y : Nat} {ws : List (BitVec 64)} {rss : List (List Rul)} (g : Gz) (hs : H[y]? = some (gaB g)) (hn : ws.length ≤ 1000000) (hr : rss.length = ws.length) (hR : ∀ i, (rss.getD i []).length ≤ 1000000 ∧ ∀ r, r ∈ rss.getD i [] → r.steps.length ≤ 1000000) : F (psys x) 84 [.ptr (some (H.length + 2, 0)), iI (ws.length : Nat), iI 0] (H ++ [.cells [iI 1] true, .cells [niS] true, .cells [niS, (kpV u ws rss y), fdV H] true])
    fun v G => ∃ b X w, v = .bool b ∧ G = H.set y (gaB (g + (frm (kpB ws rss) (kpG u ws rss) ws.length [] 0).1)) ++ X ∧ X[1]? = some (.cells [w] true) ∧ LV H.length 1 X w ((frm (kpB ws rss) (kpG u ws rss) ws.length [] 0).2.toList.map fzN) (frm (kpB ws rss) (kpG u ws rss) ws.length [] 0).2.toList.length := by
  have := from_spec (x := x) (u := u) H (ZD hs) hn hr hR ws.length [] niS [] g Pat_nil (RV.nil _ _) (fun _ => rfl) (Nat.zero_add _)
  rw [List.append_nil, show wkH H y (kpV u ws rss y) niS niS g = H ++ [.cells [iI 1] true, .cells [niS] true, .cells [niS, (kpV u ws rss y), fdV H] true] by unfold wkH; rw [← set_keep hs]] at this
  refine this.mono ?_
  rintro v G ⟨rv, X, hr, (⟨ho, rfl, rfl⟩ | ⟨s, w, ho, rfl, rfl, hw⟩)⟩
  · have ho : (frm (kpB ws rss) (kpG u ws rss) ws.length [] 0).2 = none := ho
    rw [ho]
    exact ⟨true, _ :: _ :: _ :: X, niS, rfl, by unfold wkH; rw [List.append_assoc]; rfl, rfl, LV.nil _ _ _⟩
  · have ho : (frm (kpB ws rss) (kpG u ws rss) ws.length [] 0).2 = some s := ho
    rw [ho]
    exact ⟨false, _, w, rfl, by unfold wkH; rw [List.append_assoc]; rfl, rfl, LV.behind (X := [.cells [iI 1] true, .cells [w] true, .cells [rv, (kpV u ws rss y), fdV H] true]) rfl hw⟩
theorem Search_spec {x : SW} (H : Ze) {u y : Nat} {ws : List (BitVec 64)} {rss : List (List Rul)} (g : Gz) (hs : H[y]? = some (gaB g)) (hn : ws.length ≤ 1000000) (hr : rss.length = ws.length) (hR : ∀ i, (rss.getD i []).length ≤ 1000000 ∧ ∀ r, r ∈ rss.getD i [] → r.steps.length ≤ 1000000) (h12 : ws.length ≤ 12) : F (psys x) 52 [iI (ws.length : Nat), iI 1, (kpV u ws rss y)] H fun v G => v = .fsl ((frm (kpB ws rss) (kpG u ws rss) ws.length [] 0).2.toList.map fzN) (frm (kpB ws rss) (kpG u ws rss) ws.length [] 0).2.toList.length 1 false ∧ G = H.set y (gaB (g + (frm (kpB ws rss) (kpG u ws rss) ws.length [] 0).1)) := by
 refine Zy Tryd.func52 rfl u29 rfl ?_
 refine Zd (Za ?_)
 refine Lo u29 (ZE rfl rfl rfl) ?_
 refine Lo u29 (Zj (VVal.slice none 0 0 true 0) (.inr rfl) rfl) ?_
 refine Zf (Zc (Zd (Za ?_)))
 refine Lo u29 (W12 rfl rfl rfl rfl) ?_
 refine Lo u29 (rfl) ?_
 refine Lo u29 (W13 rfl rfl rfl rfl rfl rfl rfl) ?_
 refine Zf (Zc (Zd (Zd (Za ?_))))
 refine Lo u29 (Zb (.inl rfl) rfl) ?_
 refine Lo u29 (v_is false rfl (by simp)) ?_
 refine Lo u29 (Zb (.inl rfl) rfl) ?_
 refine Lo u29 (Zb (.inl rfl) rfl) ?_
 refine Lo u29 (v_is false rfl (by simp; omega)) ?_
 refine Lo u29 (Yf rfl rfl rfl) ?_
 refine Lo u29 (Zb (.inl rfl) rfl) ?_
 refine Lo u29 (W12 rfl rfl rfl rfl) ?_
 refine Lo u29 (rfl) ?_
 refine Lo u29 (Yf rfl rfl rfl) ?_
 refine Zf (Zc ?_)
 refine ZA rfl rfl ?_
 refine Zl (Zc (Zd (Za ?_)))
 refine Lo u29 (Zw rfl rfl) ?_
 refine Zf (Zc (Zd (Za ?_)))
 refine Lo u29 (Zb (.inl rfl) rfl) ?_
 refine Lo u29 (v_func [_, _] rfl rfl) ?_
 refine Lo u29 (rfl) ?_
 refine Lo u29 (ZE rfl rfl rfl) ?_
 refine Lo u29 (Zb (.inr rfl) rfl) ?_
 refine Zf (Zc (Zd (Za ?_)))
 refine Lo u29 (Zb (.inl rfl) rfl) ?_
 refine Lo u29 (Zb (.inl rfl) rfl) ?_
 refine Zk rfl rfl rfl (by exact from_in H g hs hn hr hR) ?_
 rintro _ _ ⟨b, X, w, rfl, rfl, hX, hw⟩
 refine Le u29 ?_
 refine Zf (Zc (Zd (Za ?_)))
 refine Lo u29 (W3w rfl rfl rfl rfl) ?_
 refine Lo u29 (Zb (.inr rfl) rfl) ?_
 refine Zf (Zc (Zn ?_))
 refine E_gh (.inr rfl) (Zi rfl rfl) (Gh.ansLV (B := H.set y (gaB (g + (frm (kpB ws rss) (kpG u ws rss) ws.length [] 0).1))) (BaseOk.set (BaseOk.refl _) _ rfl) (by rw [List.length_set]; exact hw) (VVal.underL_map (f := fzN) fun a => mapN_under _ a)) ?_
 exact ⟨rfl, rfl⟩
def wsP (p : Pb) : List (BitVec 64) := (List.range p.who.length).map (wrd p)
theorem Yk {p : Pb} : (wsP p).length = p.who.length := by unfold wsP; simp
theorem wsP_take {p : Pb} {k : Nat} (h : k < p.who.length) : (wsP p).take (k + 1) = (wsP p).take k ++ [wrd p k] := by
  rw [Yb (d := 0) (by rw [Yk]; exact h)]
  congr 2
  unfold wsP
  rw [List.getD_eq_getElem?_getD, List.getElem?_map, List.getElem?_range h]; rfl
abbrev nwB (u : Int) (n y b : Nat) (wv : VVal) (vs : List VVal) : Ze := [.dead, .cells vs true, .cells [iI u, wv, .slice (some (b, 0)) n n true 1, .ptr (some (y, 0))] true]
theorem rep1 (v : VVal) : ∀ n : Nat, ZO [v] n = List.replicate n v
  | 0 => rfl
  | n + 1 => by rw [List.replicate_succ, ← rep1 v n]; rfl
theorem vget {l : List VVal} {k : Nat} (h : k < l.length) : l[0 + k * 1]? = some (l.getD k .skip) := by
  rw [show 0 + k * 1 = k by omega, List.getD_eq_getElem?_getD, List.getElem?_eq_getElem h]; rfl
theorem rck_in {n : Int} {r : Rul} (h : rck n r = true) {s : Nat} (hs : s < r.steps.length) : 0 ≤ r.steps.getD s 0 ∧ r.steps.getD s 0 < n := by
  unfold rck at h
  rw [Bool.and_eq_true, Bool.and_eq_true] at h
  have := riseA_mem _ _ h.2.1 _ (mem_getI hs)
  omega
theorem spl_v {l : List VVal} {k : Nat} {w : VVal} (h : k < l.length) : ZC l (0 + k * 1) [w] = l.set k w := by
  rw [show 0 + k * 1 = k by omega]
  unfold ZC
  rw [List.set_eq_take_append_cons_drop, if_pos h]; simp
abbrev u72 {a0 a1 a2 a3 a4 a5 a6 a7 a8 a9 a10 a11 a12 a13 a14 a15 a16 a17 a18 a19 a20 a21 a22 a23 a24 a25 a26 a27 a28 a29 a30 a31 a32 a33 a34 a35 a36 a37 a38 a39 a40 a41 a42 a43 a44 a45 a46 a47 a48 a49 a50 a51 a52 a53 a54 a55 a56 a57 a58 a59 a60 a61 a62 a63 a64 a65 a66 a67 a68 a69 a70 a71 : VVal} : VEnv := a0 :: a1 :: a2 :: a3 :: a4 :: a5 :: a6 :: a7 :: a8 :: a9 :: a10 :: a11 :: a12 :: a13 :: a14 :: a15 :: a16 :: a17 :: a18 :: a19 :: a20 :: a21 :: a22 :: a23 :: a24 :: a25 :: a26 :: a27 :: a28 :: a29 :: a30 :: a31 :: a32 :: a33 :: a34 :: a35 :: a36 :: a37 :: a38 :: a39 :: a40 :: a41 :: a42 :: a43 :: a44 :: a45 :: a46 :: a47 :: a48 :: a49 :: a50 :: a51 :: a52 :: a53 :: a54 :: a55 :: a56 :: a57 :: a58 :: a59 :: a60 :: a61 :: a62 :: a63 :: a64 :: a65 :: a66 :: a67 :: a68 :: a69 :: a70 :: a71 :: []
theorem W43 {T : TypeId → Option VTy} {H : Ze} {op : Op} {ρ : Operand → VVal} {t : TypeId} {a : Operand} {y : VTy} {p v : VVal} (ho : op = .load t a) (ha : ρ a = p) (hy : T t = some y) (hd : Zm y.desc = false) (h : LdOk H p v := by first | exact .inl ⟨_, _, rfl, by exact vget (by rw [hlen]; exact hi)⟩ | exact .inr ⟨_, _, _, _, rfl, by exact getB rfl rfl, by exact vget (by rw [hlen]; exact hi)⟩) : vop T ρ H op = some (v, H) := v_ld ho ha hy hd h
theorem W44 {T : TypeId → Option VTy} {H : Ze} {op : Op} {ρ : VEnv} {H' : Ze} {t : TypeId} {a : Operand} {i : Nat} {v : VVal} {y : VTy} {b off : Nat} {cs new : List VVal} (ho : op = .store t a (.tmp i)) (hv : ρ[i]? = some v) (ha : ρ.eval a = .ptr (some (b, off))) (hy : T t = some y) (hx : v.cells = some new) (hn : new.length = y.size) (h1 : new.all VVal.one = true) (hb : H[b]? = some (.cells cs true) := by exact getB rfl rfl) (hl : off + new.length ≤ cs.length := by show 0 + _ * 1 + 1 ≤ vs.length; omega) (hH : H.set b (.cells (ZC cs off new) true) = H' := by exact (setB rfl (show 1 < 3 from by decide)).trans (by show H ++ List.set _ 1 (VBlk.cells (ZC vs (0 + ((p.rules.getD m r0).steps.getD s 0).toNat * 1) [_]) true) ++ _ = _; rw [spl_v (by rw [hlen]; exact hi)])) : vop T ρ.eval H op = some (.skip, H') := Ya ho hv ha hy hx hn h1 hb hl hH
theorem W45 {S : V.Sys} {H : Ze} {fn : Func} {ex : Exit} {env : VEnv} {B L : Ze} {v : VVal} {R : VVal → Ze → Prop} (hx : ex = .normal ∨ ex = .ret) (hv : Z6 S.C.T env (B ++ L) fn.results = some v) (h : R v B) (hB : BaseOk H B := by exact BaseOk.refl _) (hu : v.under H.length = true := by exact huUnder hy _ _ _) : fnK S fn H R ex env (B ++ L) := E_app hx hv hB hu h
theorem New_spec {x : SW} (H : Ze) (p : Pb) (y : Nat) (hy : y < H.length) (g : Go.V.Good p) : F (psys x) 51 [.agg (pbB p), .ptr (some (y, 0))] H fun v G => v = huP p.users (fzW (wsP p)) (fzRR (Yi p)) y ∧ G = H := by
 have g1 := g.n12; have g3 := g.r32; have g5 := g.fx
 have gs := fun r hr => rck_len (g.ru r hr)
 refine Zy Tryd.func51 rfl u72 rfl ?_
 refine Zd (Za ?_)
 refine Lo u72 (ZE rfl rfl rfl) ?_
 refine Lo u72 (Zj (VVal.ptr none) (.inr rfl) rfl) ?_
 refine Zf (Zc (Zd ?_))
 refine Yg (Gh.freezePtrL (cs := pbB p) 2 0 rfl rfl rfl) ?_
 refine ZS [0, 1, 2, 3, 4, 5, 6, 7, 8, 9] #[0, 1, 0, 4, 12, 28, 0, 127, 255, 511] XH2 XH2 XH2 ?_
 refine Oo u72 .calm rfl (rfl) ?_
 refine Oo u72 .look rfl (W1t rfl rfl rfl rfl) ?_
 refine Oo u72 .calm rfl (rfl) ?_
 refine Oo u72 .look rfl (W1t rfl rfl rfl rfl) ?_
 refine Oo u72 .look rfl (rfl) ?_
 refine Oo u72 .grow rfl (v_makeSlice rfl rfl rfl rfl rfl (by decide) ⟨by omega, Int.le_refl _, by show (p.who.length : Int) * (24 : Nat) ≤ _; omega, by omega⟩) ?_
 refine Oo u72 .calm rfl (Zb (.inl rfl) rfl) ?_
 refine Oo u72 .calm rfl (rfl) ?_
 refine Oo u72 .grow rfl (ZE rfl rfl rfl) ?_
 refine Oo u72 .calm rfl (Zb (.inr rfl) rfl) ?_
 refine ZR [] XH2 (trivial) ?_
 refine Zc (Zd (Zd (Za ?_)))
 refine Lo u72 (rfl) ?_
 refine Lo u72 (W1t rfl rfl rfl rfl) ?_
 refine Lo u72 (rfl) ?_
 refine Lo u72 (Zj (VVal.int .i64 0) (.inl rfl) rfl) ?_
 refine Zf (Zc (Zp ?_))
 refine ZI (mk 72 4722366482869632630747) (env' := u72) rfl ?_
 refine ZP (fun (k : Nat) => p.who.length - k) (fun (k : Nat) => [(23, iI (k : Nat))]) (fun (k : Nat) G => (k ≤ p.who.length) ∧ ∃ wv X, G = (H ++ nwB p.users p.who.length y (H.length + 1) wv (List.replicate p.who.length niS)) ++ X ∧ LV (H.length + 3) 1 X wv (((wsP p).take k).map iW) ((wsP p).take k).length) 0 rfl ?_ ?_
 ·refine ⟨?_, ⟨_, [], by rw [List.append_nil, ← rep1]; rfl, LV.nil _ _ _⟩⟩
  exact Nat.zero_le _
 rintro k _ ⟨hk, ⟨wv, X, rfl, hl⟩⟩
 refine ZZ (env' := u72) rfl ?_
 refine Zd (Za ?_)
 refine Lo u72 (rfl) ?_
 refine Zf (Zc (Zd ?_))
 refine Zo _ rfl (fun hc1 => ?_) (fun hc1 => ?_)
 ·try simp only [qB, qN] at hc1
  refine Zl (Zc (Zd (Zp (Zd (Za ?_)))))
  refine Lo u72 (Zb (.inl rfl) rfl) ?_
  refine Lo u72 (Zb (.inr rfl) rfl) ?_
  refine Zf (Zc ?_)
  refine ZS [0, 1, 2, 3, 4, 5, 6, 7, 8, 9, 10, 11, 12] #[0, 0, 2, 6, 14, 0, 0, 96, 224, 510, 1023, 2047, 4095] XH2 XH2 XH2 ?_
  refine Oo u72 .calm rfl (Zb (.inl rfl) rfl) ?_
  refine Oo u72 .calm rfl (Zb (.inl rfl) rfl) ?_
  refine Oo u72 .calm rfl (rfl) ?_
  refine Oo u72 .calm rfl (rfl) ?_
  refine Yp (env' := u72) (x := .look _ _) rfl rfl rfl (W1t rfl rfl rfl rfl) rfl rfl rfl ?_
  refine Oo u72 .look rfl (W1x rfl rfl rfl rfl rfl) ?_
  refine Oo u72 .calm rfl (Zb (.inl rfl) rfl) ?_
  refine Ye (env' := u72) rfl rfl rfl rfl rfl (by exact Word_spec _ _ _ (by omega) (by omega)) XH6 rfl rfl ?_
  refine Oo u72 .grow rfl (Zs rfl rfl (by decide) rfl) ?_
  refine O_opX .turn rfl rfl rfl (Ym rfl rfl rfl rfl rfl rfl rfl (by simp) hl rfl rfl (by decide) XH11 (by decide)) rfl rfl ?_
  rintro _ _ ⟨Y1, rfl, rfl, hY1, hY2, hY3⟩
  refine O_env (env' := u72) rfl ?_
  refine Oo u72 .calm rfl (rfl) ?_
  refine Oo u72 .calm rfl (rfl) ?_
  refine Oo u72 .turn rfl (W13 rfl rfl rfl rfl rfl rfl rfl) ?_
  refine ZR [_] (by rfl) (And.intro (And.intro (W1t rfl rfl rfl rfl) (W1t rfl rfl rfl rfl)) trivial) ?_
  refine ZG (Zc (Za ?_))
  refine Lo u72 (W14 rfl rfl rfl) ?_
  refine Lo u72 (Zb (.inl rfl) rfl) ?_
  refine Zf ?_
  refine Zz (mk 72 4722366482869632630747) (env' := u72) rfl ⟨k + 1, ?_, rfl, ?_⟩
  ·first | omega | (simp only []; omega)
  ·exact ⟨by omega, _, _, rfl, by rw [wsP_take (by omega)]; exact LV.pushW hY3⟩
 ·try simp only [qB, qN] at hc1
  refine ZL (ZJ (ZB (ZK (Zc (Zd (Zd ?_))))))
  obtain rfl : k = p.who.length := by omega
  rw [List.take_of_length_le (by rw [Yk]; omega)] at hl
  refine B_ghCell 2 1 hl rfl rfl (by simp) fun X1 _ _ => ?_
  refine Za ?_
  refine Lo u72 (rfl) ?_
  refine Lo u72 (W1t rfl rfl rfl rfl) ?_
  refine Lo u72 (rfl) ?_
  refine Lo u72 (Zj (VVal.int .i64 0) (.inl rfl) rfl) ?_
  refine Zf (Zc (Zp ?_))
  refine ZI (mk 72 4722366475173063819231) (env' := u72) rfl ?_
  refine ZP (fun (m : Nat) => p.rules.length - m) (fun (m : Nat) => [(42, iI (m : Nat))]) (fun (m : Nat) G => (m ≤ p.rules.length) ∧ ∃ Z vs, G = (H ++ nwB p.users p.who.length y (H.length + 1) (fzW (wsP p)) vs) ++ Z ∧ RW rlB 3 (H.length + 3) Z vs (addR p.who.length p.rules m)) 0 rfl ?_ ?_
  ·refine ⟨?_, ⟨_, _, rfl, RW.init⟩⟩
   exact Nat.zero_le _
  rintro m _ ⟨hm, ⟨Z, vs, rfl, hr⟩⟩
  refine ZZ (env' := u72) rfl ?_
  refine Zd (Za ?_)
  refine Lo u72 (rfl) ?_
  refine Zf (Zc (Zd ?_))
  refine Zo _ rfl (fun hc2 => ?_) (fun hc2 => ?_)
  ·try simp only [qB, qN] at hc2
   refine Zl (Zc (Zd (Zp (Zd (Za ?_)))))
   refine Lo u72 (W18 rfl rfl rfl rfl rfl rfl rfl) ?_
   refine Lo u72 (W1x rfl rfl rfl rfl rfl) ?_
   refine Lo u72 (Zw rfl rfl) ?_
   refine Lo u72 (W13 rfl rfl rfl rfl rfl rfl rfl) ?_
   refine Zf (Zc (Zd ?_))
   refine Yg (Gh.freezeEnd (cs := rlB (p.rules.getD m r0)) 8 rfl rfl) ?_
   refine Za ?_
   refine Lo u72 (rfl) ?_
   refine Lo u72 (W1t rfl rfl rfl rfl) ?_
   refine Lo u72 (rfl) ?_
   refine Lo u72 (Zj (VVal.int .i64 0) (.inl rfl) rfl) ?_
   refine Zf (Zc (Zp ?_))
   refine ZI (mk 72 4722365490010645331679) (env' := u72) rfl ?_
   refine ZP (fun (s : Nat) => (p.rules.getD m r0).steps.length - s) (fun (s : Nat) => [(49, iI (s : Nat))]) (fun (s : Nat) G => (s ≤ (p.rules.getD m r0).steps.length) ∧ ∃ Z vs, G = (H ++ nwB p.users p.who.length y (H.length + 1) (fzW (wsP p)) vs) ++ Z ∧ RW rlB 3 (H.length + 3) Z vs (addS (p.rules.getD m r0) (addR p.who.length p.rules m) s)) 0 rfl ?_ ?_
   ·refine ⟨?_, ⟨_, vs, rfl, hr.app _⟩⟩
    exact Nat.zero_le _
   rintro s _ ⟨hs, ⟨Z, vs, rfl, hr⟩⟩
   refine ZZ (env' := u72) rfl ?_
   refine Zd (Za ?_)
   refine Lo u72 (rfl) ?_
   refine Zf (Zc (Zd ?_))
   refine Zo _ rfl (fun hc3 => ?_) (fun hc3 => ?_)
   ·try simp only [qB, qN] at hc3
    refine Zl (Zc (Zd (Zp (Zd (Za ?_)))))
    refine Lo u72 (W18 rfl rfl rfl rfl rfl rfl rfl) ?_
    refine Lo u72 (W1t rfl rfl rfl rfl) ?_
    refine Lo u72 (Zb (.inr rfl) rfl) ?_
    refine Zf (Zc ?_)
    have hin := rck_in (g.ru _ (rul_mem (l := p.rules) (k := m) (by omega))) (s := s) (by omega)
    have hlen := hr.len
    have hi : ((p.rules.getD m r0).steps.getD s 0).toNat < (addS (p.rules.getD m r0) (addR p.who.length p.rules m) s).length := by rw [addS_len, addR_len]; omega
    have hv9 := hr.lv _ hi
    have hb1 := @addS_row (p.rules.getD m r0) (addR p.who.length p.rules m) ((p.rules.getD m r0).steps.getD s 0).toNat s
    have hb2 := addR_row (n := p.who.length) (i := ((p.rules.getD m r0).steps.getD s 0).toNat) gs (m := m) (by omega)
    have hb3 := gs _ (rul_mem (l := p.rules) (k := m) (by omega))
    refine ZS [0, 1, 2, 3, 4, 5, 6, 7, 8, 9, 10, 11, 12, 13, 14, 15, 16] #[0, 1, 3, 7, 0, 0, 32, 96, 224, 0, 992, 2016, 0, 4096, 16352, 32767, 65535] XH2 XH2 XH2 ?_
    refine Oo u72 .calm rfl (Zb (.inl rfl) rfl) ?_
    refine Oo u72 .calm rfl (rfl) ?_
    refine Oo u72 .calm rfl (rfl) ?_
    refine Yp (env' := u72) (x := .look _ _) rfl rfl rfl (W1t rfl rfl rfl rfl) rfl rfl rfl ?_
    refine Oo u72 .calm rfl (Zb (.inl rfl) rfl) ?_
    refine Oo u72 .calm rfl (Zb (.inl rfl) rfl) ?_
    refine Oo u72 .calm rfl (rfl) ?_
    refine Oo u72 .calm rfl (rfl) ?_
    refine Oo u72 .look rfl (W1t rfl rfl rfl rfl) ?_
    refine Oo u72 .calm rfl (Zb (.inl rfl) rfl) ?_
    refine Oo u72 .calm rfl (W1g rfl rfl rfl rfl rfl rfl rfl) ?_
    refine Oo u72 .look rfl (W43 rfl rfl rfl rfl) ?_
    refine Oo u72 .look rfl (W1x rfl rfl rfl rfl rfl) ?_
    refine Oo u72 .grow rfl (Zs rfl rfl (by decide) rfl) ?_
    refine O_opXI (fun _ G => .turn _ G) rfl rfl rfl (Ym rfl rfl rfl rfl rfl rfl rfl (by simp) hv9 rfl rfl (by decide) (by show (_ + 1) * 40 ≤ _ ∧ _ + 1 ≤ _; omega) (by decide)) (fun _ _ => rfl) ?_
    rintro _ _ ⟨Y1, rfl, rfl, hY1, hY2, hY3⟩
    refine O_env (env' := u72) rfl ?_
    refine Oo u72 .calm rfl (W1g rfl rfl rfl rfl rfl rfl rfl) ?_
    refine Oo u72 .turn rfl (W44 rfl rfl rfl rfl rfl rfl rfl) ?_
    refine ZR [_] (by rfl) (And.intro (And.intro (W1t rfl rfl rfl rfl) (W1t rfl rfl rfl rfl)) trivial) ?_
    refine ZG (Zc (Za ?_))
    refine Lo u72 (W14 rfl rfl rfl) ?_
    refine Lo u72 (Zb (.inl rfl) rfl) ?_
    refine Zf ?_
    refine Zz (mk 72 4722365490010645331679) (env' := u72) rfl ⟨s + 1, ?_, rfl, ?_⟩
    ·first | omega | (simp only []; omega)
    ·exact ⟨by omega, _, _, rfl, RW.step hr hi hY2 hY3⟩
   ·try simp only [qB, qN] at hc3
    refine ZL (ZJ (ZB (ZK (ZG (Zc (Za ?_))))))
    refine Lo u72 (W14 rfl rfl rfl) ?_
    refine Lo u72 (Zb (.inl rfl) rfl) ?_
    refine Zf ?_
    refine Zz (mk 72 4722366475173063819231) (env' := u72) rfl ⟨m + 1, ?_, rfl, ?_⟩
    ·first | omega | (simp only []; omega)
    ·(obtain rfl : s = (p.rules.getD m r0).steps.length := by omega); exact ⟨by omega, Z, vs, rfl, hr⟩
  ·try simp only [qB, qN] at hc2
   refine ZL (ZJ (ZB (ZK (Zc (Zd ?_)))))
   obtain rfl : m = p.rules.length := by omega
   refine B_ghRW 1 hr rfl (by simp) fun Z9 => ?_
   refine Yg (Gh.cellL (l := (Yi p).map fzR) 2 2 1 rfl rfl (by decide) rfl (cellsAt_all (by rw [List.length_map]; exact addR_len.symm)) (Nat.le_refl _)) ?_
   refine Yg (Gh.freezePtrL (cs := huC p.users (fzW (wsP p)) (.fsl ((Yi p).map fzR) p.who.length 1 false) y) 5 2 rfl rfl rfl) ?_
   rw [show huC p.users (fzW (wsP p)) (.fsl ((Yi p).map fzR) p.who.length 1 false) y = huC p.users (fzW (wsP p)) (fzRR (Yi p)) y by unfold fzRR; rw [show (Yi p).length = p.who.length from addR_len]]
   refine Za ?_
   refine Lo u72 (Zb (.inl rfl) rfl) ?_
   refine Lo u72 (Zb (.inr rfl) rfl) ?_
   refine Zf (Zc (Zn ?_))
   refine W45 (.inr rfl) (Zi rfl rfl) ?_
   exact ⟨rfl, rfl⟩
theorem W46 {S : V.Sys} {H : Ze} {fn : Func} {ex : Exit} {env : VEnv} {B L : Ze} {v : VVal} {R : VVal → Ze → Prop} (hx : ex = .normal ∨ ex = .ret) (hv : Z6 S.C.T env (B ++ L) fn.results = some v) (h : R v B) (hB : BaseOk H B := by exact XH43) (hu : v.under H.length = true := by first | rfl | exact rc_under _ _) : fnK S fn H R ex env (B ++ L) := E_app hx hv hB hu h
theorem Clip_spec {x : SW} (H : Ze) (us : List Nat) : F (psys x) 136 [fzN us] H fun v G => v = .fsl (rcN us) us.length 1 true ∧ G = H := by
 refine Zy Tryd.func136 rfl u9 rfl ?_
 refine Zd (Za ?_)
 refine Lo u9 (Zj (VVal.slice none 0 0 true 0) (.inr rfl) rfl) ?_
 refine Zf (Zc (Zd (Za ?_)))
 refine Lo u9 (Zb (.inl rfl) rfl) ?_
 refine Lo u9 (Zb (.inl rfl) rfl) ?_
 refine Lo u9 (rfl) ?_
 refine Lo u9 (Zb (.inl rfl) rfl) ?_
 refine Lo u9 (rfl) ?_
 refine Lo u9 (v_clipN rfl rfl rfl rfl rfl rfl rfl rfl) ?_
 refine Lo u9 (Zb (.inr rfl) rfl) ?_
 refine Zf (Zc (Zn ?_))
 refine W46 (.inr rfl) (Zi rfl rfl) ?_
 exact ⟨rfl, rfl⟩
abbrev eaD (r : Bool) : Ze := [.dead, .dead, .dead, .dead, .dead, .cells [.bool r] true, .dead]
def EaP (y : Nat) (K : Bool → Ze → Prop) (A L : Ze) (v : VVal) (G : Ze) : Prop := ∃ b A1 J, v = .bool b ∧ G = A1 ++ (L ++ J) ∧ A1.length = A.length ∧ K b A1 ∧ (b = true → ∃ g1, A1[y]? = some (gaB g1))
theorem hfull_in {x : SW} {H L : Ze} {u : Int} {ws rs : VVal} {y : Nat} {g : Gz} (hs : H[y]? = some (gaB g)) (l : List (BitVec 64)) (t : BitVec 64) (hl : l.length ≤ 1000000) : F (psys x) 87 [huP u ws rs y, fzW l, iW t] (H.set y (gaB (g + ⟨0, 1, 0⟩)) ++ L) fun v G =>
    (v = .bool true ∧ YA l t = true ∧ G = H.set y (gaB (g + (⟨0, 1, 0⟩ + fuG l t))) ++ L) ∨ (v = .bool false ∧ YA l t = false ∧ G = H.set y (gaB (g + (⟨0, 1, 0⟩ + fuG l t))) ++ L) := by
  have hy := ZD hs
  refine (hfull_spec _ y (g + ⟨0, 1, 0⟩) (Zq (List.getElem?_set_self hy)) l t hl).mono ?_
  rintro v G ⟨rfl, rfl⟩
  rw [Yn XH24, List.set_set, Gz.assoc]
  cases h : YA l t
  · exact .inr ⟨rfl, rfl, rfl⟩
  · exact .inl ⟨rfl, rfl, rfl⟩
theorem ea_get {A A1 L Y : Ze} {n : Nat} {k : VBlk} (hA : A1.length = A.length) (hn : n = (A ++ L).length + 5) (h : Y[5]? = some k) : (A1 ++ (L ++ Y))[n]? = some k := by
  rw [hn, List.length_append, Nat.add_assoc]; exact getE (i := 5) hA rfl h
theorem ea_set {A A1 L Y : Ze} {n : Nat} {k : VBlk} (hA : A1.length = A.length) (hn : n = (A ++ L).length + 5) : (A1 ++ (L ++ Y)).set n k = A1 ++ (L ++ Y.set 5 k) := by
  rw [hn, List.length_append, Nat.add_assoc]; exact setE (i := 5) hA rfl
theorem set_add0 {A : Ze} {y : Nat} {g : Gz} (h : A[y]? = some (gaB g)) : A.set y (gaB (g + 0)) = A := by
  rw [Gz.add_zero, ← set_keep h]
theorem ea_end {S : V.Sys} {l y : Nat} {b : Bool} {A1 : Ze} {K : Bool → Ze → Prop} (hk : if b = true then (∃ g1, A1[y]? = some (gaB g1)) ∧ IterP S l y [] 0 A1 K else K false A1) : K b A1 ∧ (b = true → ∃ g1, A1[y]? = some (gaB g1)) := by
  cases b with
  | false => exact ⟨hk, fun e => by cases e⟩
  | true =>
    obtain ⟨⟨g2, hg2⟩, hk⟩ := hk
    have h := hk g2 hg2
    rw [set_add0 hg2] at h
    exact ⟨h, fun _ => ⟨g2, hg2⟩⟩
theorem each_in {x : SW} {A Z : Ze} {y l u : Nat} {hu : VVal} {rows : List (BitVec 64)} {us : List Nat} {t : BitVec 64} {K : Bool → Ze → Prop} {n c : Nat} (h : F (psys x) 121 [hu, fzW rows, fzN (us ++ [u]), iW t, .yield l] (A ++ (Z ++ [.dead])) (EaP y K A (Z ++ [.dead]))) (hn : n = us.length + 1) (hc : c = n) :
    F (psys x) 121 [hu, fzW rows, .slice (some (A.length + Z.length, 0)) n c false 1, iW t, .yield l] (A ++ (Z ++ [.cells (rcN us ++ [iI (u : Nat)]) true])) (EaP y K A (Z ++ [.dead])) := by
  subst hc; subst hn
  refine F.pre (Gh.freezeL (H := A) (L := Z ++ [.cells (rcN us ++ [iI (u : Nat)]) true]) (l := rcN (us ++ [u])) (vs' := [hu, fzW rows, fzN (us ++ [u]), iW t, .yield l]) 2 Z.length rfl get_end (by rw [← rcN_snoc]; exact cellsAt_all (by simp)) (Nat.le_refl _) (by simp [rcN_snoc])) ?_
  rw [set_end]; exact h
theorem W47 {T : TypeId → Option VTy} {H : Ze} {op : Op} {ρ : Operand → VVal} {t : TypeId} {a : Operand} {y : VTy} {p v : VVal} (ho : op = .load t a) (ha : ρ a = p) (hy : T t = some y) (hd : Zm y.desc = false) (h : LdOk H p v := by first | exact .inl ⟨_, _, rfl, by first | rfl | assumption⟩ | exact .inr ⟨_, _, _, _, rfl, XH35, by first | rfl | assumption⟩) : vop T ρ H op = some (v, H) := v_ld ho ha hy hd h
theorem W49 {T : TypeId → Option VTy} {H : Ze} {op : Op} {ρ : VEnv} {H' : Ze} {t : TypeId} {a : Operand} {i : Nat} {v : VVal} {y : VTy} {b off : Nat} {cs new : List VVal} (ho : op = .store t a (.tmp i)) (hv : ρ[i]? = some v) (ha : ρ.eval a = .ptr (some (b, off))) (hy : T t = some y) (hx : v.cells = some new) (hn : new.length = y.size) (h1 : new.all VVal.one = true) (hb : H[b]? = some (.cells cs true) := by exact ea_get (by assumption) rfl rfl) (hl : off + new.length ≤ cs.length := by exact XH38) (hH : H.set b (.cells (ZC cs off new) true) = H' := by exact ea_set (by assumption) rfl) : vop T ρ.eval H op = some (.skip, H') := Ya ho hv ha hy hx hn h1 hb hl hH
theorem W4b {T : TypeId → Option VTy} {H : Ze} {op : Op} {ρ : Operand → VVal} {t : TypeId} {a : Operand} {y : VTy} {p v : VVal} (ho : op = .load t a) (ha : ρ a = p) (hy : T t = some y) (hd : Zm y.desc = false) (h : LdOk H p v := by first | exact .inl ⟨_, _, rfl, by exact fgetN (α := BitVec 64) 0 (by omega)⟩ | exact .inr ⟨_, _, _, _, rfl, XH35, by exact fgetN (α := BitVec 64) 0 (by omega)⟩) : vop T ρ H op = some (v, H) := v_ld ho ha hy hd h
theorem W4c {T : TypeId → Option VTy} {H : Ze} {op : Op} {ρ : Operand → VVal} {t : TypeId} {a : Operand} {y : VTy} {p v : VVal} (ho : op = .load t a) (ha : ρ a = p) (hy : T t = some y) (hd : Zm y.desc = false) (h : LdOk H p v := by first | exact .inl ⟨_, _, rfl, by first | rfl | assumption⟩ | exact .inr ⟨_, _, _, _, rfl, by exact Zq hg1, by first | rfl | assumption⟩) : vop T ρ H op = some (v, H) := v_ld ho ha hy hd h
theorem W4d {T : TypeId → Option VTy} {H : Ze} {op : Op} {ρ : VEnv} {H' : Ze} {t : TypeId} {a : Operand} {i : Nat} {v : VVal} {y : VTy} {b off : Nat} {cs new : List VVal} (ho : op = .store t a (.tmp i)) (hv : ρ[i]? = some v) (ha : ρ.eval a = .ptr (some (b, off))) (hy : T t = some y) (hx : v.cells = some new) (hn : new.length = y.size) (h1 : new.all VVal.one = true) (hb : H[b]? = some (.cells cs true) := by exact Zq hg1) (hl : off + new.length ≤ cs.length := by exact XH38) (hH : H.set b (.cells (ZC cs off new) true) = H' := by exact ga_p1 hg1) : vop T ρ.eval H op = some (.skip, H') := Ya ho hv ha hy hx hn h1 hb hl hH
theorem W4f {P : Prop} (h : P := by first | exact ⟨true, A0, _, rfl, rfl, hA0, hI, fun _ => ⟨g1, hg1⟩⟩ | exact ⟨false, A0, _, rfl, rfl, hA0, hX, fun e => by cases e⟩) : P := h
theorem each_0 {x : SW} {u : Int} {ws rs : VVal} (y l : Nat) (rows : List (BitVec 64)) (hr : rows.length ≤ 1000000) (A L : Ze) (us : List Nat) (taken : BitVec 64) (g : Gz) (K : Bool → Ze → Prop) (hs : A[y]? = some (gaB g)) (hI : IterP (psys x) l y (tv (usT (rows.drop us.length) us taken)) (usT (rows.drop us.length) us taken).2 A K) (hl : us.length = rows.length) : F (psys x) 121 [huP u ws rs y, fzW rows, fzN us, iW taken, .yield l] (A ++ L) (EaP y K A L) := by
 have e5 : (A ++ L).length + 5 = A.length + (L.length + 5) := by rw [List.length_append]; omega
 have eA : A.length = A.length := rfl
 refine Zy Tryd.func121 rfl u67 rfl ?_
 refine Zd (Za ?_)
 refine Lo u67 (ZE rfl rfl rfl) ?_
 refine Lo u67 (ZE rfl rfl rfl) ?_
 refine Lo u67 (ZE rfl rfl rfl) ?_
 refine Lo u67 (ZE rfl rfl rfl) ?_
 refine Lo u67 (ZE rfl rfl rfl) ?_
 refine Lo u67 (Zw rfl rfl) ?_
 refine Zf (Zc (Zd ?_))
 refine Yg (Gh.freezePtrL (cs := [huP u ws rs y]) 5 0 rfl rfl rfl) ?_
 refine Yg (Gh.freezePtrL (cs := [fzW rows]) 6 1 rfl rfl rfl) ?_
 refine Yg (Gh.freezePtrL (cs := [fzN us]) 7 2 rfl rfl rfl) ?_
 refine Yg (Gh.freezePtrL (cs := [iW taken]) 8 3 rfl rfl rfl) ?_
 refine Yg (Gh.freezePtrL (cs := [.yield l]) 9 4 rfl rfl rfl) ?_
 refine Za ?_
 refine Lo u67 (W47 rfl rfl rfl rfl) ?_
 refine Lo u67 (rfl) ?_
 refine Lo u67 (Zw rfl rfl) ?_
 refine Lo u67 (W13 rfl rfl rfl rfl rfl rfl rfl) ?_
 refine Zf (Zc (Zd (Zd ?_)))
 refine Yg (Gh.freezePtrL (cs := [iI (us.length : Nat)]) 11 6 rfl rfl rfl) ?_
 refine ZW (H' := A ++ (L ++ eaD false)) (by simp; rfl) ?_
 refine Za ?_
 refine Lo u67 (W47 rfl rfl rfl rfl) ?_
 refine Lo u67 (W47 rfl rfl rfl rfl) ?_
 refine Lo u67 (rfl) ?_
 refine Lo u67 (v_is true rfl (by rw [hl]; simp)) ?_
 refine Zf (Zc ?_)
 refine ZV rfl rfl ?_
 refine Zd ?_
 rw [List.drop_eq_nil_of_le (by omega)] at hI
 refine Za ?_
 refine Lo u67 (W47 rfl rfl rfl rfl) ?_
 refine Lo u67 (W47 rfl rfl rfl rfl) ?_
 refine L_callV rfl rfl rfl (by have h9 := hI g hs (L ++ eaD false); rw [show usT [] us taken = ([(0, us)], 0) from rfl] at h9; exact (set_add0 hs) ▸ h9) ?_
 rintro _ G ⟨b, A1, J1, rfl, hG, hA1, hk⟩; obtain rfl : G = A1 ++ (L ++ (eaD false ++ J1)) := hG.trans (by simp)
 refine Le u67 ?_
 refine Lo u67 (W49 rfl rfl rfl rfl rfl rfl rfl) ?_
 refine Zf (Zc (Zn (Zu ?_)))
 refine E_keep (.inr rfl) (vres_cell rfl rfl rfl rfl XH28 (by rfl)) ?_
 exact ⟨b, A1, _, rfl, rfl, hA1, ea_end hk⟩
theorem each_s {x : SW} {u : Int} {ws rs : VVal} (y l : Nat) (rows : List (BitVec 64)) (hr : rows.length ≤ 1000000) (n : Nat) (ih : ∀ (A L : Ze) (us : List Nat) (taken : BitVec 64) (g : Gz) (K : Bool → Ze → Prop) (hs : A[y]? = some (gaB g)) (hI : IterP (psys x) l y (tv (usT (rows.drop us.length) us taken)) (usT (rows.drop us.length) us taken).2 A K), us.length + n = rows.length → F (psys x) 121 [huP u ws rs y, fzW rows, fzN us, iW taken, .yield l] (A ++ L) (EaP y K A L)) (A L : Ze) (us : List Nat) (taken : BitVec 64) (g : Gz) (K : Bool → Ze → Prop) (hs : A[y]? = some (gaB g)) (hI : IterP (psys x) l y (tv (usT (rows.drop us.length) us taken)) (usT (rows.drop us.length) us taken).2 A K) (hl : us.length + (n + 1) = rows.length) : F (psys x) 121 [huP u ws rs y, fzW rows, fzN us, iW taken, .yield l] (A ++ L) (EaP y K A L) := by
 have e5 : (A ++ L).length + 5 = A.length + (L.length + 5) := by rw [List.length_append]; omega
 have eA : A.length = A.length := rfl
 refine Zy Tryd.func121 rfl u67 rfl ?_
 refine Zd (Za ?_)
 refine Lo u67 (ZE rfl rfl rfl) ?_
 refine Lo u67 (ZE rfl rfl rfl) ?_
 refine Lo u67 (ZE rfl rfl rfl) ?_
 refine Lo u67 (ZE rfl rfl rfl) ?_
 refine Lo u67 (ZE rfl rfl rfl) ?_
 refine Lo u67 (Zw rfl rfl) ?_
 refine Zf (Zc (Zd ?_))
 refine Yg (Gh.freezePtrL (cs := [huP u ws rs y]) 5 0 rfl rfl rfl) ?_
 refine Yg (Gh.freezePtrL (cs := [fzW rows]) 6 1 rfl rfl rfl) ?_
 refine Yg (Gh.freezePtrL (cs := [fzN us]) 7 2 rfl rfl rfl) ?_
 refine Yg (Gh.freezePtrL (cs := [iW taken]) 8 3 rfl rfl rfl) ?_
 refine Yg (Gh.freezePtrL (cs := [.yield l]) 9 4 rfl rfl rfl) ?_
 refine Za ?_
 refine Lo u67 (W47 rfl rfl rfl rfl) ?_
 refine Lo u67 (rfl) ?_
 refine Lo u67 (Zw rfl rfl) ?_
 refine Lo u67 (W13 rfl rfl rfl rfl rfl rfl rfl) ?_
 refine Zf (Zc (Zd (Zd ?_)))
 refine Yg (Gh.freezePtrL (cs := [iI (us.length : Nat)]) 11 6 rfl rfl rfl) ?_
 refine ZW (H' := A ++ (L ++ eaD false)) (by simp; rfl) ?_
 refine Za ?_
 refine Lo u67 (W47 rfl rfl rfl rfl) ?_
 refine Lo u67 (W47 rfl rfl rfl rfl) ?_
 refine Lo u67 (rfl) ?_
 refine Lo u67 (v_is false rfl (by simp; omega)) ?_
 refine Zf (Zc ?_)
 refine ZA rfl rfl ?_
 refine Zl (Zc (Zd (Zd ?_)))
 rw [show rows.drop us.length = rows.getD us.length 0 :: rows.drop (us.length + 1) by rw [List.drop_eq_getElem_cons (by omega), List.getD_eq_getElem?_getD, List.getElem?_eq_getElem (by omega)]; rfl, usT] at hI
 refine ZS [0, 1, 2, 3, 4, 5, 6, 7] #[0, 0, 3, 7, 0, 31, 63, 127] XH2 XH2 XH2 ?_
 refine Oo u67 .look rfl (W47 rfl rfl rfl rfl) ?_
 refine Oo u67 .look rfl (W47 rfl rfl rfl rfl) ?_
 refine Oo u67 .calm rfl (W18 rfl rfl rfl rfl rfl rfl rfl) ?_
 refine Oo u67 .look rfl (W4b rfl rfl rfl rfl) ?_
 refine Oo u67 .look rfl (W47 rfl rfl rfl rfl) ?_
 refine Oo u67 .calm rfl (v_andNotW rfl rfl rfl) ?_
 refine Ye (env' := u67) rfl rfl rfl rfl rfl (by exact hset_spec _ _) XH6 rfl rfl ?_
 refine Ye (env' := u67) rfl rfl rfl rfl rfl (by exact All_spec _ _) XH6 rfl rfl ?_
 refine ZR [] XH2 (trivial) ?_
 refine Zc (Zp ?_)
 refine ZI (mk 67 147573952589139537951) (env' := u67) rfl ?_
 refine B_rangeM cI (pl (rows.getD us.length 0 &&& ~~~taken) 0) (fun l0 h => by cases h) rfl (fun l G R h => All1_spec _ _ _ _ h) (σ := {q : Ze × Ze // q.1.length = A.length}) (fun k s => s.1.1 ++ (L ++ ([.dead, .dead, .dead, .dead, .dead, .cells [.bool false] true, .dead] ++ k :: s.1.2))) ⟨(A, []), rfl⟩ (fun k => by simp) (fun k s => by rw [show (A ++ (L ++ eaD false)).length = A.length + (L.length + 7) by simp]; exact getE (i := 7) s.2 rfl rfl) (fun k k1 s => by rw [show (A ++ (L ++ eaD false)).length = A.length + (L.length + 7) by simp]; exact setE (i := 7) s.2 rfl) (fun pre s => ∃ z, (pl (rows.getD us.length 0 &&& ~~~taken) 0) = pre ++ z ∧ (∃ g1, s.1.1[y]? = some (gaB g1)) ∧ IterP (psys x) l y (tv (usF (fun u => usT (rows.drop (us.length + 1)) (us ++ [u]) (taken ||| 1#64 <<< u)) (rows.drop (us.length + 1)) taken z)) (usF (fun u => usT (rows.drop (us.length + 1)) (us ++ [u]) (taken ||| 1#64 <<< u)) (rows.drop (us.length + 1)) taken z).2 s.1.1 K) ?_ (fun j pre c s => (j = Code.ret ∧ (K false s.1.1))) rfl ?_ ?_ ?_
 ·exact ⟨_, rfl, ⟨g, hs⟩, hI⟩
 ·intro pre c post s hx hI kr kb hkr hkb
  obtain ⟨⟨A0, J0⟩, hA0⟩ := s
  try dsimp only at hI ⊢
  have hA0 : A0.length = A.length := hA0
  obtain ⟨z, hz, ⟨g1, hg1⟩, hI⟩ := hI
  obtain rfl : z = c :: post := List.append_cancel_left (hz.symm.trans hx)
  have hcx : c ∈ (pl (rows.getD us.length 0 &&& ~~~taken) 0) := by rw [hx]; simp
  obtain ⟨_, hc64, _⟩ := mem_pl.1 hcx
  rw [usF] at hI
  refine ZZ (env' := u67) rfl ?_
  refine Za ?_
  refine Lo u67 (Zb (.inr rfl) rfl) ?_
  refine Zf ?_
  refine ⟨rfl, ⟨(A0, J0), hA0⟩, rfl, ?_⟩
  try dsimp only
  refine Zp (Zd (Za ?_))
  refine Lo u67 (W47 rfl rfl rfl rfl) ?_
  refine Lo u67 (rfl) ?_
  refine Lo u67 (rfl) ?_
  refine Lo u67 (W47 rfl rfl rfl rfl) ?_
  refine Lo u67 (rfl) ?_
  refine Lo u67 (rfl) ?_
  refine Lo u67 (W4c rfl rfl rfl rfl) ?_
  refine Lo u67 (v_addW (b := 1#64) rfl rfl rfl) ?_
  refine Lo u67 (rfl) ?_
  refine Lo u67 (rfl) ?_
  refine Lo u67 (W4d rfl rfl rfl rfl rfl rfl rfl) ?_
  refine Zf (Zc (Zd ?_))
  refine B_drawP #[0, 0, 0, 4, 14, 0, 0, 64, 224, 511, 1023, 2047, 2047, 2047, 10239, 2047, 34815, 124927, 2047, 2047, 526335, 1837055, 2047, 8388607, 16777215, 33554431] XH2 ?_
  refine P_seg [0, 1, 2, 3, 4, 5, 6, 7, 8] (bef := #[0, 0, 0, 4, 14, 0, 0, 64, 224, 511, 1023, 2047, 2047, 2047, 10239, 2047, 34815, 124927, 2047, 2047, 526335, 1837055, 2047, 8388607, 16777215, 33554431]) XH2 XH2 XH2 ?_
  refine Oo u67 .look rfl (W47 rfl rfl rfl rfl) ?_
  refine Oo u67 .look rfl (W47 rfl rfl rfl rfl) ?_
  refine Oo u67 .look rfl (W47 rfl rfl rfl rfl) ?_
  refine Oo u67 .calm rfl (W14 rfl rfl rfl) ?_
  refine Oo u67 .calm rfl (v_wLo (k := us.length + 1) rfl rfl rfl rfl rfl rfl rfl (by simp) (by omega)) ?_
  refine Oo u67 .look rfl (W47 rfl rfl rfl rfl) ?_
  refine Oo u67 .calm rfl (Zb (.inl rfl) rfl) ?_
  refine Oo u67 .calm rfl (v_shl1 rfl rfl rfl XH3) ?_
  refine Oo u67 .calm rfl (v_orW rfl rfl rfl) ?_
  refine ZR [] XH2 (trivial) ?_
  refine P_call 9 (bef := #[0, 0, 0, 4, 14, 0, 0, 64, 224, 511, 1023, 2047, 2047, 2047, 10239, 2047, 34815, 124927, 2047, 2047, 526335, 1837055, 2047, 8388607, 16777215, 33554431]) XH2 XH2 rfl rfl rfl rfl (by exact hfull_in hg1 (rows.drop (us.length + 1)) _ (by rw [List.length_drop]; omega)) ?_
  rintro _ _ (⟨rfl, hf, rfl⟩ | ⟨rfl, hf, rfl⟩)
  ·skip
   refine P_env (env' := u67) rfl ?_
   refine P_seg [10, 11, 12, 13, 15, 16, 18, 19, 20, 21, 22, 14, 17] (bef := #[0, 0, 0, 4, 14, 0, 0, 64, 224, 511, 1023, 2047, 2047, 2047, 10239, 2047, 34815, 124927, 2047, 2047, 526335, 1837055, 2047, 8388607, 16777215, 33554431]) XH2 XH2 XH2 ?_
   refine Oo u67 .calm rfl (Zb (.inl rfl) rfl) ?_
   refine Yp (env' := u67) (x := .look _ _) rfl rfl rfl (W47 rfl rfl rfl rfl) rfl rfl rfl ?_
   refine Yp (env' := u67) (x := .look _ _) rfl rfl rfl (W47 rfl rfl rfl rfl) rfl rfl rfl ?_
   refine Oo u67 .look rfl (W47 rfl rfl rfl rfl) ?_
   refine Oo u67 .calm rfl (Zb (.inl rfl) rfl) ?_
   refine Yp (env' := u67) (x := .grow _) rfl rfl rfl (Zs rfl rfl (by decide) rfl) rfl rfl rfl ?_
   refine Yp (env' := u67) (x := .look _ _) rfl rfl rfl (W47 rfl rfl rfl rfl) rfl rfl rfl ?_
   refine Oo u67 .calm rfl (Zb (.inl rfl) rfl) ?_
   refine Oo u67 .calm rfl (v_shl1 rfl rfl rfl XH3) ?_
   refine Oo u67 .calm rfl (v_orW rfl rfl rfl) ?_
   refine Yp (env' := u67) (x := .look _ _) rfl rfl rfl (W47 rfl rfl rfl rfl) rfl rfl rfl ?_
   refine Ye (env' := u67) rfl rfl rfl rfl rfl (by exact Clip_spec _ _) XH6 rfl rfl ?_
   refine Yp (env' := u67) (x := .turn _ _) rfl rfl rfl (v_appFX (c := iI ((c : Nat) : Int)) rfl rfl rfl rfl rfl rfl rfl rfl get_end rfl (by simp) (by show (us.length + 1) * 8 ≤ _ ∧ _; omega)) rfl rfl rfl ?_
   refine ZR [_, _, _, _, _, _, _, _, _] (by rfl) (And.intro (And.intro (W47 rfl rfl rfl rfl) (W47 rfl rfl rfl rfl)) (And.intro (And.intro (W47 rfl rfl rfl rfl) (W47 rfl rfl rfl rfl)) (And.intro (And.intro (W47 rfl rfl rfl rfl) (W47 rfl rfl rfl rfl)) (And.intro (And.intro (W47 rfl rfl rfl rfl) (W47 rfl rfl rfl rfl)) (And.intro ((by first | exact rfl | simp)) (And.intro (And.intro (W47 rfl rfl rfl rfl) (W47 rfl rfl rfl rfl)) (And.intro (And.intro (W47 rfl rfl rfl rfl) (W47 rfl rfl rfl rfl)) (And.intro (And.intro (W47 rfl rfl rfl rfl) (W47 rfl rfl rfl rfl)) (And.intro (And.intro (W47 rfl rfl rfl rfl) (W47 rfl rfl rfl rfl)) trivial))))))))) ?_
   refine P_call 23 (bef := #[0, 0, 0, 4, 14, 0, 0, 64, 224, 511, 1023, 2047, 2047, 2047, 10239, 2047, 34815, 124927, 2047, 2047, 526335, 1837055, 2047, 8388607, 16777215, 33554431]) XH2 XH2 rfl rfl rfl rfl (by have hIf := hI; rw [if_pos (show YA _ (taken ||| 1#64 <<< c) = true from hf)] at hIf; have hIc := IterP.catT (xs := (usT (rows.drop (us.length + 1)) (us ++ [c]) (taken ||| 1#64 <<< c)).1) (da := (usT (rows.drop (us.length + 1)) (us ++ [c]) (taken ||| 1#64 <<< c)).2) (IterP.addF hg1 hIf); exact each_in (ih _ _ (us ++ [c]) (taken ||| 1#64 <<< c) (g1 + (⟨0, 1, 0⟩ + fuG (rows.drop (us.length + 1)) (taken ||| 1#64 <<< c))) _ (List.getElem?_set_self (ZD hg1)) (by rw [List.length_append]; exact hIc) (by simp; omega)) rfl rfl) ?_
   rintro _ G ⟨b, A2, J2, rfl, hG, hA2, hk2, hg2⟩; have hA3 : A2.length = A.length := hA2.trans (by rw [List.length_set]; exact hA0); obtain rfl : G = A2 ++ (L ++ ([.dead, .dead, .dead, .dead, .dead, .cells [.bool false] true, .dead] ++ kb :: (J0 ++ [.cells [iI (c : Nat)] true, .dead] ++ J2))) := hG.trans (by simp; rfl); cases b; rotate_left
   ·skip
    refine P_env (env' := u67) rfl ?_
    refine P_seg [24, 25] (bef := #[0, 0, 0, 4, 14, 0, 0, 64, 224, 511, 1023, 2047, 2047, 2047, 10239, 2047, 34815, 124927, 2047, 2047, 526335, 1837055, 2047, 8388607, 16777215, 33554431]) XH2 XH2 XH2 ?_
    refine Oo u67 .calm rfl (rfl) ?_
    refine Oo u67 .calm rfl (Zx rfl rfl rfl) ?_
    refine ZR [] XH2 (trivial) ?_
    refine P_end XH2 ?_
    refine Zc ?_
    refine ZA rfl rfl ?_
    refine Zl (ZG ?_)
    refine ⟨⟨(A2, _), hA3⟩, rfl, .inl ⟨rfl, ?_⟩⟩
    exact ⟨post, by rw [hx, List.append_assoc]; rfl, hg2 rfl, hk2⟩
   ·skip
    refine P_env (env' := u67) rfl ?_
    refine P_seg [24, 25] (bef := #[0, 0, 0, 4, 14, 0, 0, 64, 224, 511, 1023, 2047, 2047, 2047, 10239, 2047, 34815, 124927, 2047, 2047, 526335, 1837055, 2047, 8388607, 16777215, 33554431]) XH2 XH2 XH2 ?_
    refine Oo u67 .calm rfl (rfl) ?_
    refine Oo u67 .calm rfl (Zx rfl rfl rfl) ?_
    refine ZR [] XH2 (trivial) ?_
    refine P_end XH2 ?_
    refine Zc ?_
    refine ZV rfl rfl ?_
    refine Zd (Za ?_)
    refine Lo u67 (YD (VVal.bool false) rfl rfl rfl rfl rfl rfl rfl XH28 XH4 (by exact ea_set (by assumption) rfl)) ?_
    refine Zf (Zc (Zn (ZU ?_)))
    refine ⟨⟨(A2, _), hA3⟩, rfl, .inr ⟨Code.ret, rfl, ⟨rfl, ?_⟩⟩⟩
    exact hk2
  ·skip
   refine P_env (env' := u67) rfl ?_
   refine P_seg [10, 11, 12, 13, 15, 16, 18, 19, 20, 21, 22, 14, 17] (bef := #[0, 0, 0, 4, 14, 0, 0, 64, 224, 511, 1023, 2047, 2047, 2047, 10239, 2047, 34815, 124927, 2047, 2047, 526335, 1837055, 2047, 8388607, 16777215, 33554431]) XH2 XH2 XH2 ?_
   refine Oo u67 .calm rfl (Zb (.inl rfl) rfl) ?_
   refine Of u67 rfl ?_
   refine Of u67 rfl ?_
   refine Of u67 rfl ?_
   refine Of u67 rfl ?_
   refine Of u67 rfl ?_
   refine Of u67 rfl ?_
   refine Of u67 rfl ?_
   refine Of u67 rfl ?_
   refine Of u67 rfl ?_
   refine Of u67 rfl ?_
   refine Of u67 rfl ?_
   refine Of u67 rfl ?_
   refine ZR [] XH2 (trivial) ?_
   refine P_seg [23, 24, 25] (bef := #[0, 0, 0, 4, 14, 0, 0, 64, 224, 511, 1023, 2047, 2047, 2047, 10239, 2047, 34815, 124927, 2047, 2047, 526335, 1837055, 2047, 8388607, 16777215, 33554431]) XH2 XH2 XH2 ?_
   refine Of u67 rfl ?_
   refine Of u67 rfl ?_
   refine Oo u67 .calm rfl (Zv (VVal.bool false) rfl rfl rfl) ?_
   refine ZR [] XH2 (trivial) ?_
   refine P_end XH2 ?_
   refine Zc ?_
   refine ZA rfl rfl ?_
   refine Zl (ZG ?_)
   refine ⟨⟨(A0.set y (gaB (g1 + (⟨0, 1, 0⟩ + fuG (rows.drop (us.length + 1)) (taken ||| 1#64 <<< c)))), J0), by rw [List.length_set]; exact hA0⟩, rfl, .inl ⟨rfl, ?_⟩⟩
   exact ⟨post, by rw [hx, List.append_assoc]; rfl, ⟨_, List.getElem?_set_self (ZD hg1)⟩, by rw [if_neg (nof (show YA _ (taken ||| 1#64 <<< c) = false from hf))] at hI; exact IterP.addF hg1 hI⟩
 ·intro s k hk hI
  obtain ⟨⟨A0, J0⟩, hA0⟩ := s
  try dsimp only at hI ⊢
  have hA0 : A0.length = A.length := hA0
  obtain ⟨z, hz, ⟨g1, hg1⟩, hI⟩ := hI
  obtain rfl : z = [] := by simpa using hz
  have hI := hI g1 hg1
  rw [show usF _ _ _ [] = ([], 0) from rfl, set_add0 hg1] at hI
  refine ZG (Zc (Zd (Za ?_)))
  refine Lo u67 (YD (VVal.bool true) rfl rfl rfl rfl rfl rfl rfl XH28 XH4 (by exact ea_set (by assumption) rfl)) ?_
  refine Zf (Zc (Zn ?_))
  refine E_keep (.inr rfl) (vres_cell rfl rfl rfl rfl XH28 (by rfl)) ?_
  exact W4f
 ·rintro j pre c post s k hk hx (⟨rfl, hX⟩)
  obtain ⟨⟨A0, J0⟩, hA0⟩ := s
  try dsimp only
  have hA0 : A0.length = A.length := hA0
  refine J_ret ?_
  refine ZU (Zu ?_)
  refine E_keep (.inr rfl) (vres_cell rfl rfl rfl rfl XH28 (by rfl)) ?_
  exact W4f
theorem each_spec {x : SW} {u : Int} {ws rs : VVal} (y l : Nat) (rows : List (BitVec 64)) (hr : rows.length ≤ 1000000) : ∀ (n : Nat) (A L : Ze) (us : List Nat) (taken : BitVec 64) (g : Gz) (K : Bool → Ze → Prop) (hs : A[y]? = some (gaB g)) (hI : IterP (psys x) l y (tv (usT (rows.drop us.length) us taken)) (usT (rows.drop us.length) us taken).2 A K), us.length + n = rows.length → F (psys x) 121 [huP u ws rs y, fzW rows, fzN us, iW taken, .yield l] (A ++ L) (EaP y K A L)
  | 0, A, L, us, taken, g, K, hs, hI, hl => each_0 y l rows hr A L us taken g K hs hI hl
  | n + 1, A, L, us, taken, g, K, hs, hI, hl => each_s y l rows hr n (fun A L us taken g K a b c => each_spec y l rows hr n A L us taken g K a b c) A L us taken g K hs hI hl
abbrev u36 {a0 a1 a2 a3 a4 a5 a6 a7 a8 a9 a10 a11 a12 a13 a14 a15 a16 a17 a18 a19 a20 a21 a22 a23 a24 a25 a26 a27 a28 a29 a30 a31 a32 a33 a34 a35 : VVal} : VEnv := a0 :: a1 :: a2 :: a3 :: a4 :: a5 :: a6 :: a7 :: a8 :: a9 :: a10 :: a11 :: a12 :: a13 :: a14 :: a15 :: a16 :: a17 :: a18 :: a19 :: a20 :: a21 :: a22 :: a23 :: a24 :: a25 :: a26 :: a27 :: a28 :: a29 :: a30 :: a31 :: a32 :: a33 :: a34 :: a35 :: []
theorem W4g {S : V.Sys} {H : Ze} {fn : Func} {ex : Exit} {env : VEnv} {B L : Ze} {v : VVal} {R : VVal → Ze → Prop} (hx : ex = .normal ∨ ex = .ret) (hv : Z6 S.C.T env (B ++ L) fn.results = some v) (h : R v B) (hB : BaseOk H B := by exact XH43) (hu : v.under H.length = true := by show (true && (((huP u (fzW ws) (fzRR rss) y).under _ && true) && ((fzW rows).under _ && true && true))) = true; rw [huUnder hy, show (fzW rows).under _ = true from fzW_under _ _]; rfl) : fnK S fn H R ex env (B ++ L) := E_app hx hv hB hu h
theorem W4h {S : V.Sys} {H : Ze} {fn : Func} {ex : Exit} {env : VEnv} {B L : Ze} {v : VVal} {R : VVal → Ze → Prop} (hx : ex = .normal ∨ ex = .ret) (hv : Z6 S.C.T env (B ++ L) fn.results = some v) (h : R v B) (hB : BaseOk H B := by exact XH43) (hu : v.under H.length = true := by show (true && (((huP u (fzW ws) (fzRR rss) y).under _ && true) && ((fzN a).under _ && true && true))) = true; rw [huUnder hy, show (fzN a).under _ = true from mapN_under _ _]; rfl) : fnK S fn H R ex env (B ++ L) := E_app hx hv hB hu h
theorem W4j {T : TypeId → Option VTy} {H : Ze} {op : Op} {ρ : Operand → VVal} {t : TypeId} {a : Operand} {y : VTy} {p v : VVal} (ho : op = .load t a) (ha : ρ a = p) (hy : T t = some y) (hd : Zm y.desc = false) (h : LdOk H p v := by first | exact .inl ⟨_, _, rfl, by first | rfl | assumption | exact fgetN (α := Nat) 0 (by omega)⟩ | exact .inr ⟨_, _, _, _, rfl, XH35, by first | rfl | assumption | exact fgetN (α := Nat) 0 (by omega)⟩) : vop T ρ H op = some (v, H) := v_ld ho ha hy hd h
theorem W4l {T : TypeId → Option VTy} {H : Ze} {op : Op} {ρ : VEnv} {H' : Ze} {t : TypeId} {a : Operand} {i : Nat} {v : VVal} {y : VTy} {b off : Nat} {cs new : List VVal} (ho : op = .store t a (.tmp i)) (hv : ρ[i]? = some v) (ha : ρ.eval a = .ptr (some (b, off))) (hy : T t = some y) (hx : v.cells = some new) (hn : new.length = y.size) (h1 : new.all VVal.one = true) (hb : H[b]? = some (.cells cs true) := by exact XH35) (hl : off + new.length ≤ cs.length := by show 0 + k * 1 + 1 ≤ _; rw [List.length_map, plK_len (by omega)]; omega) (hH : H.set b (.cells (ZC cs off new) true) = H' := by exact (setE0 rfl rfl).trans (by show _ ++ (_ ++ [VBlk.cells (ZC (rcN (plK a us k)) (0 + k * 1) [iI ((us.getD (a.getD k 0) 0 : Nat) : Int)]) true]) = _; rw [spl_N (by rw [plK_len (by omega)]; omega)])) : vop T ρ.eval H op = some (.skip, H') := Ya ho hv ha hy hx hn h1 hb hl hH
theorem W4n {P : Prop} (h : P := by first | exact ⟨true, _, [.dead, k] ++ J9, by rw [List.append_assoc], hI g0 hg0⟩ | exact ⟨false, _, [.dead, k] ++ J9, by rw [List.append_assoc], hX⟩) : P := h
theorem Users_spec {x : SW} (H : Ze) {u : Int} {ws : List (BitVec 64)} {rss : List (List Rul)} (y : Nat) (hy : y < H.length) (rows : List (BitVec 64)) : F (psys x) 89 [huP u (fzW ws) (fzRR rss) y, fzW rows] H fun v G => v = .func 120 [] [.fptr [huP u (fzW ws) (fzRR rss) y] 0, .fptr [fzW rows] 0] ∧ G = H := by
 refine Zy Tryd.func89 rfl u6 rfl ?_
 refine Zd (Za ?_)
 refine Lo u6 (ZE rfl rfl rfl) ?_
 refine Lo u6 (ZE rfl rfl rfl) ?_
 refine Lo u6 (Zj (VVal.nilFunc) (.inr rfl) rfl) ?_
 refine Zf (Zc (Zd (Za ?_)))
 refine L_gh (Gh.freezePtrL (cs := [huP u (fzW ws) (fzRR rss) y]) 2 0 rfl rfl rfl) ?_
 refine L_gh (Gh.freezePtrL (cs := [fzW rows]) 3 1 rfl rfl rfl) ?_
 refine Lo u6 (v_func [_, _] rfl rfl) ?_
 refine Lo u6 (Zb (.inr rfl) rfl) ?_
 refine Zf (Zc (Zn ?_))
 refine W4g (.inr rfl) (Zi rfl rfl) ?_
 exact ⟨rfl, rfl⟩
theorem Plans_spec {x : SW} (H : Ze) {u : Int} {ws : List (BitVec 64)} {rss : List (List Rul)} (y : Nat) (hy : y < H.length) (a : List Nat) : F (psys x) 54 [huP u (fzW ws) (fzRR rss) y, fzN a] H fun v G => v = .func 88 [] [.fptr [huP u (fzW ws) (fzRR rss) y] 0, .fptr [fzN a] 0] ∧ G = H := by
 refine Zy Tryd.func54 rfl u6 rfl ?_
 refine Zd (Za ?_)
 refine Lo u6 (ZE rfl rfl rfl) ?_
 refine Lo u6 (ZE rfl rfl rfl) ?_
 refine Lo u6 (Zj (VVal.nilFunc) (.inr rfl) rfl) ?_
 refine Zf (Zc (Zd (Za ?_)))
 refine L_gh (Gh.freezePtrL (cs := [huP u (fzW ws) (fzRR rss) y]) 2 0 rfl rfl rfl) ?_
 refine L_gh (Gh.freezePtrL (cs := [fzN a]) 3 1 rfl rfl rfl) ?_
 refine Lo u6 (v_func [_, _] rfl rfl) ?_
 refine Lo u6 (Zb (.inr rfl) rfl) ?_
 refine Zf (Zc (Zn ?_))
 refine W4h (.inr rfl) (Zi rfl rfl) ?_
 exact ⟨rfl, rfl⟩
theorem tv_cons {z : List (Gz × List Nat)} {e d : Gz} {c : VVal} {post : List (Gz × VVal)} (h : tv (z, e) = (d, c) :: post) : ∃ us z1, z = (d, us) :: z1 ∧ c = fzN us := by
  cases z with
  | nil => cases h
  | cons q z =>
    obtain ⟨d1, us⟩ := q
    have h : (d1, fzN us) :: tv (z, e) = (d, c) :: post := h
    injection h with h1 h2
    injection h1 with h3 h4
    exact ⟨us, z, by rw [h3], h4.symm⟩
theorem tv_nil {xs : List (Gz × VVal)} {z : List (Gz × List Nat)} {e : Gz} (h : xs = xs ++ tv (z, e)) : z = [] := by
  have : tv (z, e) = [] := by simpa using h
  cases z with
  | nil => rfl
  | cons q z => cases this
theorem fzN_pl {a us : List Nat} : fzN (plN a us) = .fsl (rcN (plN a us)) a.length 1 false := by
  show VVal.fsl _ (plN a us).length 1 false = _
  rw [plN_len]
theorem each_top {x : SW} {u : Int} {ws rs : VVal} (y l : Nat) (rows : List (BitVec 64)) (hr : rows.length ≤ 1000000) (A : Ze) (g : Gz) (K : Bool → Ze → Prop) (hs : A[y]? = some (gaB g)) (hI : IterP (psys x) l y (tv (usT rows [] 0#64)) (usT rows [] 0#64).2 A K) :
    F (psys x) 121 [huP u ws rs y, fzW rows, niS, iW 0#64, .yield l] A fun v G => ∃ b A1 J, v = .bool b ∧ G = A1 ++ J ∧ K b A1 := by
  refine F.pre (Gh.freezeNil (vs' := [huP u ws rs y, fzW rows, fzN [], iW 0#64, .yield l]) 2 rfl rfl) ?_
  have := each_spec (x := x) (u := u) (ws := ws) (rs := rs) y l rows hr rows.length A [] [] 0#64 g K hs hI (Nat.zero_add _)
  rw [List.append_nil] at this
  refine this.mono ?_
  rintro v G ⟨b, A1, J, rfl, rfl, _, hk, _⟩
  exact ⟨b, A1, J, rfl, rfl, hk⟩
theorem Users1_spec {x : SW} {u : Int} {ws rs : VVal} (y l : Nat) (rows : List (BitVec 64)) (hr : rows.length ≤ 1000000) (A : Ze) (g : Gz) (K : Bool → Ze → Prop) (hs : A[y]? = some (gaB g)) (hI : IterP (psys x) l y (tv (usT rows [] 0#64)) (usT rows [] 0#64).2 A K) : F (psys x) 120 [.yield l, .fptr [huP u ws rs y] 0, .fptr [fzW rows] 0] A fun v G => ∃ b A1 J, G = A1 ++ J ∧ K b A1 := by
 refine Zy Tryd.func120 rfl u8 rfl ?_
 rw [List.append_nil]
 refine Za ?_
 refine Lo u8 (W12 rfl rfl rfl rfl) ?_
 refine Lo u8 (W12 rfl rfl rfl rfl) ?_
 refine Lo u8 (Zb (.inl rfl) rfl) ?_
 refine Zk rfl rfl rfl (by exact each_top y l rows hr A g K hs hI) ?_
 rintro _ _ ⟨b, A1, J, rfl, rfl, hk⟩
 refine Le u8 ?_
 refine Zf ?_
 refine E_keep (.inl rfl) (vres_none rfl) ?_
 exact ⟨b, A1, J, rfl, hk⟩
theorem Plans1_spec {x : SW} {u : Int} {ws : List (BitVec 64)} {rss : List (List Rul)} (y l : Nat) (a : List Nat) (ha : Pat a) (hw : a.length ≤ ws.length) (hn : ws.length ≤ 1000000) (A : Ze) (g : Gz) (K : Bool → Ze → Prop) (hs : A[y]? = some (gaB g)) (hI : IterP (psys x) l y (tv (plT a (usT (Z5 ws a a.length) [] 0#64))) (usT (Z5 ws a a.length) [] 0#64).2 A K) : F (psys x) 88 [.yield l, .fptr [huP u (fzW ws) (fzRR rss) y] 0, .fptr [fzN a] 0] A fun v G => ∃ b A1 J, G = A1 ++ J ∧ K b A1 := by
 refine Zy Tryd.func88 rfl u36 rfl ?_
 refine Zd (Za ?_)
 refine Lo u36 (ZE rfl rfl rfl) ?_
 refine Zf (Zc (Zd ?_))
 refine Yg (Gh.freezePtrL (cs := [.yield l]) 3 0 rfl rfl rfl) ?_
 refine ZS [0, 1, 2, 3, 4] #[0, 0, 0, 6, 15] XH2 XH2 XH2 ?_
 refine Yp (env' := u36) (x := .look _ _) rfl rfl rfl (W4j rfl rfl rfl rfl) rfl rfl rfl ?_
 refine Oo u36 .look rfl (W4j rfl rfl rfl rfl) ?_
 refine Oo u36 .look rfl (W4j rfl rfl rfl rfl) ?_
 refine Ye (env' := u36) rfl rfl rfl rfl rfl (by exact hBlocks_spec _ _ _ ha hw hn) XH6 rfl rfl ?_
 refine Ye (env' := u36) rfl rfl rfl rfl rfl (by exact Users_spec _ y (by have := ZD hs; simp; omega) _) XH6 rfl rfl ?_
 refine ZR [_] (by rfl) (And.intro (And.intro (W4j rfl rfl rfl rfl) (W4j rfl rfl rfl rfl)) trivial) ?_
 refine Zc (Zp ?_)
 refine ZI (mk 36 68719472627) (env' := u36) rfl ?_
 refine ZW (H' := A ++ [.dead]) rfl ?_
 refine B_rangePJ (y) (tv (usT (Z5 ws a a.length) [] 0#64)) ((usT (Z5 ws a a.length) [] 0#64).2) (fun l0 h => by cases h) rfl (fun l9 G9 K9 hg9 hI9 => Users1_spec y l9 (Z5 ws a a.length) (by rw [blkN_len]; have := @szP_le a a.length; omega) G9 _ K9 hg9.choose_spec hI9) (σ := {q : Ze × Gz // q.1.length = A.length}) (fun k s => s.1.1 ++ [.dead, k]) ⟨(A, g), rfl⟩ (fun k => by simp) (fun k s => by simp [s.2]) (fun k s => by rw [show (A ++ [VBlk.dead]).length = A.length + 1 by simp]; exact ZN s.2 rfl) (fun k k1 s => by rw [show (A ++ [VBlk.dead]).length = A.length + 1 by simp]; exact Z4 s.2) (fun s => s.1.2) (fun d s => ⟨(s.1.1.set y (gaB (s.1.2 + d)), s.1.2 + d), by rw [List.length_set]; exact s.2⟩) (fun pre s => ∃ z, tv (usT (Z5 ws a a.length) [] 0#64) = pre ++ tv (z, (usT (Z5 ws a a.length) [] 0#64).2) ∧ (∀ q, q ∈ z → q.2.length = szP a a.length) ∧ s.1.1[y]? = some (gaB s.1.2) ∧ IterP (psys x) l y (tv (plT a (z, (usT (Z5 ws a a.length) [] 0#64).2))) (usT (Z5 ws a a.length) [] 0#64).2 s.1.1 K) (fun k s pre hI => by obtain ⟨_, _, _, h, _⟩ := hI; exact Zq h) (fun k s d pre hI => by obtain ⟨_, _, _, h, _⟩ := hI; exact Yn (ZD h)) ?_ (fun j pre c s => (j = Code.ret ∧ (K false s.1.1))) rfl ?_ ?_ ?_
 ·exact ⟨(usT (Z5 ws a a.length) [] 0#64).1, rfl, fun q hq => by rw [usT_len q hq, blkN_len]; simp, hs, hI⟩
 ·intro pre d c post s hx hI Lp kr kb hkr hkb
  obtain ⟨⟨A0, g0⟩, hA0⟩ := s
  try dsimp only at hI ⊢
  have hA0 : A0.length = A.length := hA0
  obtain ⟨z, hz, hzl, hg0, hI⟩ := hI
  obtain ⟨us, z, rfl, rfl⟩ : ∃ us z1, z = (d, us) :: z1 ∧ c = fzN us := tv_cons (List.append_cancel_left (hz.symm.trans hx))
  have hul : us.length = szP a a.length := hzl _ (List.mem_cons_self ..)
  have hI1 := hI g0 hg0
  refine ZZ (env' := u36) rfl ?_
  refine Za ?_
  refine Lo u36 (Zb (.inr rfl) rfl) ?_
  refine Zf ?_
  refine ⟨rfl, ⟨(A0.set y (gaB (g0 + d)), g0 + d), by rw [List.length_set]; exact hA0⟩, rfl, ?_⟩
  try dsimp only
  refine ZW (H' := A0.set y (gaB (g0 + d)) ++ ([.dead, kb] ++ Lp)) (by simp) ?_
  refine Zp (Zd (Za ?_))
  refine Lo u36 (W4j rfl rfl rfl rfl) ?_
  refine Lo u36 (rfl) ?_
  refine Lo u36 (v_makeSlice rfl rfl rfl rfl rfl (by decide) ⟨by omega, Int.le_refl _, by show (a.length : Int) * (8 : Nat) ≤ _; omega, by omega⟩) ?_
  refine Lo u36 (Zb (.inr rfl) rfl) ?_
  refine Zf (Zc (Zd (Zd (Za ?_))))
  refine Lo u36 (W4j rfl rfl rfl rfl) ?_
  refine Lo u36 (rfl) ?_
  refine Lo u36 (Zj (VVal.int .i64 0) (.inl rfl) rfl) ?_
  refine Zf (Zc (Zp ?_))
  refine ZI (mk 36 68718559175) (env' := u36) rfl ?_
  refine ZP (fun (k : Nat) => a.length - k) (fun (k : Nat) => [(19, iI (k : Nat))]) (fun (k : Nat) G => (k ≤ a.length) ∧ G = A0.set y (gaB (g0 + d)) ++ (([.dead, kb] ++ Lp) ++ [.cells (rcN (plK a us k)) true])) 0 rfl ?_ ?_
  ·refine ⟨?_, (by rw [show plK a us 0 = List.replicate a.length 0 from rfl, ← rep_rc]; rfl)⟩
   exact Nat.zero_le _
  rintro k _ ⟨hk9, rfl⟩
  refine ZZ (env' := u36) rfl ?_
  refine Zd (Za ?_)
  refine Lo u36 (rfl) ?_
  refine Zf (Zc (Zd ?_))
  refine Zo _ rfl (fun hc1 => ?_) (fun hc1 => ?_)
  ·try simp only [qB, qN] at hc1
   refine Zl (Zc (Zd (Zp (Zd (Za ?_)))))
   refine Lo u36 (Zb (.inl rfl) rfl) ?_
   refine Lo u36 (W18 rfl rfl rfl rfl rfl rfl rfl) ?_
   refine Lo u36 (W4j rfl rfl rfl rfl) ?_
   refine Lo u36 (Zb (.inr rfl) rfl) ?_
   refine Lo u36 (Zb (.inr rfl) rfl) ?_
   refine Zf (Zc ?_)
   have hlt := Pat.lt ha (Nat.le_refl a.length) (i := k) (by omega)
   refine Za ?_
   refine Lo u36 (Zb (.inl rfl) rfl) ?_
   refine Lo u36 (Zb (.inl rfl) rfl) ?_
   refine Lo u36 (Zb (.inl rfl) rfl) ?_
   refine Lo u36 (Zb (.inl rfl) rfl) ?_
   refine Lo u36 (W18 rfl rfl rfl rfl rfl rfl rfl) ?_
   refine Lo u36 (W4j rfl rfl rfl rfl) ?_
   refine Lo u36 (W18 rfl rfl rfl rfl rfl rfl rfl) ?_
   refine Lo u36 (W4l rfl rfl rfl rfl rfl rfl rfl) ?_
   refine Zf (ZG (Zc (Za ?_)))
   refine Lo u36 (W14 rfl rfl rfl) ?_
   refine Lo u36 (Zb (.inl rfl) rfl) ?_
   refine Zf ?_
   refine Zz (mk 36 68718559175) (env' := u36) rfl ⟨k + 1, ?_, rfl, ?_⟩
   ·first | omega | (simp only []; omega)
   ·exact ⟨by omega, by rw [plK_step (by omega)]⟩
  ·try simp only [qB, qN] at hc1
   refine ZL (ZJ (ZB (ZK (Zc (Zd ?_)))))
   obtain rfl : k = a.length := by omega
   rw [plK_all]
   refine Yg (Gh.freezeL (l := rcN (plN a us)) 5 ([VBlk.dead, kb] ++ Lp).length rfl get_end (cellsAt_all (by rw [List.length_map, plN_len]; rfl)) (Nat.le_refl _) rfl) ?_
   rw [set_end]
   refine Za ?_
   refine Lo u36 (W4j rfl rfl rfl rfl) ?_
   refine Lo u36 (Zb (.inl rfl) rfl) ?_
   refine L_callV rfl rfl rfl (by have h9 : Fv (psys x) (.yield l) [fzN (plN a us)] (A0.set y (gaB (g0 + d)) ++ (([.dead, kb] ++ Lp) ++ [.dead])) _ := hI1 _; rw [fzN_pl] at h9; exact h9) ?_
   rintro _ _ ⟨b, A2, J2, rfl, rfl, hA2, hk⟩; have hA3 : A2.length = A.length := hA2.trans hA0
   refine Le u36 ?_
   refine Lo u36 (rfl) ?_
   refine Zf (Zc ?_)
   refine Zo _ rfl (fun hc2 => ?_) (fun hc2 => ?_)
   ·try simp only [qB, qN] at hc2
    have hb : b = false := by simpa using hc2
    subst hb
    have hk : K false A2 := hk
    refine Zn (ZU ?_)
    refine ⟨⟨(A2, g0), hA3⟩, .dead :: J2, (by simp), .inr ⟨Code.ret, rfl, ⟨rfl, ?_⟩⟩⟩
    exact hk
   ·try simp only [qB, qN] at hc2
    have hb : b = true := by simpa using hc2
    subst hb
    obtain ⟨⟨g2, hg2⟩, hk2⟩ := hk
    refine Zl (ZG ?_)
    refine ⟨⟨(A2, g2), hA3⟩, .dead :: J2, (by simp), .inl ⟨rfl, ?_⟩⟩
    exact ⟨z, by rw [hz, List.append_assoc]; rfl, fun q hq => hzl q (List.mem_cons_of_mem _ hq), hg2, hk2⟩
 ·intro s k hk hI J9
  obtain ⟨⟨A0, g0⟩, hA0⟩ := s
  try dsimp only at hI ⊢
  obtain ⟨z, hz, hzl, hg0, hI⟩ := hI
  obtain rfl := tv_nil hz
  refine ZG ?_
  refine E_keep (.inl rfl) (vres_none rfl) ?_
  exact W4n
 ·rintro j pre c post s k hk hx (⟨rfl, hX⟩) J9
  obtain ⟨⟨A0, g0⟩, hA0⟩ := s
  try dsimp only
  refine J_ret ?_
  refine ZU ?_
  refine E_keep (.inr rfl) (vres_none rfl) ?_
  exact W4n
theorem W4o {T : TypeId → Option VTy} {H : Ze} {op : Op} {ρ : Operand → VVal} {t : TypeId} {a : Operand} {y : VTy} {p : VVal} {n : Nat} {vs : List VVal} (ho : op = .load t a) (ha : ρ a = p) (hy : T t = some y) (hd : Zm y.desc = true) (hn : y.size = n) (h : LdOkA H p n vs := by first | exact .inl ⟨_, _, rfl, by first | rfl | assumption⟩ | exact .inr ⟨_, _, _, _, rfl, XH35, by first | rfl | assumption⟩) : vop T ρ H op = some (.agg vs, H) := v_ldA ho ha hy hd hn h
def leA (p : Pb) : Option (List Nat) := if pck p = 0 then fdA p.users.toNat (wsP p) (Yi p) else none
def leG (p : Pb) : Gz := if pck p = 0 then fdG p.users.toNat (wsP p) (Yi p) else 0
def leT : Option (List Nat) → VVal
  | some l => .tuple [fzN l, .bool true]
  | none => .tuple [fzN [], .bool false]
theorem rssP_len {p : Pb} : (Yi p).length = (wsP p).length := by unfold Yi; rw [addR_len, Yk]
theorem rssP_ok {p : Pb} (g : Go.V.Good p) : ∀ i, ((Yi p).getD i []).length ≤ 1000000 ∧ ∀ r, r ∈ (Yi p).getD i [] → r.steps.length ≤ 1000000 := fun i => by
  have g3 := g.r32; have g1 := g.n12
  have gs := fun r hr => rck_len (g.ru r hr)
  refine ⟨?_, fun r hr => ?_⟩
  · have := addR_row (n := p.who.length) (i := i) gs (m := p.rules.length) (Nat.le_refl _)
    unfold Yi; omega
  · have hin := fun r hr x hx => by
      have h := g.ru r hr
      unfold rck at h
      rw [Bool.and_eq_true, Bool.and_eq_true] at h
      have := riseA_mem _ _ h.2.1 x hx
      exact (show 0 ≤ x ∧ x < (p.who.length : Int) by omega)
    have := (addR_mem (n := p.who.length) (rs := p.rules) (r' := r) (i := i) hin (m := p.rules.length) (Nat.le_refl _)).1 hr
    rw [List.take_length] at this
    have := gs r this.1; omega
theorem New_N {x : SW} (H : Ze) (p : Pb) (y : Nat) (hy : y < H.length) (g : Go.V.Good p) : F (psys x) 51 [.agg (pbB p), .ptr (some (y, 0))] H fun v G => v = huP (p.users.toNat : Nat) (fzW (wsP p)) (fzRR (Yi p)) y ∧ G = H := by
  rw [Int.toNat_of_nonneg g.u0]; exact New_spec H p y hy g
theorem Search_in {x : SW} (H L : Ze) {p : Pb} {y : Nat} {g : Gz} (hs : H[y]? = some (gaB g)) (hg : Go.V.Good p) : F (psys x) 52 [iI (p.who.length : Nat), iI 1, kpV p.users.toNat (wsP p) (Yi p) y] (H ++ L) fun v G => v = .fsl ((frm (kpB (wsP p) (Yi p)) (kpG p.users.toNat (wsP p) (Yi p)) (wsP p).length [] 0).2.toList.map fzN) (frm (kpB (wsP p) (Yi p)) (kpG p.users.toNat (wsP p) (Yi p)) (wsP p).length [] 0).2.toList.length 1 false ∧ G = H.set y (gaB (g + (frm (kpB (wsP p) (Yi p)) (kpG p.users.toNat (wsP p) (Yi p)) (wsP p).length [] 0).1)) ++ L := by
  have g1 := hg.n12
  have := Search_spec (x := x) (u := p.users.toNat) (H ++ L) g (Zq hs) (by rw [Yk]; omega) rssP_len (rssP_ok hg) (by rw [Yk]; exact g1)
  rw [Yk] at this
  rw [Yn (ZD hs)] at this
  rw [Yk]; exact this
theorem Least_bad {x : SW} (H : Ze) (y : Nat) (g : Gz) (hs : H[y]? = some (gaB g)) (p : Pb) (hp : PbL p) (hb : ¬ pck p = 0) : F (psys x) 21 [.ptr (some (y, 0)), .agg (pbB p)] H fun v G => v = .tuple [fzN [], .bool false] ∧ G = H := by
 refine Zy Tryd.func21 rfl u35 rfl ?_
 refine Zd (Za ?_)
 refine Lo u35 (ZE rfl rfl rfl) ?_
 refine Lo u35 (Zw rfl rfl) ?_
 refine Lo u35 (Zw rfl rfl) ?_
 refine Zf (Zc (Zd (Zd ?_)))
 refine Yg (Gh.freezePtrL (cs := pbB p) 3 0 rfl rfl rfl) ?_
 refine Za ?_
 refine Lo u35 (W4o rfl rfl rfl rfl rfl) ?_
 refine Zk rfl rfl rfl (by exact Yo _ _ hp) ?_
 rintro _ _ ⟨rfl, rfl⟩
 refine Le u35 ?_
 refine Lo u35 (v_is true rfl (by simp [hb])) ?_
 refine Zf (Zc ?_)
 refine ZV rfl rfl ?_
 refine Zd (Za ?_)
 refine Lo u35 (YD (VVal.slice none 0 0 true 0) rfl rfl rfl rfl rfl rfl rfl XH0 XH4 XH5) ?_
 refine Lo u35 (YD (VVal.bool false) rfl rfl rfl rfl rfl rfl rfl XH0 XH4 XH5) ?_
 refine Zf (Zc ?_)
 refine Yg (Gh.cellNilL 1 0 (es' := 1) rfl rfl) ?_
 refine Zn (Zu ?_)
 refine W10 (.inr rfl) (vres_cells2 rfl rfl rfl rfl rfl rfl rfl XH0 (by rfl) XH0 (by rfl)) ?_
 exact ⟨rfl, rfl⟩
theorem Least_none {x : SW} (H : Ze) (y : Nat) (g : Gz) (hs : H[y]? = some (gaB g)) (p : Pb) (hp : PbL p) (hg0 : pck p = 0) (hf : (frm (kpB (wsP p) (Yi p)) (kpG p.users.toNat (wsP p) (Yi p)) (wsP p).length [] 0).2 = none) : F (psys x) 21 [.ptr (some (y, 0)), .agg (pbB p)] H fun v G => v = .tuple [fzN [], .bool false] ∧ G = H.set y (gaB (g + (frm (kpB (wsP p) (Yi p)) (kpG p.users.toNat (wsP p) (Yi p)) (wsP p).length [] 0).1)) := by
 have hg : Go.V.Good p := pck_good.1 hg0
 refine Zy Tryd.func21 rfl u35 rfl ?_
 refine Zd (Za ?_)
 refine Lo u35 (ZE rfl rfl rfl) ?_
 refine Lo u35 (Zw rfl rfl) ?_
 refine Lo u35 (Zw rfl rfl) ?_
 refine Zf (Zc (Zd (Zd ?_)))
 refine Yg (Gh.freezePtrL (cs := pbB p) 3 0 rfl rfl rfl) ?_
 refine Za ?_
 refine Lo u35 (W4o rfl rfl rfl rfl rfl) ?_
 refine Zk rfl rfl rfl (by exact Yo _ _ hp) ?_
 rintro _ _ ⟨rfl, rfl⟩
 refine Le u35 ?_
 refine Lo u35 (v_is false rfl (by rw [hg0]; rfl)) ?_
 refine Zf (Zc ?_)
 refine ZA rfl rfl ?_
 refine Zl (Zc (Zd ?_))
 refine ZS [0, 1, 2, 3, 4, 5] #[0, 0, 2, 6, 15, 31] XH2 XH2 XH2 ?_
 refine Oo u35 .look rfl (W4o rfl rfl rfl rfl rfl) ?_
 refine Oo u35 .calm rfl (Zb (.inl rfl) rfl) ?_
 refine Oo u35 .calm rfl (rfl) ?_
 refine Oo u35 .calm rfl (rfl) ?_
 refine Ye (env' := u35) rfl rfl rfl rfl rfl (by exact New_N _ p y (by have := ZD hs; simp; omega) hg) XH6 rfl rfl ?_
 refine Oo u35 .calm rfl (Zb (.inr rfl) rfl) ?_
 refine ZR [] XH2 (trivial) ?_
 refine Zc (Zd (Zd (Za ?_)))
 refine Lo u35 (rfl) ?_
 refine Lo u35 (W47 rfl rfl rfl rfl) ?_
 refine Lo u35 (rfl) ?_
 refine Lo u35 (Zb (.inl rfl) rfl) ?_
 refine Lo u35 ((rfl : vop _ _ _ _ = some (kpV p.users.toNat (wsP p) (Yi p) y, _))) ?_
 refine Zk rfl rfl rfl (by exact Search_in H _ hs hg) ?_
 rintro _ _ ⟨rfl, rfl⟩; rw [hf]
 refine Le u35 ?_
 refine Lo u35 (rfl) ?_
 refine Lo u35 (Zj (VVal.int .i64 0) (.inl rfl) rfl) ?_
 refine Zf (Zc (Zp ?_))
 refine ZI (mk 35 34301017999) (env' := u35) rfl ?_
 refine ZP (fun (k : Nat) => 0) (fun (k : Nat) => [(25, iI (k : Nat))]) (fun (k : Nat) G => (k = 0) ∧ G = H.set y (gaB (g + (frm (kpB (wsP p) (Yi p)) (kpG p.users.toNat (wsP p) (Yi p)) (wsP p).length [] 0).1)) ++ [.dead, .cells [niS] true, .cells [.bool false] true]) 0 rfl ?_ ?_
 ·refine ⟨?_, rfl⟩
  rfl
 rintro k _ ⟨hk9, rfl⟩
 refine ZZ (env' := u35) rfl ?_
 refine Zd (Za ?_)
 refine Lo u35 (rfl) ?_
 refine Zf (Zc (Zd ?_))
 refine Zo _ rfl (fun hc1 => ?_) (fun hc1 => ?_)
 ·try simp only [qB, qN] at hc1
  exfalso; simp at hc1; omega
 ·try simp only [qB, qN] at hc1
  refine ZL (ZJ (ZB (ZK (Zc (Zd (Za ?_))))))
  refine Lo u35 (YD (VVal.slice none 0 0 true 0) rfl rfl rfl rfl rfl rfl rfl XH30 XH4 (by exact Z4 (List.length_set))) ?_
  refine Lo u35 (YD (VVal.bool false) rfl rfl rfl rfl rfl rfl rfl XH30 XH4 (by exact Z4 (List.length_set))) ?_
  refine Zf (Zc ?_)
  refine Yg (Gh.cellNilL 1 0 (es' := 1) rfl rfl) ?_
  refine Zn ?_
  refine W30 (.inr rfl) (vres_cells2 rfl rfl rfl rfl rfl rfl rfl (by first | exact ZN rfl rfl | exact ZN (List.length_set) rfl) (by rfl) (by first | exact ZN rfl rfl | exact ZN (List.length_set) rfl) (by rfl)) ?_
  exact ⟨rfl, rfl⟩
theorem brk_none {rs : List Rul} {l : List Int} : brk rs l = [] ↔ ∀ r, r ∈ rs → hld r l = true := by
  refine rev_ind (P := fun rs => brk rs l = [] ↔ ∀ r, r ∈ rs → hld r l = true) ⟨fun _ r h => (by cases h), fun _ => rfl⟩ (fun rs r ih => ?_) rs
  rw [brk_app, List.append_eq_nil_iff, ih]
  constructor
  · rintro ⟨h1, h2⟩ x hx
    rcases List.mem_append.1 hx with hx | hx
    · exact h1 x hx
    · rw [List.mem_singleton] at hx; subst hx
      by_cases e : hld x l = true
      · exact e
      · rw [if_neg e] at h2; cases h2
  · intro h
    exact ⟨fun x hx => h x (List.mem_append_left _ hx), by rw [if_pos (h r (by simp))]⟩
theorem flU_none {p : Pb} {l : List Int} : ∀ {n : Nat}, flU p l n = [] ↔ ∀ i, i < n → flk p.users (p.fixed.getD i 0) (p.who.getD i 0) (l.getD i 0) = 0
  | 0 => ⟨fun _ i h => absurd h (by omega), fun _ => rfl⟩
  | n + 1 => by
    rw [flU_succ, List.append_eq_nil_iff, flU_none]
    constructor
    · rintro ⟨h1, h2⟩ i hi
      by_cases e : i = n
      · subst e
        by_cases e2 : flk p.users (p.fixed.getD i 0) (p.who.getD i 0) (l.getD i 0) = 0
        · exact e2
        · rw [if_neg e2] at h2; cases h2
      · exact h1 i (by omega)
    · intro h; exact ⟨fun i hi => h i (by omega), by rw [if_pos (h n (by omega))]⟩
theorem hld_erl {r : Rul} {l : List Int} {n : Int} (h : (l.length : Int) = n) : hld r l = erl r n l := by
  subst h; unfold hld erl; rw [decide_eq_true (Int.le_refl _), Bool.true_and]
theorem hds_iff {p : Pb} {us : List Int} : hds p us = true ↔ Go.V.Good p ∧ us.length = p.who.length ∧ (∀ i, i < p.who.length → myB p i (us.getD i 0) = true) ∧ ∀ r, r ∈ p.rules → erl r p.who.length us = true := by
  unfold hds
  rw [Bool.and_eq_true, decide_eq_true_eq, decide_eq_true_eq, pck_good]
  constructor
  · rintro ⟨g, h⟩
    by_cases hl : us.length = p.who.length
    · rw [flw_in hl] at h
      have h1 := List.append_eq_nil_iff.1 h
      have h2 : brk p.rules us = [] := by
        have := h1.2; unfold flR at this; exact List.map_eq_nil_iff.1 this
      refine ⟨g, hl, fun i hi => ?_, fun r hr => by rw [← hld_erl (by rw [hl])]; exact brk_none.1 h2 r hr⟩
      have := flU_none.1 h1.1 i (by omega)
      show (decide _ && _) = true
      rw [has_flk g hi, decide_eq_true this]
    · rw [flw_len hl] at h; cases h
  · rintro ⟨g, hl, h1, h2⟩
    refine ⟨g, ?_⟩
    rw [flw_in hl, brk_none.2 fun r hr => by rw [hld_erl (n := p.who.length) (by rw [hl])]; exact h2 r hr]
    rw [show flR [] = [] from rfl, List.append_nil]
    refine flU_none.2 fun i hi => ?_
    have h3 : (decide _ && _) = true := h1 i (by omega)
    rw [has_flk g (by omega)] at h3
    exact of_decide_eq_true h3
theorem wsP_get {p : Pb} {i : Nat} (h : i < p.who.length) : (wsP p).getD i 0 = wrd p i := by
  unfold wsP; simp [List.getD_eq_getElem?_getD, h]
theorem zI_get {ns : List Nat} {i : Nat} (h : i < ns.length) : (zI ns).getD i 0 = (ns.getD i 0 : Nat) := by
  unfold zI; simp [List.getD_eq_getElem?_getD, h]
theorem myB_nat {p : Pb} {i n : Nat} : myB p i (n : Nat) = true ↔ (wrd p i).getLsbD n = true := by
  unfold myB
  rw [Bool.and_eq_true, decide_eq_true_eq, Int.toNat_natCast]
  exact ⟨fun h => h.2, fun h => ⟨by have := BitVec.lt_of_getLsbD h; omega, h⟩⟩
theorem hds_plan {p : Pb} {ns : List Nat} : hds p (zI ns) = true ↔ Go.V.Good p ∧ PlanN (wsP p) p.rules ns := by
  rw [hds_iff, zI_len]
  constructor
  · rintro ⟨g, hl, h1, h2⟩
    refine ⟨g, by rw [Yk]; exact hl, fun i hi => ?_, fun r hr => by rw [Yk]; exact h2 r hr⟩
    rw [Yk] at hi
    have := h1 i hi
    rw [zI_get (by omega), myB_nat] at this
    rw [wsP_get hi]; exact this
  · rintro ⟨g, h⟩
    have hl := h.len
    rw [Yk] at hl
    refine ⟨g, hl, fun i hi => ?_, fun r hr => by have := h.rul r hr; rw [Yk] at this; exact this⟩
    have := h.may i (by rw [Yk]; exact hi)
    rw [wsP_get hi] at this
    rw [zI_get (by omega), myB_nat]; exact this
theorem hds_nat {p : Pb} {us : List Int} (h : hds p us = true) : us = zI (us.map Int.toNat) := by
  obtain ⟨g, hl, h1, _⟩ := hds_iff.1 h
  unfold zI
  rw [List.map_map]
  apply List.ext_getElem (by simp)
  intro i h2 h3
  have := h1 i (by omega)
  unfold myB at this
  rw [Bool.and_eq_true, decide_eq_true_eq, List.getD_eq_getElem?_getD, List.getElem?_eq_getElem h2] at this
  have h4 : 0 ≤ us[i] := this.1.1
  simp only [List.getElem_map, Function.comp]; omega
theorem YK {p : Pb} {l : List Nat} (h : leA p = some l) : hds p (zI l) = true := by
  unfold leA at h
  split at h
  · rename_i hp
    have g := pck_good.1 hp
    refine hds_plan.2 ⟨g, ?_⟩
    unfold Yi at h
    rw [← Yk] at h
    exact fd_some (fun r hr => by rw [Yk]; exact g.ru r hr) h
  · cases h
theorem leA_none {p : Pb} (h : leA p = none) (us : List Int) : hds p us = false := by
  rw [Bool.eq_false_iff]
  intro hd
  have hn := hds_nat hd
  rw [hn] at hd
  obtain ⟨g, hp⟩ := hds_plan.1 hd
  unfold leA at h
  rw [if_pos (pck_good.2 g)] at h
  unfold Yi at h
  rw [← Yk] at h
  exact fd_none (fun r hr => by rw [Yk]; exact g.ru r hr) h _ hp
theorem leA_can {p : Pb} {us : List Int} (h : hds p us = true) : (leA p).isSome = true := by
  cases e : leA p with
  | some l => rfl
  | none => rw [leA_none e us] at h; cases h
theorem W4v {T : TypeId → Option VTy} {H : Ze} {op : Op} {ρ : VEnv} {H' : Ze} {t : TypeId} {a : Operand} {i : Nat} {v : VVal} {y : VTy} {b off : Nat} {cs new : List VVal} (ho : op = .store t a (.tmp i)) (hv : ρ[i]? = some v) (ha : ρ.eval a = .ptr (some (b, off))) (hy : T t = some y) (hx : v.cells = some new) (hn : new.length = y.size) (h1 : new.all VVal.one = true) (hb : H[b]? = some (.cells cs true) := by exact ZN (List.length_set) rfl) (hl : off + new.length ≤ cs.length := by exact XH38) (hH : H.set b (.cells (ZC cs off new) true) = H' := by exact Z4 (List.length_set)) : vop T ρ.eval H op = some (.skip, H') := Ya ho hv ha hy hx hn h1 hb hl hH
theorem W4w {S : V.Sys} {H : Ze} {fn : Func} {ex : Exit} {env : VEnv} {B L : Ze} {v : VVal} {R : VVal → Ze → Prop} (hx : ex = .normal ∨ ex = .ret) (hv : Z6 S.C.T env (B ++ L) fn.results = some v) (h : R v B) (hB : BaseOk H B := by exact BaseOk.set (BaseOk.refl _) _ rfl) (hu : v.under H.length = true := by show ((fzN _).under _ && (true && true)) = true; rw [show (fzN (plN a (lst (Z5 (wsP p) a a.length) 0#64))).under _ = true from mapN_under _ _]; rfl) : fnK S fn H R ex env (B ++ L) := E_app hx hv hB hu h
theorem Least_some {x : SW} (H : Ze) (y : Nat) (g : Gz) (hs : H[y]? = some (gaB g)) (p : Pb) (hp : PbL p) (hg0 : pck p = 0) (a : List Nat) (hf : (frm (kpB (wsP p) (Yi p)) (kpG p.users.toNat (wsP p) (Yi p)) (wsP p).length [] 0).2 = some a) (d9 : Gz) (z9 : List (Gz × List Nat)) (hq : (usT (Z5 (wsP p) a a.length) [] 0#64).1 = (d9, (lst (Z5 (wsP p) a a.length) 0#64)) :: z9) : F (psys x) 21 [.ptr (some (y, 0)), .agg (pbB p)] H fun v G => v = .tuple [fzN (plN a (lst (Z5 (wsP p) a a.length) 0#64)), .bool true] ∧ G = H.set y (gaB (g + (frm (kpB (wsP p) (Yi p)) (kpG p.users.toNat (wsP p) (Yi p)) (wsP p).length [] 0).1 + d9)) := by
 have hg : Go.V.Good p := pck_good.1 hg0
 have hy := ZD hs
 obtain ⟨_, hal, ha, _, _⟩ := fnd_ok hf
 have hw : a.length ≤ (wsP p).length := by omega
 have hn : (wsP p).length ≤ 1000000 := by rw [Yk]; exact hp.w
 obtain ⟨t9, hT9⟩ : ∃ t9, tv (plT a (usT (Z5 (wsP p) a a.length) [] 0#64)) = (d9, fzN (plN a (lst (Z5 (wsP p) a a.length) 0#64))) :: t9 := ⟨_, by unfold plT; rw [hq]; rfl⟩
 refine Zy Tryd.func21 rfl u35 rfl ?_
 refine Zd (Za ?_)
 refine Lo u35 (ZE rfl rfl rfl) ?_
 refine Lo u35 (Zw rfl rfl) ?_
 refine Lo u35 (Zw rfl rfl) ?_
 refine Zf (Zc (Zd (Zd ?_)))
 refine Yg (Gh.freezePtrL (cs := pbB p) 3 0 rfl rfl rfl) ?_
 refine Za ?_
 refine Lo u35 (W4o rfl rfl rfl rfl rfl) ?_
 refine Zk rfl rfl rfl (by exact Yo _ _ hp) ?_
 rintro _ _ ⟨rfl, rfl⟩
 refine Le u35 ?_
 refine Lo u35 (v_is false rfl (by rw [hg0]; rfl)) ?_
 refine Zf (Zc ?_)
 refine ZA rfl rfl ?_
 refine Zl (Zc (Zd ?_))
 refine ZS [0, 1, 2, 3, 4, 5] #[0, 0, 2, 6, 15, 31] XH2 XH2 XH2 ?_
 refine Oo u35 .look rfl (W4o rfl rfl rfl rfl rfl) ?_
 refine Oo u35 .calm rfl (Zb (.inl rfl) rfl) ?_
 refine Oo u35 .calm rfl (rfl) ?_
 refine Oo u35 .calm rfl (rfl) ?_
 refine Ye (env' := u35) rfl rfl rfl rfl rfl (by exact New_N _ p y (by simp; omega) hg) XH6 rfl rfl ?_
 refine Oo u35 .calm rfl (Zb (.inr rfl) rfl) ?_
 refine ZR [] XH2 (trivial) ?_
 refine Zc (Zd (Zd (Za ?_)))
 refine Lo u35 (rfl) ?_
 refine Lo u35 (W47 rfl rfl rfl rfl) ?_
 refine Lo u35 (rfl) ?_
 refine Lo u35 (Zb (.inl rfl) rfl) ?_
 refine Lo u35 ((rfl : vop _ _ _ _ = some (kpV p.users.toNat (wsP p) (Yi p) y, _))) ?_
 refine Zk rfl rfl rfl (by exact Search_in H _ hs hg) ?_
 rintro _ _ ⟨rfl, rfl⟩; rw [hf]
 refine Le u35 ?_
 refine Lo u35 (rfl) ?_
 refine Lo u35 (Zj (VVal.int .i64 0) (.inl rfl) rfl) ?_
 refine Zf (Zc (Zp ?_))
 refine ZI (mk 35 34301017999) (env' := u35) rfl ?_
 refine ZP (fun (k : Nat) => 0) (fun (k : Nat) => [(25, iI (k : Nat))]) (fun (k : Nat) G => (k = 0) ∧ G = H.set y (gaB (g + (frm (kpB (wsP p) (Yi p)) (kpG p.users.toNat (wsP p) (Yi p)) (wsP p).length [] 0).1)) ++ [.dead, .cells [niS] true, .cells [.bool false] true]) 0 rfl ?_ ?_
 ·refine ⟨?_, rfl⟩
  rfl
 rintro k _ ⟨rfl, rfl⟩
 refine ZZ (env' := u35) rfl ?_
 refine Zd (Za ?_)
 refine Lo u35 (rfl) ?_
 refine Zf (Zc (Zd ?_))
 refine Zo _ rfl (fun hc1 => ?_) (fun hc1 => ?_)
 ·try simp only [qB, qN] at hc1
  refine Zl (Zc (Zd (Zp (Zd (Za ?_)))))
  refine Lo u35 (W18 rfl rfl rfl rfl rfl rfl rfl) ?_
  refine Lo u35 (W47 rfl rfl rfl rfl) ?_
  refine Lo u35 (Zb (.inr rfl) rfl) ?_
  refine Zf (Zc (Zd (Za ?_)))
  refine Lo u35 (Zb (.inl rfl) rfl) ?_
  refine Lo u35 (Zb (.inl rfl) rfl) ?_
  refine Zk rfl rfl rfl (by exact Plans_spec _ y (by simp; omega) a) ?_
  rintro _ _ ⟨rfl, rfl⟩
  refine Le u35 ?_
  refine Zf (Zc (Zp ?_))
  refine ZI (mk 35 32153534351) (env' := u35) rfl ?_
  refine B_rangePJ (y) (tv (plT a (usT (Z5 (wsP p) a a.length) [] 0#64))) ((usT (Z5 (wsP p) a a.length) [] 0#64).2) (fun l0 h => by cases h) rfl (fun l9 G9 K9 hg9 hI9 => Plans1_spec y l9 a ha hw hn G9 _ K9 hg9.choose_spec hI9) (σ := Gz × VVal × Bool) (fun k s => H.set y (gaB s.1) ++ [.dead, .cells [s.2.1] true, .cells [.bool s.2.2] true, k]) (g + (frm (kpB (wsP p) (Yi p)) (kpG p.users.toNat (wsP p) (Yi p)) (wsP p).length [] 0).1, niS, false) (fun k => by simp) (fun k s => by simp) (fun k s => by rw [show ((H.set y _) ++ _ : Ze).length = H.length + 3 by simp]; exact ZN (List.length_set) rfl) (fun k k1 s => by rw [show ((H.set y _) ++ _ : Ze).length = H.length + 3 by simp]; exact Z4 (List.length_set)) (fun s => s.1) (fun d s => (s.1 + d, s.2)) (fun pre s => pre = [] ∧ s = (g + (frm (kpB (wsP p) (Yi p)) (kpG p.users.toNat (wsP p) (Yi p)) (wsP p).length [] 0).1, niS, false)) (fun k s pre hI => by exact Zq (List.getElem?_set_self hy)) (fun k s d pre hI => by rw [Yn XH24, List.set_set]) ?_ (fun j pre c s => (j = Code.ret ∧ (s = (g + (frm (kpB (wsP p) (Yi p)) (kpG p.users.toNat (wsP p) (Yi p)) (wsP p).length [] 0).1 + d9, fzN (plN a (lst (Z5 (wsP p) a a.length) 0#64)), true)))) rfl ?_ ?_ ?_
  ·exact ⟨rfl, rfl⟩
  ·intro pre d c post s hx hI Lp kr kb hkr hkb
   obtain ⟨g8, v8, b8⟩ := s
   try dsimp only at hI ⊢
   obtain ⟨rfl, hI⟩ := hI
   obtain ⟨rfl, rfl, rfl⟩ : g8 = _ ∧ v8 = _ ∧ b8 = _ := by simpa using hI
   obtain ⟨rfl, rfl⟩ : d = d9 ∧ c = fzN (plN a (lst (Z5 (wsP p) a a.length) 0#64)) := by
    have h9 : (d9, fzN (plN a (lst (Z5 (wsP p) a a.length) 0#64))) :: t9 = (d, c) :: post := (by rw [← hT9]; exact hx)
    injection h9 with h1 h2; injection h1 with h3 h4; exact ⟨h3.symm, h4.symm⟩
   refine ZZ (env' := u35) rfl ?_
   refine Za ?_
   refine Lo u35 (Zb (.inr rfl) rfl) ?_
   refine Zf ?_
   refine ⟨rfl, (g + (frm (kpB (wsP p) (Yi p)) (kpG p.users.toNat (wsP p) (Yi p)) (wsP p).length [] 0).1 + d, niS, false), rfl, ?_⟩
   try dsimp only
   refine ZW (H' := H.set y (gaB (g + (frm (kpB (wsP p) (Yi p)) (kpG p.users.toNat (wsP p) (Yi p)) (wsP p).length [] 0).1 + d)) ++ ([.dead, .cells [niS] true, .cells [.bool false] true, kb] ++ Lp)) (by simp) ?_
   refine Zp (Zd (Za ?_))
   refine Lo u35 (Zb (.inl rfl) rfl) ?_
   refine Lo u35 (W4v rfl rfl rfl rfl rfl rfl rfl) ?_
   refine Lo u35 (YD (VVal.bool true) rfl rfl rfl rfl rfl rfl rfl XH30 XH4 (by exact Z4 (List.length_set))) ?_
   refine Zf (Zc (Zn (ZU ?_)))
   refine ⟨(g + (frm (kpB (wsP p) (Yi p)) (kpG p.users.toNat (wsP p) (Yi p)) (wsP p).length [] 0).1 + d, fzN (plN a (lst (Z5 (wsP p) a a.length) 0#64)), true), [], (by simp; exact ⟨rfl, rfl⟩), .inr ⟨Code.ret, rfl, ⟨rfl, ?_⟩⟩⟩
   rfl
  ·intro s k hk hI J9
   obtain ⟨g8, v8, b8⟩ := s
   try dsimp only at hI ⊢
   exfalso
   obtain ⟨h8, _⟩ := hI
   rw [hT9] at h8; cases h8
  ·rintro j pre c post s k hk hx (⟨rfl, hX⟩) J9
   obtain ⟨g8, v8, b8⟩ := s
   try dsimp only
   obtain ⟨rfl, rfl, rfl⟩ : g8 = _ ∧ v8 = _ ∧ b8 = _ := by simpa using hX
   rw [List.append_assoc (H.set _ _)]
   refine J_ret ?_
   refine ZU (ZU (Zu (YH (ZU (Zu ?_)))))
   refine W4w (.inr rfl) (vres_cells2 rfl rfl rfl rfl rfl rfl rfl XH30 (by rfl) XH30 (by rfl)) ?_
   exact ⟨rfl, rfl⟩
 ·try simp only [qB, qN] at hc1
  exfalso; simp at hc1
abbrev u3 {a0 a1 a2 : VVal} : VEnv := a0 :: a1 :: a2 :: []
abbrev u14 {a0 a1 a2 a3 a4 a5 a6 a7 a8 a9 a10 a11 a12 a13 : VVal} : VEnv := a0 :: a1 :: a2 :: a3 :: a4 :: a5 :: a6 :: a7 :: a8 :: a9 :: a10 :: a11 :: a12 :: a13 :: []
theorem sLeast_spec {x : SW} (H : Ze) (y : Nat) (g : Gz) (hs : H[y]? = some (gaB g)) (p : Pb) (hp : PbL p) : F (psys x) 21 [.ptr (some (y, 0)), .agg (pbB p)] H fun v G => v = leT (leA p) ∧ G = H.set y (gaB (g + leG p)) := by
  by_cases hg : pck p = 0
  · cases hf : (frm (kpB (wsP p) (Yi p)) (kpG p.users.toNat (wsP p) (Yi p)) (wsP p).length [] 0).2 with
    | none =>
      refine (Least_none H y g hs p hp hg hf).mono ?_
      rintro v G ⟨rfl, rfl⟩
      rw [show leA p = none by unfold leA fdA; rw [if_pos hg, hf]; rfl, show leG p = (frm (kpB (wsP p) (Yi p)) (kpG p.users.toNat (wsP p) (Yi p)) (wsP p).length [] 0).1 by unfold leG fdG; rw [if_pos hg, hf]; exact Gz.add_zero _]
      exact ⟨rfl, rfl⟩
    | some a =>
      obtain ⟨_, _, _, _, hm⟩ := fnd_ok hf
      obtain ⟨d9, z9, hq⟩ := usT_fst hm
      refine (Least_some H y g hs p hp hg a hf d9 z9 hq).mono ?_
      rintro v G ⟨rfl, rfl⟩
      rw [show leA p = some (plN a (lst (Z5 (wsP p) a a.length) 0#64)) by unfold leA fdA; rw [if_pos hg, hf]; rfl, show leG p = (frm (kpB (wsP p) (Yi p)) (kpG p.users.toNat (wsP p) (Yi p)) (wsP p).length [] 0).1 + d9 by unfold leG fdG; rw [if_pos hg, hf]; simp only [hq]; rfl]
      exact ⟨rfl, by rw [Gz.assoc]⟩
  · refine (Least_bad H y g hs p hp hg).mono ?_
    rintro v G ⟨rfl, rfl⟩
    rw [show leA p = none from if_neg hg, show leG p = 0 from if_neg hg, Gz.add_zero, ← set_keep hs]
    exact ⟨rfl, rfl⟩
theorem leT_can {o : Option (List Nat)} : ∃ l, leT o = .tuple [fzN l, .bool o.isSome] := by
  cases o with
  | none => exact ⟨[], rfl⟩
  | some l => exact ⟨l, rfl⟩
theorem sLeast_t {x : SW} (H : Ze) (y : Nat) (g : Gz) (hs : H[y]? = some (gaB g)) (p : Pb) (hp : PbL p) : F (psys x) 21 [.ptr (some (y, 0)), .agg (pbB p)] H fun v G => ∃ l, v = .tuple [fzN l, .bool (leA p).isSome] ∧ G = H.set y (gaB (g + leG p)) := by
  refine (sLeast_spec H y g hs p hp).mono ?_
  rintro v G ⟨rfl, rfl⟩
  obtain ⟨l, h⟩ := @leT_can (leA p)
  exact ⟨l, h, rfl⟩
theorem Can_spec {x : SW} (H : Ze) (y : Nat) (g : Gz) (hs : H[y]? = some (gaB g)) (p : Pb) (hp : PbL p) : F (psys x) 20 [.ptr (some (y, 0)), .agg (pbB p)] H fun v G => v = .bool (leA p).isSome ∧ G = H.set y (gaB (g + leG p)) := by
 refine Zy Tryd.func20 rfl u14 rfl ?_
 refine Zd (Za ?_)
 refine Lo u14 (ZE rfl rfl rfl) ?_
 refine Lo u14 (Zj (VVal.bool false) (.inr rfl) rfl) ?_
 refine Zf (Zc (Zd (Za ?_)))
 refine Lo u14 (Zb (.inl rfl) rfl) ?_
 refine Lo u14 (W11 rfl rfl rfl rfl rfl) ?_
 refine Zk rfl rfl rfl (by exact sLeast_t _ y g (Zq hs) p hp) ?_
 rintro _ _ ⟨l, rfl, rfl⟩; rw [Yn (ZD hs)]
 refine Le u14 ?_
 refine Lo u14 (Zb (.inl rfl) rfl) ?_
 refine Lo u14 (rfl) ?_
 refine Lo u14 (rfl) ?_
 refine Lo u14 (Zb (.inr rfl) rfl) ?_
 refine Lo u14 (Zb (.inr rfl) rfl) ?_
 refine Zf (Zc (Zd (Za ?_)))
 refine Lo u14 (Zb (.inl rfl) rfl) ?_
 refine Lo u14 (Zb (.inr rfl) rfl) ?_
 refine Zf (Zc (Zn ?_))
 refine W30 (.inr rfl) (Zi rfl rfl) ?_
 exact ⟨rfl, rfl⟩
theorem sNew_spec {x : SW} (H : Ze) : F (psys x) 16 [] H fun v G => v = .ptr (some (H.length, 0)) ∧ G = H ++ [gaB 0] := by
 refine Zy Tryd.func16 rfl u3 rfl ?_
 refine Zd (Za ?_)
 refine Lo u3 (Zj (VVal.ptr none) (.inr rfl) rfl) ?_
 refine Zf (Zc (Zd (Za ?_)))
 refine Lo u3 (rfl) ?_
 refine Lo u3 (ZE rfl rfl rfl) ?_
 refine Lo u3 (Zb (.inr rfl) rfl) ?_
 refine Zf (Zc (Zn ?_))
 refine E_keep (.inr rfl) (Zi rfl rfl) ?_
 exact ⟨rfl, rfl⟩
end Go.Proofs.YtenkjadobkjaeaaDoor.VT
