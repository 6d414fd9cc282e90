/- Proved: Rows.TallyLiveCardSaid, the statement TallyLive with its card, of the given program at the commit; no conditions beyond those in the statement. -/
import Derived.Test.YtenkjadobkjaeaaDoorC3x15
set_option autoImplicit false
set_option linter.unusedVariables false
set_option linter.unusedSimpArgs false
set_option maxHeartbeats 4000000
set_option maxRecDepth 100000
namespace Go.Proofs.YtenkjadobkjaeaaDoor.VT
open Go Go.V Go.RowKit
abbrev u69 {a0 a1 a2 a3 a4 a5 a6 a7 a8 a9 a10 a11 a12 a13 a14 a15 a16 a17 a18 a19 a20 a21 a22 a23 a24 a25 a26 a27 a28 a29 a30 a31 a32 a33 a34 a35 a36 a37 a38 a39 a40 a41 a42 a43 a44 a45 a46 a47 a48 a49 a50 a51 a52 a53 a54 a55 a56 a57 a58 a59 a60 a61 a62 a63 a64 a65 a66 a67 a68 : VVal} : VEnv := a0 :: a1 :: a2 :: a3 :: a4 :: a5 :: a6 :: a7 :: a8 :: a9 :: a10 :: a11 :: a12 :: a13 :: a14 :: a15 :: a16 :: a17 :: a18 :: a19 :: a20 :: a21 :: a22 :: a23 :: a24 :: a25 :: a26 :: a27 :: a28 :: a29 :: a30 :: a31 :: a32 :: a33 :: a34 :: a35 :: a36 :: a37 :: a38 :: a39 :: a40 :: a41 :: a42 :: a43 :: a44 :: a45 :: a46 :: a47 :: a48 :: a49 :: a50 :: a51 :: a52 :: a53 :: a54 :: a55 :: a56 :: a57 :: a58 :: a59 :: a60 :: a61 :: a62 :: a63 :: a64 :: a65 :: a66 :: a67 :: a68 :: []
theorem W5s {T : TypeId → Option VTy} {H : Zf} {op : Op} {ρ : Operand → VVal} {t : TypeId} {a : Operand} {y : VTy} {p v : VVal} (ho : op = .load t a) (ha : ρ a = p) (hy : T t = some y) (hd : Zo y.desc = false) (h : LdOk H p v := by first | exact .inl ⟨_, _, rfl, by first | exact fget (α := BitVec 64) 0 (by omega) | exact fget0 (α := Int) 0 (by omega) | rfl⟩ | exact .inr ⟨_, _, _, _, rfl, by first | exact tr_q hqH | exact tr_p hpH hpq, by first | exact fget (α := BitVec 64) 0 (by omega) | exact fget0 (α := Int) 0 (by omega) | rfl⟩) : vop T ρ H op = some (v, H) := v_ld ho ha hy hd h
theorem W5u {T : TypeId → Option VTy} {H : Zf} {op : Op} {ρ : VEnv} {H' : Zf} {t : TypeId} {a : Operand} {i : Nat} {v : VVal} {y : VTy} {b off : Nat} {cs new : List VVal} (ho : op = .store t a (.tmp i)) (hv : ρ[i]? = some v) (ha : ρ.eval a = .ptr (some (b, off))) (hy : T t = some y) (hx : v.cells = some new) (hn : new.length = y.size) (h1 : new.all VVal.one = true) (hb : H[b]? = some (.cells cs true) := by first | exact tr_q hqH | exact tr_p hpH hpq) (hl : off + new.length ≤ cs.length := by exact XH48) (hH : H.set b (.cells (ZD cs off new) true) = H' := by exact tr_setq hqH) : vop T ρ.eval H op = some (.skip, H') := Z5 ho hv ha hy hx hn h1 hb hl hH
theorem W5v {T : TypeId → Option VTy} {H : Zf} {op : Op} {ρ : Operand → VVal} {t : TypeId} {a : Operand} {y : VTy} {p v : VVal} (ho : op = .load t a) (ha : ρ a = p) (hy : T t = some y) (hd : Zo y.desc = false) (h : LdOk H p v := by first | exact .inl ⟨_, _, rfl, by exact fget0 (α := Int) (l := s1.1) 0 (by omega)⟩ | exact .inr ⟨_, _, _, _, rfl, by first | exact tr_q hqH | exact tr_p hpH hpq, by exact fget0 (α := Int) (l := s1.1) 0 (by omega)⟩) : vop T ρ H op = some (v, H) := v_ld ho ha hy hd h
theorem W5w {T : TypeId → Option VTy} {H : Zf} {op : Op} {ρ : VEnv} {H' : Zf} {t : TypeId} {a : Operand} {i : Nat} {v : VVal} {y : VTy} {b off : Nat} {cs new : List VVal} (ho : op = .store t a (.tmp i)) (hv : ρ[i]? = some v) (ha : ρ.eval a = .ptr (some (b, off))) (hy : T t = some y) (hx : v.cells = some new) (hn : new.length = y.size) (h1 : new.all VVal.one = true) (hb : H[b]? = some (.cells cs true) := by first | exact tr_q hqH | exact tr_p hpH hpq) (hl : off + new.length ≤ cs.length := by first | exact has_len (s := (s1.1, 0#64)) (show i < s1.1.length by omega) | exact has_len (s := (trn rows n k (s1.1, s1.2 ||| 1#64 <<< u)).2) (by rw [trn_len]; show i < s1.1.length; omega)) (hH : H.set b (.cells (ZD cs off new) true) = H' := by first | exact tr_setp hpH hpq (show i < s1.1.length by omega) | exact tr_setp hpH hpq (by rw [trn_len]; show i < s1.1.length; omega)) : vop T ρ.eval H op = some (.skip, H') := Z5 ho hv ha hy hx hn h1 hb hl hH
theorem W5x {S : V.Sys} {H : Zf} {fn : Func} {ex : Exit} {env : VEnv} {B L : Zf} {v : VVal} {R : VVal → Zf → Prop} (hx : ex = .normal ∨ ex = .ret) (hv : ZX S.C.T env (B ++ L) fn.results = some v) (h : R v B) (hB : BaseOk H B := by exact tr_base) (hu : v.under H.length = true := by first | rfl | simp [VVal.under, VVal.underL, *]) : fnK S fn H R ex env (B ++ L) := Yz hx hv hB hu h
theorem W5y {P : Prop} (h : P := by first | (obtain rfl : u = 64 := by omega); exact ⟨by rw [hg]; rfl, by rw [hg]; rfl⟩ | exact ⟨by rw [hg, hf, if_pos (by omega)], by rw [hg, hf, if_pos (by omega)]; rfl⟩ | exact ⟨by rw [hg, hf, if_neg (by omega), if_pos (by assumption)], by rw [hg, hf, if_neg (by omega), if_pos (by assumption)]; rfl⟩) : P := h
abbrev haB (has : List Int) : VBlk := .cells (has.map iI) true
def trH (H : Zf) (p q : Nat) (s : HSt) : Zf := (H.set p (haB s.1)).set q (seB s.2)
section
variable {H L : Zf} {p q : Nat} {s : HSt}
theorem trH_len {n : Nat} (h : H.length = n) : (trH H p q s).length = n := by unfold trH; rw [List.length_set, List.length_set]; exact h
theorem trH_id {has : List Int} {w : BitVec 64} (hp : H[p]? = some (haB has)) (hq : H[q]? = some (seB w)) : trH H p q (has, w) = H := by
  unfold trH; rw [← YF hp, ← YF hq]
theorem tr_q (hq : q < H.length) : (trH H p q s ++ L)[q]? = some (seB s.2) := by
  unfold trH; exact Zx (List.getElem?_set_self (by rw [List.length_set]; exact hq))
theorem tr_p (hp : p < H.length) (hpq : p ≠ q) : (trH H p q s ++ L)[p]? = some (haB s.1) := by
  unfold trH; exact Zx (by rw [List.getElem?_set_ne (Ne.symm hpq)]; exact List.getElem?_set_self hp)
theorem tr_setq {w : BitVec 64} (hq : q < H.length) : (trH H p q s ++ L).set q (seB w) = trH H p q (s.1, w) ++ L := by
  rw [Yr (by rw [trH_len rfl]; exact hq)]; unfold trH; rw [List.set_set]
theorem tr_setp0 {k : VBlk} (hp : p < H.length) (hpq : p ≠ q) : (trH H p q s ++ L).set p k = (H.set p k).set q (seB s.2) ++ L := by
  rw [Yr (by rw [trH_len rfl]; exact hp)]; unfold trH
  rw [List.set_comm _ _ (Ne.symm hpq), List.set_set]
theorem splice_i {l : List Int} {k : Nat} {r : Int} (h : k < l.length) : ZD (l.map iI) (0 + k * 1) [iI r] = (l.set k r).map iI := by
  rw [show 0 + k * 1 = k by omega]
  unfold ZD
  rw [List.map_set, List.set_eq_take_append_cons_drop, if_pos XH36]; simp
theorem tr_setp {i : Nat} {r : Int} (hp : p < H.length) (hpq : p ≠ q) (hi : i < s.1.length) : (trH H p q s ++ L).set p (.cells (ZD (s.1.map iI) (0 + i * 1) [iI r]) true) = trH H p q (s.1.set i r, s.2) ++ L := by
  rw [splice_i hi, tr_setp0 hp hpq]; rfl
theorem tr_tr {t : HSt} (hp : p < H.length) (hq : q < H.length) (hpq : p ≠ q) : trH (trH H p q s ++ L) p q t = trH H p q t ++ L := by
  have : trH (trH H p q s ++ L) p q t = ((trH H p q s ++ L).set p (haB t.1)).set q (seB t.2) := rfl
  rw [this, tr_setp0 hp hpq, Yr (by simp; exact hq), List.set_set]; rfl
theorem tr_base : BaseOk H (trH H p q s) := BaseOk.set (BaseOk.set (BaseOk.refl _) _ (by show VVal.underL _ (s.1.map iI) = true; exact Y3 _ _)) _ rfl
theorem has_len {i : Nat} {v : VVal} (h : i < s.1.length) : 0 + i * 1 + [v].length ≤ (s.1.map iI).length := by
  show 0 + i * 1 + 1 ≤ (s.1.map iI).length
  rw [List.length_map]; omega
end
theorem trn_len {rows : List (BitVec 64)} : ∀ {n i : Nat} {s : HSt}, (trn rows n i s).2.1.length = s.1.length := by
  have hL : ∀ (g : Nat → HSt → Bool × HSt), (∀ k s, (g k s).2.1.length = s.1.length) → ∀ (i : Nat) (l : List Nat) (s : HSt), (trL g rows i l s).2.1.length = s.1.length := by
    intro g hg i l
    induction l with
    | nil => intro s; rfl
    | cons u l ih =>
      intro s
      rw [trL]
      split
      · exact ih s
      · split
        · simp
        · split
          · simp [hg]
          · rw [ih, hg]
  intro n
  induction n with
  | zero => intro i s; rfl
  | succ n ih => intro i s; rw [trn]; exact hL _ (fun k s => ih) i _ s
theorem trn_sub {rows : List (BitVec 64)} : ∀ {n i : Nat} {s : HSt}, subW s.2 (trn rows n i s).2.2 := by
  have hL : ∀ (g : Nat → HSt → Bool × HSt), (∀ k s, subW s.2 (g k s).2.2) → ∀ (i : Nat) (l : List Nat) (s : HSt), (∀ u, u ∈ l → u < 64) → subW s.2 (trL g rows i l s).2.2 := by
    intro g hg i l
    induction l with
    | nil => intro s _ _ h; exact h
    | cons u l ih =>
      intro s hl
      have hu := hl u (List.mem_cons_self ..)
      have hl' : ∀ v, v ∈ l → v < 64 := fun v hv => hl v (List.mem_cons_of_mem _ hv)
      have h1 : subW s.2 (s.2 ||| 1#64 <<< u) := fun a ha => (or1 hu).2 (.inl ha)
      have h2 := hg (fndK s.1 u) (s.1, s.2 ||| 1#64 <<< u)
      rw [trL]
      split
      · exact ih s hl'
      · split
        · exact h1
        · split
          · exact fun a ha => h2 a (h1 a ha)
          · exact fun a ha => ih _ hl' a (h2 a (h1 a ha))
  intro n
  induction n with
  | zero => intro i s _ h; exact h
  | succ n ih => intro i s; rw [trn]; exact hL _ (fun k s => ih) i _ s fun u hu => List.mem_range.1 hu
theorem sh_not0 {d : BitVec 64} {k : Nat} (h : ¬ d >>> k &&& 1#64 = 0#64) : d.getLsbD k = true := by rw [sh0] at h; simpa using h
theorem YX {g : Nat → HSt → Bool × HSt} {rows : List (BitVec 64)} {i u : Nat} {s : HSt} (hu : u < 64) : trL g rows i ((List.range 64).drop u) s = if (rows.getD i 0).getLsbD u = false ∨ s.2.getLsbD u = true then trL g rows i ((List.range 64).drop (u + 1)) s
    else if fndK s.1 u = s.1.length then (true, (s.1.set i (u : Int), s.2 ||| 1#64 <<< u))
    else if (g (fndK s.1 u) (s.1, s.2 ||| 1#64 <<< u)).1 = true then (true, ((g (fndK s.1 u) (s.1, s.2 ||| 1#64 <<< u)).2.1.set i (u : Int), (g (fndK s.1 u) (s.1, s.2 ||| 1#64 <<< u)).2.2))
    else trL g rows i ((List.range 64).drop (u + 1)) (g (fndK s.1 u) (s.1, s.2 ||| 1#64 <<< u)).2 := by
  rw [List.drop_eq_getElem_cons (by simpa using hu), trL]; simp only [List.getElem_range]
theorem turn_in {x : SW} {p q n : Nat} {ex : Bool} {rows : List (BitVec 64)} (hpq : p ≠ q) (ih : ∀ (H : Zf) (i : Nat) (has : List Int) (S : BitVec 64), H[p]? = some (haB has) → H[q]? = some (seB S) → i < rows.length → has.length = rows.length → 64 - Yw 64 S < n → F (psys x) 156 [fzW rows, .slice (some (p, 0)) rows.length rows.length ex 1, .ptr (some (q, 0)), iI (i : Nat)] H fun v G => v = .bool (trn rows n i (has, S)).1 ∧ G = trH H p q (trn rows n i (has, S)).2) (H L : Zf) (s : HSt) (hp : p < H.length) (hq : q < H.length) (i : Nat) (hi : i < rows.length) (hk : s.1.length = rows.length) (hm : 64 - Yw 64 s.2 < n) :
    F (psys x) 156 [fzW rows, .slice (some (p, 0)) rows.length rows.length ex 1, .ptr (some (q, 0)), iI (i : Nat)] (trH H p q s ++ L) fun v G => v = .bool (trn rows n i s).1 ∧ G = trH H p q (trn rows n i s).2 ++ L := by
  have := ih (trH H p q s ++ L) i s.1 s.2 (tr_p hp hpq) (tr_q hq) hi hk hm
  rw [tr_tr hp hq hpq] at this
  exact this
theorem turn_s {x : SW} (p q n : Nat) (ex : Bool) (rows : List (BitVec 64)) (hpq : p ≠ q) (h62 : rows.length ≤ 1000000) (ih : ∀ (H : Zf) (i : Nat) (has : List Int) (S : BitVec 64), H[p]? = some (haB has) → H[q]? = some (seB S) → i < rows.length → has.length = rows.length → 64 - Yw 64 S < n → F (psys x) 156 [fzW rows, .slice (some (p, 0)) rows.length rows.length ex 1, .ptr (some (q, 0)), iI (i : Nat)] H fun v G => v = .bool (trn rows n i (has, S)).1 ∧ G = trH H p q (trn rows n i (has, S)).2) (H : Zf) (i : Nat) (has : List Int) (S : BitVec 64) (hp : H[p]? = some (haB has)) (hq : H[q]? = some (seB S)) (hi : i < rows.length) (hhl : has.length = rows.length) (hm : 64 - Yw 64 S < n + 1) : F (psys x) 156 [fzW rows, .slice (some (p, 0)) rows.length rows.length ex 1, .ptr (some (q, 0)), iI (i : Nat)] H fun v G => v = .bool (trn rows (n + 1) i (has, S)).1 ∧ G = trH H p q (trn rows (n + 1) i (has, S)).2 := by
 have hpH := ZV hp
 have hqH := ZV hq
 refine Zq Tryd.func156 rfl u69 rfl ?_
 refine Zd (Za ?_)
 refine Lo u69 (Zg (VVal.bool false) (.inr rfl) rfl) ?_
 refine Ze (Zc (Zd (Zd (Za ?_))))
 refine Lo u69 (Zg (VVal.int .i64 0) (.inr rfl) rfl) ?_
 refine Ze (Zc (Zl ?_))
 refine Zu (mk 69 590295810358705651184) (env' := u69) rfl ?_
 refine ZA (fun (⟨u, s1⟩ : Nat × HSt) => 64 - u) (fun (⟨u, s1⟩ : Nat × HSt) => [(9, iI (u : Nat))]) (fun (⟨u, s1⟩ : Nat × HSt) G => (u ≤ 64 ∧ s1.1.length = rows.length ∧ 64 - Yw 64 s1.2 ≤ n ∧ trn rows (n + 1) i (has, S) = trL (trn rows n) rows i ((List.range 64).drop u) s1) ∧ G = trH H p q s1 ++ []) ⟨0, (has, S)⟩ rfl ?_ ?_
 ·refine ⟨?_, (by rw [trH_id hp hq])⟩
  exact ⟨Nat.zero_le _, hhl, by show 64 - Yw 64 S ≤ n; omega, rfl⟩
 rintro ⟨u, s1⟩ _ ⟨⟨hu, hl1, hcm, hg⟩, rfl⟩
 refine ZR (env' := u69) rfl ?_
 have hil : i < s1.1.length := by omega
 refine Zd (Zd (Za ?_))
 refine Lo u69 (Zb (.inl rfl) rfl) ?_
 refine Lo u69 (rfl) ?_
 refine Ze (Zc ?_)
 refine Zk _ rfl (fun hc1 => ?_) (fun hc1 => ?_)
 ·try simp only [qB] at hc1
  refine Zj (Zc (Zd (Zl (Zd (Zd (Za ?_))))))
  refine Lo u69 (Zb (.inl rfl) rfl) ?_
  refine Lo u69 (Zb (.inl rfl) rfl) ?_
  refine Lo u69 (W18 rfl rfl rfl rfl rfl rfl rfl) ?_
  refine Lo u69 (W5s rfl rfl rfl rfl) ?_
  refine Lo u69 (Zb (.inl rfl) rfl) ?_
  refine Lo u69 (v_shrW rfl rfl rfl XH1) ?_
  refine Lo u69 (v_andW (b := 1#64) rfl rfl rfl) ?_
  refine Lo u69 (rfl) ?_
  refine Lo u69 (Zb (.inl rfl) rfl) ?_
  refine Zy 23 (env1 := u69) (env2 := u69) rfl rfl rfl (fun hg2 => ?_) (fun hg2 => ?_)
  ·try simp only [qB] at hg2
   refine Lf u69 ?_
   refine Lf u69 ?_
   refine Lf u69 ?_
   refine Lf u69 ?_
   refine Lf u69 ?_
   refine Lf u69 ?_
   refine Lf u69 ?_
   refine Lo u69 (ZF (VVal.bool true) rfl rfl rfl) ?_
   refine Ze (Zc ?_)
   refine ZM rfl rfl ?_
   refine ZH (ZI (ZG (Zc (Za ?_))))
   refine Lo u69 (Zb (.inl rfl) rfl) ?_
   refine Lo u69 (W14 rfl rfl rfl) ?_
   refine Lo u69 (Zb (.inr rfl) rfl) ?_
   refine Ze ?_
   refine Zs (mk 69 590295810358705651184) (env' := u69) rfl ⟨⟨u + 1, s1⟩, ?_, rfl, ?_⟩
   ·first | omega | (simp only []; omega)
   ·first | exact ⟨⟨by omega, hl1, hcm, by rw [hg, YX (by omega), if_pos (.inl (sh0.1 (by assumption)))]⟩, rfl⟩ | exact ⟨⟨by omega, hl1, hcm, by rw [hg, YX (by omega), if_pos (.inr (sh1.1 (by assumption)))]⟩, rfl⟩ | exact ⟨⟨by omega, trn_len.trans hl1, XH16, by rw [hg, hf, if_neg (by omega), if_neg (Yp (by assumption))]⟩, rfl⟩
  ·try simp only [qB] at hg2
   refine Lo u69 (Zb (.inl rfl) rfl) ?_
   refine Lo u69 (rfl) ?_
   refine Lo u69 (W5s rfl rfl rfl rfl) ?_
   refine Lo u69 (Zb (.inl rfl) rfl) ?_
   refine Lo u69 (v_shrW rfl rfl rfl XH1) ?_
   refine Lo u69 (v_andW (b := 1#64) rfl rfl rfl) ?_
   refine Lo u69 (rfl) ?_
   refine Lo u69 (ZW rfl rfl rfl) ?_
   refine Ze (Zc ?_)
   refine Zk _ rfl (fun hc3 => ?_) (fun hc3 => ?_)
   ·try simp only [qB] at hc3
    refine ZH (ZI (ZG (Zc (Za ?_))))
    refine Lo u69 (Zb (.inl rfl) rfl) ?_
    refine Lo u69 (W14 rfl rfl rfl) ?_
    refine Lo u69 (Zb (.inr rfl) rfl) ?_
    refine Ze ?_
    refine Zs (mk 69 590295810358705651184) (env' := u69) rfl ⟨⟨u + 1, s1⟩, ?_, rfl, ?_⟩
    ·first | omega | (simp only []; omega)
    ·first | exact ⟨⟨by omega, hl1, hcm, by rw [hg, YX (by omega), if_pos (.inl (sh0.1 (by assumption)))]⟩, rfl⟩ | exact ⟨⟨by omega, hl1, hcm, by rw [hg, YX (by omega), if_pos (.inr (sh1.1 (by assumption)))]⟩, rfl⟩ | exact ⟨⟨by omega, trn_len.trans hl1, XH16, by rw [hg, hf, if_neg (by omega), if_neg (Yp (by assumption))]⟩, rfl⟩
   ·try simp only [qB] at hc3
    refine Zj (Zc (Zd ?_))
    have hu64 : u < 64 := by omega
    have hbit : (rows.getD i 0).getLsbD u = true := sh_not0 (by assumption)
    have hseen : s1.2.getLsbD u = false := sh1n.1 (by assumption)
    have hcond : ¬ ((rows.getD i 0).getLsbD u = false ∨ s1.2.getLsbD u = true) := fun e => e.elim (fun h => by rw [hbit] at h; cases h) (fun h => by rw [hseen] at h; cases h)
    have hcg := come_grow (s := s1.2) (t := s1.2 ||| 1#64 <<< u) (fun a ha => (or1 hu64).2 (.inl ha)) ⟨u, (or1 hu64).2 (.inr rfl), hseen⟩
    have hcl := come_le (s1.2 ||| 1#64 <<< u)
    rw [YX hu64, if_neg hcond] at hg
    refine ZS [0, 1, 2, 3, 4, 5, 6, 7, 8] #[0, 0, 2, 6, 0, 16, 62, 127, 255] XH5 XH5 XH5 ?_
    refine Oo u69 .calm rfl (Zb (.inl rfl) rfl) ?_
    refine Oo u69 .calm rfl (Zb (.inl rfl) rfl) ?_
    refine Oo u69 .calm rfl (rfl) ?_
    refine Oo u69 .look rfl (W5s rfl rfl rfl rfl) ?_
    refine Oo u69 .calm rfl (Zb (.inl rfl) rfl) ?_
    refine Oo u69 .calm rfl (v_shl1 rfl rfl rfl XH1) ?_
    refine Oo u69 .calm rfl (v_orW rfl rfl rfl) ?_
    refine Oo u69 .calm rfl (rfl) ?_
    refine Oo u69 .turn rfl (W5u rfl rfl rfl rfl rfl rfl rfl) ?_
    refine ZY [] XH5 (trivial) ?_
    refine Zc (Zd (Za ?_))
    refine Lo u69 (Zg (VVal.int .i64 0) (.inr rfl) rfl) ?_
    refine Ze (Zc (Zd (Zl ?_)))
    refine Zu (mk 69 590295810358705650160) (env' := u69) rfl ?_
    refine ZA (fun (k : Nat) => rows.length - k) (fun (k : Nat) => [(10, iI (k : Nat))]) (fun (k : Nat) G => (k ≤ rows.length ∧ ∀ j, j < k → s1.1.getD j 0 ≠ (u : Int)) ∧ G = trH H p q (s1.1, s1.2 ||| 1#64 <<< u) ++ []) 0 rfl ?_ ?_
    ·refine ⟨?_, rfl⟩
     exact ⟨Nat.zero_le _, fun j h => by omega⟩
    rintro k _ ⟨⟨hk, hno⟩, rfl⟩
    refine ZR (env' := u69) rfl ?_
    refine Zd (Zd (Za ?_))
    refine Lo u69 (Zb (.inl rfl) rfl) ?_
    refine Lo u69 (Zb (.inl rfl) rfl) ?_
    refine Lo u69 (rfl) ?_
    refine Lo u69 (rfl) ?_
    refine Lo u69 (Zb (.inl rfl) rfl) ?_
    refine Zy 44 (env1 := u69) (env2 := u69) rfl rfl rfl (fun hg4 => ?_) (fun hg4 => ?_)
    ·try simp only [qB] at hg4
     refine Lo u69 (Zb (.inl rfl) rfl) ?_
     refine Lo u69 (Zb (.inl rfl) rfl) ?_
     refine Lo u69 (W18 rfl rfl rfl rfl rfl rfl rfl) ?_
     refine Lo u69 (W5v rfl rfl rfl rfl) ?_
     refine Lo u69 (Zb (.inl rfl) rfl) ?_
     refine Lo u69 (rfl) ?_
     refine Lo u69 (ZP rfl rfl rfl) ?_
     refine Ze (Zc ?_)
     refine Zk _ rfl (fun hc5 => ?_) (fun hc5 => ?_)
     ·try simp only [qB] at hc5
      refine Zj (Zc (Zl (Za ?_)))
      refine Lo u69 (Zb (.inl rfl) rfl) ?_
      refine Lo u69 (W14 rfl rfl rfl) ?_
      refine Lo u69 (Zb (.inr rfl) rfl) ?_
      refine Ze (Zr ?_)
      refine Zs (mk 69 590295810358705650160) (env' := u69) rfl ⟨k + 1, ?_, rfl, ?_⟩
      ·first | omega | (simp only []; omega)
      ·exact ⟨⟨by omega, fun j hj => by by_cases e : j = k; (subst e; assumption); exact hno j (by omega)⟩, rfl⟩
     ·try simp only [qB] at hc5
      refine ZH (ZI (Zw (ZG (Zc (Zd ?_)))))
      have hf : fndK s1.1 u = k := fndK_is (by omega) hno (by first | exact .inr (by assumption) | exact .inl (by omega))
      refine Za ?_
      refine Lo u69 (Zb (.inl rfl) rfl) ?_
      refine Lo u69 (Zb (.inl rfl) rfl) ?_
      refine Lo u69 (rfl) ?_
      refine Lo u69 (rfl) ?_
      refine Lo u69 (Zb (.inl rfl) rfl) ?_
      refine Zy 58 (env1 := u69) (env2 := u69) rfl rfl rfl (fun hg6 => ?_) (fun hg6 => ?_)
      ·try simp only [qB] at hg6
       refine Lf u69 ?_
       refine Lf u69 ?_
       refine Lf u69 ?_
       refine Lf u69 ?_
       refine Lf u69 ?_
       refine Lo u69 (ZF (VVal.bool true) rfl rfl rfl) ?_
       refine Ze (Zc ?_)
       refine ZM rfl rfl ?_
       refine Zd (Za ?_)
       refine Lo u69 (Zb (.inl rfl) rfl) ?_
       refine Lo u69 (Zb (.inl rfl) rfl) ?_
       refine Lo u69 (Zb (.inl rfl) rfl) ?_
       refine Lo u69 (W18 rfl rfl rfl rfl rfl rfl rfl) ?_
       refine Lo u69 (W5w rfl rfl rfl rfl rfl rfl rfl) ?_
       refine Ze (Zc (Zd (Za ?_)))
       refine Lo u69 (Zg (VVal.bool true) (.inr rfl) rfl) ?_
       refine Ze (Zc (Zi (ZE (Zm (Yf (ZE (Zm ?_)))))))
       refine W5x (.inr rfl) (Zh rfl rfl) ?_
       exact W5y
      ·try simp only [qB] at hg6
       refine Lo u69 (Zb (.inl rfl) rfl) ?_
       refine Lo u69 (Zb (.inl rfl) rfl) ?_
       refine Lo u69 (Zb (.inl rfl) rfl) ?_
       refine Lo u69 (Zb (.inl rfl) rfl) ?_
       refine Zv rfl rfl rfl XH39 ?_
       rintro _ _ ⟨rfl, rfl⟩
       refine Le u69 ?_
       refine Lo u69 (ZW rfl rfl rfl) ?_
       refine Ze (Zc ?_)
       refine Zk _ rfl (fun hc7 => ?_) (fun hc7 => ?_)
       ·try simp only [qB] at hc7
        refine Zd (Za ?_)
        refine Lo u69 (Zb (.inl rfl) rfl) ?_
        refine Lo u69 (Zb (.inl rfl) rfl) ?_
        refine Lo u69 (Zb (.inl rfl) rfl) ?_
        refine Lo u69 (W18 rfl rfl rfl rfl rfl rfl rfl) ?_
        refine Lo u69 (W5w rfl rfl rfl rfl rfl rfl rfl) ?_
        refine Ze (Zc (Zd (Za ?_)))
        refine Lo u69 (Zg (VVal.bool true) (.inr rfl) rfl) ?_
        refine Ze (Zc (Zi (ZE (Zm (Yf (ZE (Zm ?_)))))))
        refine W5x (.inr rfl) (Zh rfl rfl) ?_
        exact W5y
       ·try simp only [qB] at hc7
        refine Zj (Zr (Zc (Za ?_)))
        refine Lo u69 (Zb (.inl rfl) rfl) ?_
        refine Lo u69 (W14 rfl rfl rfl) ?_
        refine Lo u69 (Zb (.inr rfl) rfl) ?_
        refine Ze ?_
        refine Zs (mk 69 590295810358705651184) (env' := u69) rfl ⟨⟨u + 1, (trn rows n k (s1.1, s1.2 ||| 1#64 <<< u)).2⟩, ?_, rfl, ?_⟩
        ·first | omega | (simp only []; omega)
        ·first | exact ⟨⟨by omega, hl1, hcm, by rw [hg, YX (by omega), if_pos (.inl (sh0.1 (by assumption)))]⟩, rfl⟩ | exact ⟨⟨by omega, hl1, hcm, by rw [hg, YX (by omega), if_pos (.inr (sh1.1 (by assumption)))]⟩, rfl⟩ | exact ⟨⟨by omega, trn_len.trans hl1, XH16, by rw [hg, hf, if_neg (by omega), if_neg (Yp (by assumption))]⟩, rfl⟩
    ·try simp only [qB] at hg4
     refine Lf u69 ?_
     refine Lf u69 ?_
     refine Lf u69 ?_
     refine Lf u69 ?_
     refine Lf u69 ?_
     refine Lf u69 ?_
     refine Lo u69 (ZB (VVal.bool false) rfl rfl rfl) ?_
     refine Ze (Zc ?_)
     refine Ym rfl rfl ?_
     refine ZH (ZI (Zw (ZG (Zc (Zd ?_)))))
     have hf : fndK s1.1 u = k := fndK_is (by omega) hno (by first | exact .inr (by assumption) | exact .inl (by omega))
     refine Za ?_
     refine Lo u69 (Zb (.inl rfl) rfl) ?_
     refine Lo u69 (Zb (.inl rfl) rfl) ?_
     refine Lo u69 (rfl) ?_
     refine Lo u69 (rfl) ?_
     refine Lo u69 (Zb (.inl rfl) rfl) ?_
     refine Zy 58 (env1 := u69) (env2 := u69) rfl rfl rfl (fun hg8 => ?_) (fun hg8 => ?_)
     ·try simp only [qB] at hg8
      refine Lf u69 ?_
      refine Lf u69 ?_
      refine Lf u69 ?_
      refine Lf u69 ?_
      refine Lf u69 ?_
      refine Lo u69 (ZF (VVal.bool true) rfl rfl rfl) ?_
      refine Ze (Zc ?_)
      refine ZM rfl rfl ?_
      refine Zd (Za ?_)
      refine Lo u69 (Zb (.inl rfl) rfl) ?_
      refine Lo u69 (Zb (.inl rfl) rfl) ?_
      refine Lo u69 (Zb (.inl rfl) rfl) ?_
      refine Lo u69 (W18 rfl rfl rfl rfl rfl rfl rfl) ?_
      refine Lo u69 (W5w rfl rfl rfl rfl rfl rfl rfl) ?_
      refine Ze (Zc (Zd (Za ?_)))
      refine Lo u69 (Zg (VVal.bool true) (.inr rfl) rfl) ?_
      refine Ze (Zc (Zi (ZE (Zm (Yf (ZE (Zm ?_)))))))
      refine W5x (.inr rfl) (Zh rfl rfl) ?_
      exact W5y
     ·try simp only [qB] at hg8
      refine Lo u69 (Zb (.inl rfl) rfl) ?_
      refine Lo u69 (Zb (.inl rfl) rfl) ?_
      refine Lo u69 (Zb (.inl rfl) rfl) ?_
      refine Lo u69 (Zb (.inl rfl) rfl) ?_
      refine Zv rfl rfl rfl XH39 ?_
      rintro _ _ ⟨rfl, rfl⟩
      refine Le u69 ?_
      refine Lo u69 (ZW rfl rfl rfl) ?_
      refine Ze (Zc ?_)
      refine Zk _ rfl (fun hc9 => ?_) (fun hc9 => ?_)
      ·try simp only [qB] at hc9
       refine Zd (Za ?_)
       refine Lo u69 (Zb (.inl rfl) rfl) ?_
       refine Lo u69 (Zb (.inl rfl) rfl) ?_
       refine Lo u69 (Zb (.inl rfl) rfl) ?_
       refine Lo u69 (W18 rfl rfl rfl rfl rfl rfl rfl) ?_
       refine Lo u69 (W5w rfl rfl rfl rfl rfl rfl rfl) ?_
       refine Ze (Zc (Zd (Za ?_)))
       refine Lo u69 (Zg (VVal.bool true) (.inr rfl) rfl) ?_
       refine Ze (Zc (Zi (ZE (Zm (Yf (ZE (Zm ?_)))))))
       refine W5x (.inr rfl) (Zh rfl rfl) ?_
       exact W5y
      ·try simp only [qB] at hc9
       refine Zj (Zr (Zc (Za ?_)))
       refine Lo u69 (Zb (.inl rfl) rfl) ?_
       refine Lo u69 (W14 rfl rfl rfl) ?_
       refine Lo u69 (Zb (.inr rfl) rfl) ?_
       refine Ze ?_
       refine Zs (mk 69 590295810358705651184) (env' := u69) rfl ⟨⟨u + 1, (trn rows n k (s1.1, s1.2 ||| 1#64 <<< u)).2⟩, ?_, rfl, ?_⟩
       ·first | omega | (simp only []; omega)
       ·first | exact ⟨⟨by omega, hl1, hcm, by rw [hg, YX (by omega), if_pos (.inl (sh0.1 (by assumption)))]⟩, rfl⟩ | exact ⟨⟨by omega, hl1, hcm, by rw [hg, YX (by omega), if_pos (.inr (sh1.1 (by assumption)))]⟩, rfl⟩ | exact ⟨⟨by omega, trn_len.trans hl1, XH16, by rw [hg, hf, if_neg (by omega), if_neg (Yp (by assumption))]⟩, rfl⟩
 ·try simp only [qB] at hc1
  refine ZH (ZI (Zw (ZG (Zc (Zd (Za ?_))))))
  refine Lo u69 (Zg (VVal.bool false) (.inr rfl) rfl) ?_
  refine Ze (Zc (Zi ?_))
  refine W5x (.inr rfl) (Zh rfl rfl) ?_
  exact W5y
abbrev u36 {a0 a1 a2 a3 a4 a5 a6 a7 a8 a9 a10 a11 a12 a13 a14 a15 a16 a17 a18 a19 a20 a21 a22 a23 a24 a25 a26 a27 a28 a29 a30 a31 a32 a33 a34 a35 : VVal} : VEnv := a0 :: a1 :: a2 :: a3 :: a4 :: a5 :: a6 :: a7 :: a8 :: a9 :: a10 :: a11 :: a12 :: a13 :: a14 :: a15 :: a16 :: a17 :: a18 :: a19 :: a20 :: a21 :: a22 :: a23 :: a24 :: a25 :: a26 :: a27 :: a28 :: a29 :: a30 :: a31 :: a32 :: a33 :: a34 :: a35 :: []
theorem W5z {S : V.Sys} {H : Zf} {fn : Func} {ex : Exit} {env : VEnv} {B L : Zf} {v : VVal} {R : VVal → Zf → Prop} (hx : ex = .normal ∨ ex = .ret) (hv : ZX S.C.T env (B ++ L) fn.results = some v) (h : R v B) (hB : BaseOk H B := by exact XH51) (hu : v.under H.length = true := by first | rfl | simp [VVal.under, VVal.underL, YJ, *]) : fnK S fn H R ex env (B ++ L) := Yz hx hv hB hu h
theorem W60 {P : Prop} (h : P := by first | exact ⟨by rw [szV, if_neg (by omega)], rfl⟩ | (obtain rfl : k = rows.length := by omega); exact ⟨by rw [szV, if_pos (by omega), rsz_all], rfl⟩) : P := h
theorem W63 {T : TypeId → Option VTy} {H : Zf} {op : Op} {ρ : Operand → VVal} {t ty : TypeId} {x y : Operand} {n m : Int} (ho : op = .binOp .add t x y ty) (hx : ρ x = .int .i64 n) (hy : ρ y = .int .i64 m) (h : -9223372036854775808 ≤ n + m ∧ n + m < 9223372036854775808 := by have := rsz_le (rows := rows) (k := k) (by omega); omega) : vop T ρ H op = some (.int .i64 (n + m), H) := YY ho hx hy h
theorem W65 {P : Prop} (h : P := by first | exact ⟨by rw [full_sz, decide_eq_true (by omega), Bool.true_and, ← beq_nat]; rw [szV, if_pos (by omega)], rfl⟩ | exact ⟨by rw [decide_eq_false (by omega), Bool.false_and], rfl⟩) : P := h
theorem turn_spec {x : SW} (p q : Nat) (ex : Bool) (rows : List (BitVec 64)) (hpq : p ≠ q) (h62 : rows.length ≤ 1000000) : ∀ (n : Nat) (H : Zf) (i : Nat) (has : List Int) (S : BitVec 64), H[p]? = some (haB has) → H[q]? = some (seB S) → i < rows.length → has.length = rows.length → 64 - Yw 64 S < n → F (psys x) 156 [fzW rows, .slice (some (p, 0)) rows.length rows.length ex 1, .ptr (some (q, 0)), iI (i : Nat)] H fun v G => v = .bool (trn rows n i (has, S)).1 ∧ G = trH H p q (trn rows n i (has, S)).2
  | 0, _, _, _, _, _, _, _, _, h => absurd h (by omega)
  | n + 1, H, i, has, S, hp, hq, hi, hl, hm => turn_s p q n ex rows hpq h62 (fun H i has S a b c d e => turn_spec p q ex rows hpq h62 n H i has S a b c d e) H i has S hp hq hi hl hm
theorem turn_at {x : SW} (H : Zf) (ex : Bool) (rows : List (BitVec 64)) (has : List Int) (i : Nat) (hi : i < rows.length) (hl : has.length = rows.length) (h62 : rows.length ≤ 1000000) : F (psys x) 156 [fzW rows, .slice (some (H.length + 0, 0)) rows.length rows.length ex 1, .ptr (some (H.length + 1, 0)), iI (i : Nat)] (H ++ [haB has, seB 0#64]) fun v G => v = .bool (trn rows 65 i (has, 0#64)).1 ∧ G = H ++ [haB (trn rows 65 i (has, 0#64)).2.1, seB (trn rows 65 i (has, 0#64)).2.2] := by
  have := turn_spec (x := x) (H.length + 0) (H.length + 1) ex rows (by omega) h62 65 (H ++ [haB has, seB 0#64]) i has 0#64 (ZL rfl rfl) (ZL rfl rfl) hi hl (by rw [come_0]; omega)
  unfold trH at this
  rw [ZQ rfl, ZQ rfl] at this
  exact this
theorem haB_under {n : Nat} {has : List Int} : (haB has).under n = true := Y3 _ _
theorem rep_cells : ∀ {n : Nat}, ZC [VVal.int .i64 0] n = (List.replicate n (0 : Int)).map iI
  | 0 => rfl
  | n + 1 => by rw [ZC, rep_cells, List.replicate_succ]; rfl
def iniT (n k : Nat) : List Int := List.replicate k (-1) ++ List.replicate (n - k) 0
theorem iniT_len {n k : Nat} (h : k ≤ n) : (iniT n k).length = n := by unfold iniT; simp; omega
theorem iniT_set {n k : Nat} (h : k < n) : (iniT n k).set k (-1) = iniT n (k + 1) := by
  unfold iniT
  rw [List.set_append_right _ _ (by simp), List.length_replicate, Nat.sub_self, show n - k = (n - (k + 1)) + 1 by omega, List.replicate_succ, List.set_cons_zero, List.replicate_succ', List.append_assoc]; rfl
theorem iniT_all {n : Nat} : iniT n n = List.replicate n (-1) := by unfold iniT; simp
theorem rsz_len {rows : List (BitVec 64)} {k : Nat} (h : k ≤ rows.length) : (rsz rows k).1.length = rows.length := (rsz_cor h).1.hl
theorem rsz_le {rows : List (BitVec 64)} {k : Nat} (h : k ≤ rows.length) : (rsz rows k).2 ≤ k := by rw [(rsz_cor h).2.1]; exact szO_le
theorem full_sz {rows : List (BitVec 64)} : Yj rows 0#64 = (szN rows == rows.length) := by unfold Yj; rw [msk_0]
theorem refSize_spec {x : SW} (H : Zf) (rows : List (BitVec 64)) (h62 : rows.length ≤ 1000000) : F (psys x) 147 [fzW rows] H fun v G => v = iI (szV rows) ∧ G = H := by
 refine Zq Tryd.func147 rfl u36 rfl ?_
 refine Zd (Za ?_)
 refine Lo u36 (Zg (VVal.int .i64 0) (.inr rfl) rfl) ?_
 refine Ze (Zc (Zd (Zd (Za ?_))))
 refine Lo u36 (Zb (.inl rfl) rfl) ?_
 refine Lo u36 (rfl) ?_
 refine Lo u36 (rfl) ?_
 refine Ze (Zc ?_)
 refine Zk _ rfl (fun hc1 => ?_) (fun hc1 => ?_)
 ·try simp only [qB] at hc1
  refine Zd (Za ?_)
  refine Lo u36 (Zg (VVal.int .i64 0) (.inr rfl) rfl) ?_
  refine Ze (Zc (Zi (Zm ?_)))
  refine W5z (.inr rfl) (Zh rfl rfl) ?_
  exact W60
 ·try simp only [qB] at hc1
  refine Zj (Zc (Zd (Za ?_)))
  refine Lo u36 (Zb (.inl rfl) rfl) ?_
  refine Lo u36 (rfl) ?_
  refine Lo u36 (YS rfl rfl rfl rfl rfl (by decide) ⟨by omega, Int.le_refl _, by show (rows.length : Int) * (8 : Nat) ≤ _; omega, by omega⟩) ?_
  refine Lo u36 (Zb (.inr rfl) rfl) ?_
  refine Ze (Zc (Zd (Zd (Za ?_))))
  refine Lo u36 (Zg (VVal.int .i64 0) (.inr rfl) rfl) ?_
  refine Ze (Zc (Zl ?_))
  refine Zu (mk 36 68719476710) (env' := u36) rfl ?_
  refine ZA (fun (k : Nat) => rows.length - k) (fun (k : Nat) => [(4, iI (k : Nat))]) (fun (k : Nat) G => (k ≤ rows.length) ∧ G = H ++ [haB (iniT rows.length k)]) 0 rfl ?_ ?_
  ·refine ⟨?_, (by show _ ++ [VBlk.cells (ZC [VVal.int .i64 0] _) true] = _; rw [rep_cells]; rfl)⟩
   exact Nat.zero_le _
  rintro k _ ⟨hk, rfl⟩
  refine ZR (env' := u36) rfl ?_
  refine Zd (Zd (Za ?_))
  refine Lo u36 (Zb (.inl rfl) rfl) ?_
  refine Lo u36 (Zb (.inl rfl) rfl) ?_
  refine Lo u36 (rfl) ?_
  refine Lo u36 (rfl) ?_
  refine Ze (Zc ?_)
  refine Zk _ rfl (fun hc2 => ?_) (fun hc2 => ?_)
  ·try simp only [qB] at hc2
   refine Zj (Zc (Zd (Zl (Za ?_))))
   refine Lo u36 (Zb (.inl rfl) rfl) ?_
   refine Lo u36 (Zb (.inl rfl) rfl) ?_
   refine Lo u36 (W18 rfl rfl rfl rfl rfl rfl rfl) ?_
   refine Lo u36 (YE (VVal.int .i64 (-1)) rfl rfl rfl rfl rfl rfl rfl XH0 (by first | exact has_len (s := (iniT rows.length k, 0#64)) (by rw [iniT_len (by omega)]; omega)) (by exact (ZQ rfl).trans (congrArg (fun c => H ++ [VBlk.cells c true]) (splice_i (l := iniT rows.length k) (k := k) (r := -1) (by rw [iniT_len hk]; omega))))) ?_
   refine Ze (Zr (Zc (Za ?_)))
   refine Lo u36 (Zb (.inl rfl) rfl) ?_
   refine Lo u36 (W14 rfl rfl rfl) ?_
   refine Lo u36 (Zb (.inr rfl) rfl) ?_
   refine Ze ?_
   have hE : (iniT rows.length k).set (k : Int).toNat (-1) = iniT rows.length (k + 1) := iniT_set (by omega)
   refine Zs (mk 36 68719476710) (env' := u36) rfl ⟨k + 1, ?_, rfl, ?_⟩
   ·first | omega | (simp only []; omega)
   ·exact ⟨by omega, by rw [← hE]; rfl⟩
  ·try simp only [qB] at hc2
   refine ZH (ZI (Zw (ZG (Zc (Zd (Za ?_))))))
   refine Lo u36 (Zg (VVal.int .i64 0) (.inr rfl) rfl) ?_
   refine Ze (Zc (Zd (Zd (Za ?_))))
   refine Lo u36 (Zg (VVal.int .i64 0) (.inr rfl) rfl) ?_
   refine Ze (Zc (Zl ?_))
   refine Zu (mk 36 68719476630) (env' := u36) rfl ?_
   refine ZA (fun (k : Nat) => rows.length - k) (fun (k : Nat) => [(5, iI ((rsz rows k).2 : Nat)), (6, iI (k : Nat))]) (fun (k : Nat) G => (k ≤ rows.length) ∧ G = H ++ [haB (rsz rows k).1]) 0 rfl ?_ ?_
   ·refine ⟨?_, (by rw [show k = rows.length by omega, iniT_all]; rfl)⟩
    exact Nat.zero_le _
   rintro k _ ⟨hk, rfl⟩
   refine ZR (env' := u36) rfl ?_
   refine Zd (Zd (Za ?_))
   refine Lo u36 (Zb (.inl rfl) rfl) ?_
   refine Lo u36 (Zb (.inl rfl) rfl) ?_
   refine Lo u36 (rfl) ?_
   refine Lo u36 (rfl) ?_
   refine Ze (Zc ?_)
   refine Zk _ rfl (fun hc3 => ?_) (fun hc3 => ?_)
   ·try simp only [qB] at hc3
    refine Zj (Zc (Zd (Zl (Zd (Za ?_)))))
    refine Lo u36 (ZT rfl rfl) ?_
    refine Lo u36 (YE (VVal.int .u64 0) rfl rfl rfl rfl rfl rfl rfl XH0 XH6 XH9) ?_
    refine Ze (Zc (Zd (Za ?_)))
    refine Lo u36 (Zb (.inl rfl) rfl) ?_
    refine Lo u36 (Zb (.inl rfl) rfl) ?_
    refine Lo u36 (Zb (.inl rfl) rfl) ?_
    refine Zv rfl rfl rfl (by exact turn_at H _ rows (rsz rows k).1 k (by omega) (rsz_len (by omega)) h62) ?_
    rintro _ _ ⟨rfl, rfl⟩
    refine Le u36 ?_
    refine Ze (Zc ?_)
    refine Zk _ rfl (fun hc4 => ?_) (fun hc4 => ?_)
    ·try simp only [qB] at hc4
     refine Za ?_
     refine Lo u36 (Zb (.inl rfl) rfl) ?_
     refine Lo u36 (W63 rfl rfl rfl) ?_
     refine Lo u36 (Zb (.inr rfl) rfl) ?_
     refine Ze (Zr (Zc (Za ?_)))
     refine Lo u36 (Zb (.inl rfl) rfl) ?_
     refine Lo u36 (W14 rfl rfl rfl) ?_
     refine Lo u36 (Zb (.inr rfl) rfl) ?_
     refine Ze ?_
     first
       | (have hE : (((rsz rows k).2 : Nat) : Int) + 1 = ((rsz rows (k + 1)).2 : Nat) := by rw [rsz, if_pos (by assumption)]; rfl); rw [hE]
       | (have hE : (rsz rows k).2 = (rsz rows (k + 1)).2 := by rw [rsz]; simp only; rw [if_neg (Yp (by assumption))]); rw [hE]
     refine K_loopG (mk 36 68719476630) (env' := u36) rfl (Gh.dropTo (L := [haB (rsz rows (k + 1)).1]) (X := [seB _]) 1 rfl (BaseOk.refl _) XH19 (by simp [haB_under])) ⟨k + 1, ?_, rfl, ?_⟩
     ·first | omega | (simp only []; omega)
     ·exact ⟨by omega, rfl⟩
    ·try simp only [qB] at hc4
     refine Zj (Zr (Zc (Za ?_)))
     refine Lo u36 (Zb (.inl rfl) rfl) ?_
     refine Lo u36 (W14 rfl rfl rfl) ?_
     refine Lo u36 (Zb (.inr rfl) rfl) ?_
     refine Ze ?_
     first
       | (have hE : (((rsz rows k).2 : Nat) : Int) + 1 = ((rsz rows (k + 1)).2 : Nat) := by rw [rsz, if_pos (by assumption)]; rfl); rw [hE]
       | (have hE : (rsz rows k).2 = (rsz rows (k + 1)).2 := by rw [rsz]; simp only; rw [if_neg (Yp (by assumption))]); rw [hE]
     refine K_loopG (mk 36 68719476630) (env' := u36) rfl (Gh.dropTo (L := [haB (rsz rows (k + 1)).1]) (X := [seB _]) 1 rfl (BaseOk.refl _) XH19 (by simp [haB_under])) ⟨k + 1, ?_, rfl, ?_⟩
     ·first | omega | (simp only []; omega)
     ·exact ⟨by omega, rfl⟩
   ·try simp only [qB] at hc3
    refine ZH (ZI (Zw (ZG (Zc (Zd (Za ?_))))))
    refine Lo u36 (Zb (.inl rfl) rfl) ?_
    refine Lo u36 (Zb (.inr rfl) rfl) ?_
    refine Ze (Zc (Zi ?_))
    refine W5z (.inr rfl) (Zh rfl rfl) ?_
    exact W60
theorem refFull_spec {x : SW} (H : Zf) (rows : List (BitVec 64)) (h62 : rows.length ≤ 1000000) : F (psys x) 123 [fzW rows] H fun v G => v = .bool (decide (rows.length ≤ 12) && Yj rows 0#64) ∧ G = H := by
 refine Zq Tryd.func123 rfl u13 rfl ?_
 refine Zd (Za ?_)
 refine Lo u13 (Zg (VVal.bool false) (.inr rfl) rfl) ?_
 refine Ze (Zc (Zd (Za ?_)))
 refine Lo u13 (Zb (.inl rfl) rfl) ?_
 refine Lo u13 (rfl) ?_
 refine Lo u13 (rfl) ?_
 refine Lo u13 (Zb (.inl rfl) rfl) ?_
 refine Zy 6 (env1 := u13) (env2 := u13) rfl rfl rfl (fun hg1 => ?_) (fun hg1 => ?_)
 ·try simp only [qB] at hg1
  refine Lo u13 (Zb (.inl rfl) rfl) ?_
  refine Zv rfl rfl rfl (by exact refSize_spec _ _ h62) ?_
  rintro _ _ ⟨rfl, rfl⟩
  refine Le u13 ?_
  refine Lo u13 (Zb (.inl rfl) rfl) ?_
  refine Lo u13 (rfl) ?_
  refine Lo u13 (rfl) ?_
  refine Lo u13 (ZP rfl rfl rfl) ?_
  refine Lo u13 (Zb (.inr rfl) rfl) ?_
  refine Ze (Zc (Zi ?_))
  refine W10 (.inr rfl) (Zh rfl rfl) ?_
  exact W65
 ·try simp only [qB] at hg1
  refine Lf u13 ?_
  refine Lf u13 ?_
  refine Lf u13 ?_
  refine Lf u13 ?_
  refine Lf u13 ?_
  refine Lo u13 (ZB (VVal.bool false) rfl rfl rfl) ?_
  refine Lo u13 (Zb (.inr rfl) rfl) ?_
  refine Ze (Zc (Zi ?_))
  refine W10 (.inr rfl) (Zh rfl rfl) ?_
  exact W65
theorem W69 {S : V.Sys} {H : Zf} {fn : Func} {ex : Exit} {env : VEnv} {B L : Zf} {v : VVal} {R : VVal → Zf → Prop} (hx : ex = .normal ∨ ex = .ret) (hv : ZX S.C.T env (B ++ L) fn.results = some v) (h : R v B) (hB : BaseOk H B := by exact XH51) (hu : v.under H.length = true := by first | rfl | simp [VVal.under, VVal.underL, mapN_under, *]) : fnK S fn H R ex env (B ++ L) := Yz hx hv hB hu h
theorem W6a {P : Prop} (h : P := by first | exact ⟨by rw [leV, if_neg (fun e => by rw [decide_eq_true e.1, e.2] at hc1; cases hc1)]; rfl, rfl⟩ | (obtain rfl : r = [] := List.eq_nil_of_length_eq_zero (by omega)); exact ⟨by rw [leV, if_pos hc1, hlst]; simp [lst], rfl⟩) : P := h
theorem W6b {T : TypeId → Option VTy} {H : Zf} {op : Op} {ρ : Operand → VVal} {t : TypeId} {a : Operand} {y : VTy} {p v : VVal} (ho : op = .load t a) (ha : ρ a = p) (hy : T t = some y) (hd : Zo y.desc = false) (h : LdOk H p v := by first | exact .inl ⟨_, _, rfl, by first | exact fget (α := BitVec 64) (n := 0) 0 (by omega) | rfl⟩ | exact .inr ⟨_, _, _, _, rfl, XH44, by first | exact fget (α := BitVec 64) (n := 0) 0 (by omega) | rfl⟩) : vop T ρ H op = some (v, H) := v_ld ho ha hy hd h
def gvT (rows : List (BitVec 64)) (t : BitVec 64) (i : Nat) : List (BitVec 64) := msk ((rows.take i).drop 1) t
theorem gvT_1 {rows : List (BitVec 64)} {t : BitVec 64} : gvT rows t 1 = [] := by
  unfold gvT
  cases rows <;> rfl
theorem gvT_succ {rows : List (BitVec 64)} {t : BitVec 64} {i : Nat} (h1 : 1 ≤ i) (h : i < rows.length) : gvT rows t (i + 1) = gvT rows t i ++ [rows.getD (i : Int).toNat 0 &&& ~~~t] := by
  unfold gvT msk
  rw [List.take_succ_eq_append_getElem h, List.drop_append_of_le_length XH31, List.map_append, Int.toNat_natCast, List.getD_eq_getElem?_getD, List.getElem?_eq_getElem h]; rfl
theorem gvT_all {rows : List (BitVec 64)} {t : BitVec 64} {i : Nat} (h : rows.length ≤ i) : gvT rows t i = msk (rows.drop 1) t := by
  unfold gvT; rw [List.take_of_length_le h]
theorem msk_fullB {l : List (BitVec 64)} {s t : BitVec 64} : Yj (msk l s) t = Yj l (s ||| t) := by unfold Yj; rw [msk_msk, Ye]
theorem msk_w {w s t : BitVec 64} : (w &&& ~~~s) &&& ~~~t = w &&& ~~~(s ||| t) := YD fun i hi => by
  simp only [BitVec.getLsbD_and, BitVec.getLsbD_not, BitVec.getLsbD_or, hi, decide_true, Bool.true_and, Bool.not_or, Bool.and_assoc]
theorem lst_msk : ∀ {l : List (BitVec 64)} {s t : BitVec 64}, lst (msk l s) t = lst l (s ||| t)
  | [], s, t => rfl
  | w :: l, s, t => by
    show lst ((w &&& ~~~s) :: msk l s) t = _
    rw [lst, lst, msk_w]
    simp only [msk_fullB, BitVec.or_assoc, lst_msk]
theorem z_not (w : BitVec 64) : w &&& ~~~0#64 = w := YD fun i hi => by rw [BitVec.getLsbD_and, BitVec.getLsbD_not, BitVec.getLsbD_zero, decide_eq_true hi]; simp
theorem lst_first {w : BitVec 64} {l : List (BitVec 64)} {u : Nat} (hu : u < 64) (h1 : w.getLsbD u = true) (h2 : Yj (msk l (1#64 <<< u)) 0#64 = true) (h3 : ∀ v, v < u → w.getLsbD v = true → Yj (msk l (1#64 <<< v)) 0#64 = false) : lst (w :: l) 0#64 = u :: lst (msk l (1#64 <<< u)) 0#64 := by
  have hor : ∀ v : Nat, 0#64 ||| 1#64 <<< v = 1#64 <<< v ||| 0#64 := fun v => by simp
  have hx : pl w 0 = (List.range u).filter w.getLsbD ++ u :: pl w (u + 1) := by
    have e1 : pl w 0 = (List.range u).filter w.getLsbD ++ pl w u := by
      unfold pl
      rw [show (64 : Nat) - 0 = u + (64 - u) by omega, List.range_eq_range', List.range'_append_1 |>.symm, List.filter_append, Nat.zero_add]
    rw [e1, pl_step w u, if_pos hu, if_pos h1]
  rw [lst, z_not, hx, find_yes (c := u) (fun v hv => ?_) (by rw [hor, ← msk_fullB]; exact h2)]
  · simp only
    rw [hor, lst_msk]
  · have hv := List.mem_filter.1 hv
    rw [hor, ← msk_fullB]; exact h3 v (List.mem_range.1 hv.1) hv.2
theorem first_ex {w : BitVec 64} {l : List (BitVec 64)} (h : Yj (w :: l) 0#64 = true) : ∃ u, u < 64 ∧ w.getLsbD u = true ∧ Yj (msk l (1#64 <<< u)) 0#64 = true := by
  obtain ⟨u, h1, h2⟩ := mat_cons.1 (full0.1 h)
  exact ⟨u, BitVec.lt_of_getLsbD h1, h1, full0.2 h2⟩
theorem LV.appW {h : Nat} {X : Zf} {v : VVal} {l : List (BitVec 64)} {w : BitVec 64} {n : Nat} (r : LV h 1 X v (l.map iW ++ [iW w]) n) : LV h 1 X v ((l ++ [w]).map iW) n := by rw [List.map_append]; exact r
theorem LV.appN {h : Nat} {X : Zf} {v : VVal} {l : List Nat} {u : Nat} {n : Nat} (r : LV h 1 X v (l.map jN ++ [jN u]) n) : LV h 1 X v ((l ++ [u]).map jN) n := by rw [List.map_append]; exact r
theorem given_spec {x : SW} (H : Zf) (rows : List (BitVec 64)) (u : Nat) (h62 : rows.length ≤ 1000000) : F (psys x) 124 [fzW rows, iI (u : Nat)] H fun v G => v = fzW (msk (rows.drop 1) (1#64 <<< u)) ∧ G = H := by
 refine Zq Tryd.func124 rfl u24 rfl ?_
 refine Zd (Za ?_)
 refine Lo u24 (Zg (VVal.slice none 0 0 true 0) (.inr rfl) rfl) ?_
 refine Ze (Zc (Zd (Za ?_)))
 refine Lo u24 (Zg (VVal.slice none 0 0 true 0) (.inr rfl) rfl) ?_
 refine Ze (Zc (Zd (Zd (Za ?_))))
 refine Lo u24 (Zg (VVal.int .i64 1) (.inr rfl) rfl) ?_
 refine Ze (Zc (Zl ?_))
 refine Zu (mk 24 16777116) (env' := u24) rfl ?_
 refine ZA (fun (⟨i, lv⟩ : Nat × VVal) => rows.length - i) (fun (⟨i, lv⟩ : Nat × VVal) => [(5, lv), (6, iI (i : Nat))]) (fun (⟨i, lv⟩ : Nat × VVal) G => (1 ≤ i ∧ (i ≤ rows.length ∨ i = 1)) ∧ ∃ X, G = H ++ X ∧ LV H.length 1 X lv ((gvT rows (1#64 <<< u) i).map iW) (i - 1)) ⟨1, _⟩ rfl ?_ ?_
 ·refine ⟨?_, ⟨_, rfl, by rw [gvT_1]; exact LV.nil _ _ _⟩⟩
  exact ⟨Nat.le_refl _, .inr rfl⟩
 rintro ⟨i, lv⟩ _ ⟨⟨hi1, hi2⟩, ⟨X, rfl, hl⟩⟩
 refine ZR (env' := u24) rfl ?_
 refine Zd (Zd (Za ?_))
 refine Lo u24 (Zb (.inl rfl) rfl) ?_
 refine Lo u24 (Zb (.inl rfl) rfl) ?_
 refine Lo u24 (rfl) ?_
 refine Lo u24 (rfl) ?_
 refine Ze (Zc ?_)
 refine Zk _ rfl (fun hc1 => ?_) (fun hc1 => ?_)
 ·try simp only [qB] at hc1
  refine Zj (Zc (Zd (Zl ?_)))
  refine ZS [0, 1, 2, 3, 4, 5, 6, 7, 8, 9, 10] #[0, 0, 0, 6, 14, 0, 32, 126, 254, 511, 1023] XH5 XH5 XH5 ?_
  refine Oo u24 .calm rfl (Zb (.inl rfl) rfl) ?_
  refine Oo u24 .calm rfl (Zb (.inl rfl) rfl) ?_
  refine Oo u24 .calm rfl (Zb (.inl rfl) rfl) ?_
  refine Oo u24 .calm rfl (W18 rfl rfl rfl rfl rfl rfl rfl) ?_
  refine Oo u24 .look rfl (W12 rfl rfl rfl rfl) ?_
  refine Oo u24 .calm rfl (Zb (.inl rfl) rfl) ?_
  refine Oo u24 .calm rfl (v_shl1 rfl rfl rfl XH1) ?_
  refine Oo u24 .calm rfl (v_andNotW rfl rfl rfl) ?_
  refine Oo u24 .grow rfl (ZJ rfl rfl (by decide) rfl) ?_
  refine O_opX .turn rfl rfl rfl (v_appX rfl rfl rfl rfl rfl rfl rfl hl rfl rfl (by decide) (by show (i - 1 + 1) * 8 ≤ _ ∧ i - 1 + 1 ≤ _; omega) (by decide)) rfl rfl ?_
  rintro _ _ ⟨Y1, rfl, rfl, hY1, hY2, hY3⟩
  refine O_env (env' := u24) rfl ?_
  refine Oo u24 .calm rfl (Zb (.inr rfl) rfl) ?_
  refine ZY [] XH5 (trivial) ?_
  refine Zr (Zc (Za ?_))
  refine Lo u24 (Zb (.inl rfl) rfl) ?_
  refine Lo u24 (W14 rfl rfl rfl) ?_
  refine Lo u24 (Zb (.inr rfl) rfl) ?_
  refine Ze ?_
  refine Zs (mk 24 16777116) (env' := u24) rfl ⟨⟨i + 1, _⟩, ?_, rfl, ?_⟩
  ·first | omega | (simp only []; omega)
  ·exact ⟨⟨by omega, .inl (by omega)⟩, _, rfl, by rw [gvT_succ hi1 (by omega), show i + 1 - 1 = i - 1 + 1 by omega]; exact LV.appW hY3⟩
 ·try simp only [qB] at hc1
  refine ZH (ZI (Zw (ZG (Zc (Zd (Za ?_))))))
  refine Lo u24 (Zb (.inl rfl) rfl) ?_
  refine Lo u24 (Zb (.inr rfl) rfl) ?_
  refine Ze (Zc (Zi ?_))
  refine E_gh (.inr rfl) (Zh rfl rfl) (Gh.ansLV (BaseOk.refl _) hl (Yy _ _)) ?_
  have hE := gvT_all (rows := rows) (t := 1#64 <<< u) (i := i) (by omega)
  have hlen : (gvT rows (1#64 <<< u) i).length = i - 1 := by unfold gvT; rw [Ye, List.length_drop, List.length_take]; omega
  refine ⟨?_, rfl⟩
  rw [← hE]
  show _ = VVal.fsl ((gvT rows (1#64 <<< u) i).map iW) (gvT rows (1#64 <<< u) i).length 1 false
  rw [hlen]
theorem refFull_12 {x : SW} (H : Zf) (rows : List (BitVec 64)) (h : rows.length ≤ 12) : F (psys x) 123 [fzW rows] H fun v G => v = .bool (Yj rows 0#64) ∧ G = H := by
  have := refFull_spec (x := x) H rows (by omega)
  rw [decide_eq_true h, Bool.true_and] at this; exact this
theorem getD_tail {l : List (BitVec 64)} (h : 0 < l.length) : ∃ w m, l = w :: m := by
  cases l with
  | nil => simp at h
  | cons w m => exact ⟨w, m, rfl⟩
theorem refLeast_spec {x : SW} (H : Zf) (rows : List (BitVec 64)) (h62 : rows.length ≤ 1000000) : F (psys x) 135 [fzW rows] H fun v G => v = leV rows ∧ G = H := by
 refine Zq Tryd.func135 rfl u36 rfl ?_
 refine Zd (Za ?_)
 refine Lo u36 (Zg (VVal.slice none 0 0 true 0) (.inr rfl) rfl) ?_
 refine Lo u36 (Zg (VVal.bool false) (.inr rfl) rfl) ?_
 refine Ze (Zc (Zd (Zd (Za ?_))))
 refine Lo u36 (Zb (.inl rfl) rfl) ?_
 refine Zv rfl rfl rfl (by exact refFull_spec _ rows h62) ?_
 rintro _ _ ⟨rfl, rfl⟩
 refine Le u36 ?_
 refine Lo u36 (rfl) ?_
 refine Ze (Zc ?_)
 refine Zk _ rfl (fun hc1 => ?_) (fun hc1 => ?_)
 ·try simp only [qB] at hc1
  refine Zd (Za ?_)
  refine Lo u36 (Zg (VVal.slice none 0 0 true 0) (.inr rfl) rfl) ?_
  refine Lo u36 (Zg (VVal.bool false) (.inr rfl) rfl) ?_
  refine Ze (Zc ?_)
  refine Yo (Gh.freezeNil 2 (es' := 1) rfl rfl) ?_
  refine Zi (Zm ?_)
  refine W69 (.inr rfl) (YG rfl rfl rfl) ?_
  exact W6a
 ·try simp only [qB] at hc1
  refine Zj (Zc (Zd (Za ?_)))
  refine Lo u36 (Zg (VVal.slice none 0 0 true 0) (.inr rfl) rfl) ?_
  refine Ze (Zc (Zd (Zl ?_)))
  refine Zu (mk 36 68719476718) (env' := u36) rfl ?_
  refine ZA (fun (⟨r, ds, lv⟩ : List (BitVec 64) × List Nat × VVal) => r.length) (fun (⟨r, ds, lv⟩ : List (BitVec 64) × List Nat × VVal) => [(0, fzW r), (4, lv)]) (fun (⟨r, ds, lv⟩ : List (BitVec 64) × List Nat × VVal) G => (Yj r 0#64 = true ∧ r.length ≤ 12 ∧ ds.length + r.length = rows.length ∧ lst rows 0#64 = ds ++ lst r 0#64) ∧ ∃ X, G = H ++ X ∧ LV H.length 1 X lv (ds.map jN) ds.length) ⟨rows, [], _⟩ rfl ?_ ?_
  ·refine ⟨?_, ⟨_, rfl, LV.nil _ _ _⟩⟩
   exact ⟨hc1.2, hc1.1, by simp, by simp⟩
  rintro ⟨r, ds, lv⟩ _ ⟨⟨hfr, hr12, hdl, hlst⟩, ⟨X, rfl, hl⟩⟩
  refine ZR (env' := u36) rfl ?_
  refine Zd (Zd (Za ?_))
  refine Lo u36 (Zb (.inl rfl) rfl) ?_
  refine Lo u36 (rfl) ?_
  refine Lo u36 (rfl) ?_
  refine Ze (Zc ?_)
  refine Zk _ rfl (fun hc2 => ?_) (fun hc2 => ?_)
  ·try simp only [qB] at hc2
   refine Zj (Zc (Zl (Zd ?_)))
   obtain ⟨w, m, rfl⟩ := getD_tail (l := r) (by omega)
   obtain ⟨u0, hu0, hw0, hf0⟩ := first_ex hfr
   refine Za ?_
   refine Lo u36 (Zg (VVal.int .i64 0) (.inr rfl) rfl) ?_
   refine Ze (Zc (Zd (Zl ?_)))
   refine Zu (mk 36 68719476686) (env' := u36) rfl ?_
   refine ZA (fun (u : Nat) => 64 - u) (fun (u : Nat) => [(5, iI (u : Nat))]) (fun (u : Nat) G => (u ≤ u0 ∧ ∀ v, v < u → w.getLsbD v = true → Yj (msk m (1#64 <<< v)) 0#64 = false) ∧ G = H ++ X) 0 rfl ?_ ?_
   ·refine ⟨?_, rfl⟩
    exact ⟨Nat.zero_le _, fun v h => by omega⟩
   rintro u _ ⟨⟨hu, hno⟩, rfl⟩
   refine ZR (env' := u36) rfl ?_
   refine Zd (Zd (Za ?_))
   refine Lo u36 (Zb (.inl rfl) rfl) ?_
   refine Lo u36 (W18 rfl rfl rfl rfl rfl rfl rfl) ?_
   refine Lo u36 (W6b rfl rfl rfl rfl) ?_
   refine Lo u36 (Zb (.inl rfl) rfl) ?_
   refine Lo u36 (v_shrW rfl rfl rfl XH1) ?_
   refine Lo u36 (v_andW (b := 1#64) rfl rfl rfl) ?_
   refine Lo u36 (rfl) ?_
   refine Lo u36 (Zb (.inl rfl) rfl) ?_
   refine Zy 19 (env1 := u36) (env2 := u36) rfl rfl rfl (fun hg3 => ?_) (fun hg3 => ?_)
   ·try simp only [qB] at hg3
    refine Lf u36 ?_
    refine Lf u36 ?_
    refine Lf u36 ?_
    refine Lf u36 ?_
    refine Lf u36 ?_
    refine Lo u36 (ZF (VVal.bool true) rfl rfl rfl) ?_
    refine Ze (Zc ?_)
    refine ZM rfl rfl ?_
    refine Zj (Zc (Zl (Za ?_)))
    refine Lo u36 (Zb (.inl rfl) rfl) ?_
    refine Lo u36 (W14 rfl rfl rfl) ?_
    refine Lo u36 (Zb (.inr rfl) rfl) ?_
    refine Ze (Zr ?_)
    refine Zs (mk 36 68719476686) (env' := u36) rfl ⟨u + 1, ?_, rfl, ?_⟩
    ·first | omega | (simp only []; omega)
    ·first | exact ⟨⟨Nat.lt_of_le_of_ne hu (fun e => by subst e; rw [sh0.1 (by assumption)] at hw0; cases hw0), fun v hv hb => by by_cases e : v = u; (subst e; rw [sh0.1 (by assumption)] at hb; cases hb); exact hno v (by omega) hb⟩, rfl⟩ | exact ⟨⟨Nat.lt_of_le_of_ne hu (fun e => by subst e; exact absurd hf0 (Yp (by assumption))), fun v hv hb => by by_cases e : v = u; (subst e; assumption); exact hno v (by omega) hb⟩, rfl⟩
   ·try simp only [qB] at hg3
    refine Lo u36 (Zb (.inl rfl) rfl) ?_
    refine Lo u36 (Zb (.inl rfl) rfl) ?_
    refine Zv rfl rfl rfl (by exact given_spec _ (w :: m) u (Nat.le_trans (show (w :: m).length ≤ 12 from hr12) (by decide))) ?_
    rintro _ _ ⟨rfl, rfl⟩
    refine Le u36 ?_
    refine Zv rfl rfl rfl (by exact refFull_12 _ (msk m (1#64 <<< u)) (by rw [Ye]; simp only [List.length_cons] at hr12; omega)) ?_
    rintro _ _ ⟨rfl, rfl⟩
    refine Le u36 ?_
    refine Lo u36 (rfl) ?_
    refine Lo u36 (ZW rfl rfl rfl) ?_
    refine Ze (Zc ?_)
    refine Zk _ rfl (fun hc4 => ?_) (fun hc4 => ?_)
    ·try simp only [qB] at hc4
     refine Zj (Zc (Zl (Za ?_)))
     refine Lo u36 (Zb (.inl rfl) rfl) ?_
     refine Lo u36 (W14 rfl rfl rfl) ?_
     refine Lo u36 (Zb (.inr rfl) rfl) ?_
     refine Ze (Zr ?_)
     refine Zs (mk 36 68719476686) (env' := u36) rfl ⟨u + 1, ?_, rfl, ?_⟩
     ·first | omega | (simp only []; omega)
     ·first | exact ⟨⟨Nat.lt_of_le_of_ne hu (fun e => by subst e; rw [sh0.1 (by assumption)] at hw0; cases hw0), fun v hv hb => by by_cases e : v = u; (subst e; rw [sh0.1 (by assumption)] at hb; cases hb); exact hno v (by omega) hb⟩, rfl⟩ | exact ⟨⟨Nat.lt_of_le_of_ne hu (fun e => by subst e; exact absurd hf0 (Yp (by assumption))), fun v hv hb => by by_cases e : v = u; (subst e; assumption); exact hno v (by omega) hb⟩, rfl⟩
    ·try simp only [qB] at hc4
     refine ZH (ZI (Zw (ZG (Zc (Zd ?_)))))
     have hbit : w.getLsbD u = true := sh_not0 (by assumption)
     have hfu : Yj (msk m (1#64 <<< u)) 0#64 = true := by assumption
     simp only [List.length_cons] at hr12 hdl
     refine Za ?_
     refine Lo u36 (Zb (.inl rfl) rfl) ?_
     refine Lo u36 (Zb (.inl rfl) rfl) ?_
     refine Lo u36 (ZJ rfl rfl (by decide) rfl) ?_
     refine L_opX rfl rfl (v_appX rfl rfl rfl rfl rfl rfl rfl hl rfl rfl (by decide) (by show (ds.length + 1) * 8 ≤ _ ∧ ds.length + 1 ≤ _; omega) (by decide)) ?_
     rintro _ _ ⟨Y1, rfl, rfl, hY1, hY2, hY3⟩
     refine Le u36 ?_
     refine Lo u36 (Zb (.inr rfl) rfl) ?_
     refine Ze (Zc (Za ?_))
     refine Lo u36 (Zb (.inl rfl) rfl) ?_
     refine Lo u36 (Zb (.inl rfl) rfl) ?_
     refine Zv rfl rfl rfl (by exact given_spec _ (w :: m) u (Nat.le_trans (show (w :: m).length ≤ 12 from hr12) (by decide))) ?_
     rintro _ _ ⟨rfl, rfl⟩
     refine Le u36 ?_
     refine Lo u36 (Zb (.inr rfl) rfl) ?_
     refine Ze (Zr ?_)
     refine Zs (mk 36 68719476718) (env' := u36) rfl ⟨⟨msk m (1#64 <<< u), ds ++ [u], _⟩, ?_, rfl, ?_⟩
     ·show (msk m (1#64 <<< u)).length < (w :: m).length; rw [Ye]; simp
     ·exact ⟨⟨hfu, by rw [Ye]; omega, by rw [List.length_append, Ye]; show ds.length + 1 + m.length = _; omega, hlst.trans ((congrArg (ds ++ ·) (lst_first (by omega) hbit hfu hno)).trans (by simp))⟩, _, rfl, by rw [List.length_append]; exact LV.appN hY3⟩
  ·try simp only [qB] at hc2
   refine ZH (ZI (Zw (ZG (Zc (Zd (Za ?_))))))
   refine Lo u36 (Zb (.inl rfl) rfl) ?_
   refine Lo u36 (Zb (.inr rfl) rfl) ?_
   refine Lo u36 (Zg (VVal.bool true) (.inr rfl) rfl) ?_
   refine Ze (Zc ?_)
   refine B_ghLV (env' := u36) 2 hl rfl rfl fun X2 _ _ => ?_
   refine Zi ?_
   refine W69 (.inr rfl) (YG rfl rfl rfl) ?_
   exact W6a
abbrev u11 {a0 a1 a2 a3 a4 a5 a6 a7 a8 a9 a10 : VVal} : VEnv := a0 :: a1 :: a2 :: a3 :: a4 :: a5 :: a6 :: a7 :: a8 :: a9 :: a10 :: []
theorem W6c {T : TypeId → Option VTy} {H : Zf} {op : Op} {ρ : Operand → VVal} {t : TypeId} {a : Operand} {y : VTy} {p : VVal} {n : Nat} {vs : List VVal} (ho : op = .load t a) (ha : ρ a = p) (hy : T t = some y) (hd : Zo y.desc = true) (hn : y.size = n) (h : LdOkA H p n vs := by exact XH56) : vop T ρ H op = some (.agg vs, H) := v_ldA ho ha hy hd hn h
theorem W6d {S : V.Sys} {H : Zf} {fn : Func} {ex : Exit} {env : VEnv} {B L : Zf} {v : VVal} {R : VVal → Zf → Prop} (hx : ex = .normal ∨ ex = .ret) (hv : ZX S.C.T env (B ++ L) fn.results = some v) (h : R v B) (hB : BaseOk H B := by exact XH51) (hu : v.under H.length = true := by first | rfl | exact (show ((fzN (plN a l)).under H.length && (true && true)) = true by rw [show (fzN (plN a l)).under H.length = true from mapN_under _ _]; rfl)) : fnK S fn H R ex env (B ++ L) := Yz hx hv hB hu h
theorem W6e {P : Prop} (h : P := by first | exact ⟨by rw [srF_0 hey, h7]; show _ = VVal.tuple [fzN (plN a l), .bool true]; rw [fzN_pl]; rfl, rfl⟩ | exact ⟨by rw [srF_0 hey, h6 (by assumption)]; rfl, rfl⟩ | exact ⟨by rw [srF_e (by rw [ZO]; assumption)]; rfl, rfl⟩) : P := h
theorem W6h {T : TypeId → Option VTy} {H : Zf} {op : Op} {ρ : VEnv} {H' : Zf} {t : TypeId} {a : Operand} {i : Nat} {v : VVal} {y : VTy} {b off : Nat} {cs new : List VVal} (ho : op = .store t a (.tmp i)) (hv : ρ[i]? = some v) (ha : ρ.eval a = .ptr (some (b, off))) (hy : T t = some y) (hx : v.cells = some new) (hn : new.length = y.size) (h1 : new.all VVal.one = true) (hb : H[b]? = some (.cells cs true) := by exact XH44) (hl : off + new.length ≤ cs.length := by show 0 + k * 1 + 1 ≤ _; rw [List.length_map, plK_len (by omega)]; omega) (hH : H.set b (.cells (ZD cs off new) true) = H' := by exact (ZQ rfl).trans (by show _ ++ [VBlk.dead, VBlk.cells (ZD (rcN (plK a l k)) (0 + k * 1) [iI ((l.getD (a.getD k 0) 0 : Nat) : Int)]) true] = _; rw [spl_N (by rw [plK_len (by omega)]; omega)])) : vop T ρ.eval H op = some (.skip, H') := Z5 ho hv ha hy hx hn h1 hb hl hH
theorem W6j {S : V.Sys} {H : Zf} {fn : Func} {ex : Exit} {env : VEnv} {B L : Zf} {v : VVal} {R : VVal → Zf → Prop} (hx : ex = .normal ∨ ex = .ret) (hv : ZX S.C.T env (B ++ L) fn.results = some v) (h : R v B) (hB : BaseOk H B := by exact XH51) (hu : v.under H.length = true := by first | rfl | exact (show ((fzN l).under H.length && (true && true)) = true by rw [show (fzN l).under H.length = true from mapN_under _ _]; rfl)) : fnK S fn H R ex env (B ++ L) := Yz hx hv hB hu h
theorem W6k {P : Prop} (h : P := by first | exact ⟨by rw [srF_R hey, hsr, srR_yes (by omega) (h5 rfl)]; rfl, rfl⟩ | exact ⟨by rw [srF_R hey, hsr, srR_end (by omega)]; rfl, rfl⟩ | exact ⟨by rw [srF_e (by rw [ZO]; assumption)]; rfl, rfl⟩) : P := h
theorem W6l {T : TypeId → Option VTy} {H : Zf} {op : Op} {ρ : Operand → VVal} {t : TypeId} {a : Operand} {y : VTy} {p : VVal} {n : Nat} {vs : List VVal} (ho : op = .load t a) (ha : ρ a = p) (hy : T t = some y) (hd : Zo y.desc = true) (hn : y.size = n) (h : LdOkA H p n vs := by first | exact .inl ⟨_, _, rfl, by rfl⟩ | exact .inr ⟨_, _, _, _, rfl, XH44, by rfl⟩) : vop T ρ H op = some (.agg vs, H) := v_ldA ho ha hy hd hn h
theorem W6m {P : Prop} (h : P := by first | exact ⟨he.symm, rfl⟩ | exact ⟨by rw [show leA p = none from if_neg (by assumption)]; rfl, rfl⟩) : P := h
theorem search_in {x : SW} {H Z : Zf} {pv : VVal} {a : List Nat} {b i n c : Nat} {o : Option (List Nat)} (hZ : Z[i]? = some (.cells (rcN (a ++ [b])) true)) (h : F (psys x) 131 [pv, fzN (a ++ [b])] (H ++ Z.set i .dead) fun v G => v = leT o ∧ G = H ++ Z.set i .dead) (hn : n = a.length + 1) (hc : c = n) : F (psys x) 131 [pv, .slice (some (H.length + i, 0)) n c false 1] (H ++ Z) fun v G => v = leT o ∧ G = H ++ Z.set i .dead := by
  subst hc; subst hn
  exact F.pre (Gh.freezeL (H := H) (l := rcN (a ++ [b])) (vs' := [pv, fzN (a ++ [b])]) 1 i rfl hZ (Yn (by simp)) (Nat.le_refl _) (by simp)) h
theorem leV_o {ws : List (BitVec 64)} {a : List Nat} (h : (Z8 ws a a.length).length ≤ 12) : ∃ l ok, leV (Z8 ws a a.length) = .tuple [fzN l, .bool ok] ∧ (ok = true → plO ws a = some (plN a l) ∧ l.length = (Z8 ws a a.length).length) ∧ (ok = false → plO ws a = none) := by
  unfold leV plO
  by_cases hf : Yj (Z8 ws a a.length) 0#64 = true
  · rw [if_pos ⟨h, hf⟩, if_pos hf]
    refine ⟨_, true, rfl, fun _ => ⟨rfl, ?_⟩, fun e => (by cases e)⟩
    have := (lst_ok (fullB_iff.1 hf)).len
    rwa [Ye] at this
  · rw [if_neg (fun e => hf e.2), if_neg hf]
    exact ⟨[], false, rfl, fun e => (by cases e), fun _ => rfl⟩
theorem search_0 {x : SW} (p : Pb) (hp : PbL p) (g : Go.V.Good p) (H : Zf) (a : List Nat) (ha : Pat a) (hl : a.length = p.who.length) : F (psys x) 131 [.agg (pbB p), fzN a] H fun v G => v = leT (srF (wsP p) p.rules 0 a) ∧ G = H := by
 have h1 := hp.w
 have g1 := g.n12
 have hz := @szP_le a a.length
 have hbl := @Yx (wsP p) a a.length
 refine Zq Tryd.func131 rfl u73 rfl ?_
 refine Zd (Za ?_)
 refine Lo u73 (ZK rfl rfl rfl) ?_
 refine Lo u73 (Zg (VVal.slice none 0 0 true 0) (.inr rfl) rfl) ?_
 refine Lo u73 (Zg (VVal.bool false) (.inr rfl) rfl) ?_
 refine Ze (Zc (Zd (Zd ?_)))
 refine Yo (Gh.freezePtrL (cs := pbB p) 2 0 rfl rfl rfl) ?_
 refine Za ?_
 refine Lo u73 (W6c rfl rfl rfl rfl rfl) ?_
 refine Lo u73 (Zb (.inl rfl) rfl) ?_
 refine Zv rfl rfl rfl (by exact early_spec _ p hp a) ?_
 rintro _ _ ⟨rfl, rfl⟩
 refine Le u73 ?_
 refine Lo u73 (rfl) ?_
 refine Ze (Zc ?_)
 refine Zk _ rfl (fun hc1 => ?_) (fun hc1 => ?_)
 ·try simp only [qB, qN] at hc1
  refine Zd (Za ?_)
  refine Lo u73 (Zg (VVal.slice none 0 0 true 0) (.inr rfl) rfl) ?_
  refine Lo u73 (Zg (VVal.bool false) (.inr rfl) rfl) ?_
  refine Ze (Zc ?_)
  refine Yo (Gh.freezeNil 4 (es' := 1) rfl rfl) ?_
  refine Zi (Zm ?_)
  refine W6d (.inr rfl) (YG rfl rfl rfl) ?_
  exact W6e
 ·try simp only [qB, qN] at hc1
  refine Zj (Zc (Zd (Zd ?_)))
  have hey : erlA (wsP p).length p.rules a = true := by rw [ZO]; assumption
  refine Za ?_
  refine Lo u73 (Zb (.inl rfl) rfl) ?_
  refine Lo u73 (rfl) ?_
  refine Lo u73 (rfl) ?_
  refine Lo u73 (W5h rfl rfl rfl rfl) ?_
  refine Lo u73 (rfl) ?_
  refine Lo u73 (v_is true rfl (by rw [hl]; simp)) ?_
  refine Ze (Zc ?_)
  refine ZM rfl rfl ?_
  refine Zd (Za ?_)
  refine Lo u73 (W6c rfl rfl rfl rfl rfl) ?_
  refine Lo u73 (Zb (.inl rfl) rfl) ?_
  refine Zv rfl rfl rfl (by exact Rows_spec _ p g a ha (by omega)) ?_
  rintro _ _ ⟨rfl, rfl⟩
  refine Le u73 ?_
  refine Zv rfl rfl rfl (by exact refLeast_spec _ (Z8 (wsP p) a a.length) (by omega)) ?_
  rintro v _ ⟨hv, rfl⟩; obtain ⟨l, ok, he, h5, h6⟩ := leV_o (ws := wsP p) (a := a) (by omega); rw [he] at hv; subst hv
  refine Le u73 ?_
  refine Lo u73 (Zb (.inl rfl) rfl) ?_
  refine Lo u73 (rfl) ?_
  refine Lo u73 (rfl) ?_
  refine Lo u73 (Zb (.inr rfl) rfl) ?_
  refine Lo u73 (Zb (.inr rfl) rfl) ?_
  refine Ze (Zc (Zd (Zd (Za ?_))))
  refine Lo u73 (Zb (.inl rfl) rfl) ?_
  refine Lo u73 (rfl) ?_
  refine Ze (Zc ?_)
  refine Zk _ rfl (fun hc2 => ?_) (fun hc2 => ?_)
  ·try simp only [qB, qN] at hc2
   refine Zd (Za ?_)
   refine Lo u73 (Zg (VVal.slice none 0 0 true 0) (.inr rfl) rfl) ?_
   refine Lo u73 (Zg (VVal.bool false) (.inr rfl) rfl) ?_
   refine Ze (Zc ?_)
   refine Yo (Gh.freezeNil 4 (es' := 1) rfl rfl) ?_
   refine Zi (Zm (Zm ?_))
   refine W6d (.inr rfl) (YG rfl rfl rfl) ?_
   exact W6e
  ·try simp only [qB, qN] at hc2
   refine Zj (Zc (Zd ?_))
   have hok : ok = true := by assumption
   obtain ⟨h7, h8⟩ := h5 hok
   refine Za ?_
   refine Lo u73 (Zb (.inl rfl) rfl) ?_
   refine Lo u73 (rfl) ?_
   refine Lo u73 (YS rfl rfl rfl rfl rfl (by decide) ⟨by omega, Int.le_refl _, by show (a.length : Int) * (8 : Nat) ≤ _; omega, by omega⟩) ?_
   refine Lo u73 (Zb (.inr rfl) rfl) ?_
   refine Ze (Zc (Zd (Zd (Za ?_))))
   refine Lo u73 (Zg (VVal.int .i64 0) (.inr rfl) rfl) ?_
   refine Ze (Zc (Zl ?_))
   refine Zu (mk 73 9444732965739290426557) (env' := u73) rfl ?_
   refine ZA (fun (k : Nat) => a.length - k) (fun (k : Nat) => [(9, iI (k : Nat))]) (fun (k : Nat) G => (k ≤ a.length) ∧ G = H ++ [.dead, .cells (rcN (plK a l k)) true]) 0 rfl ?_ ?_
   ·refine ⟨?_, (by rw [show plK a l 0 = List.replicate a.length 0 from rfl, ← rep_rc]; rfl)⟩
    exact Nat.zero_le _
   rintro k _ ⟨hk9, rfl⟩
   refine ZR (env' := u73) rfl ?_
   refine Zd (Zd (Za ?_))
   refine Lo u73 (Zb (.inl rfl) rfl) ?_
   refine Lo u73 (Zb (.inl rfl) rfl) ?_
   refine Lo u73 (rfl) ?_
   refine Lo u73 (rfl) ?_
   refine Ze (Zc ?_)
   refine Zk _ rfl (fun hc3 => ?_) (fun hc3 => ?_)
   ·try simp only [qB, qN] at hc3
    refine Zj (Zc (Zd (Zl ?_)))
    have hlt := Pat.lt ha (Nat.le_refl a.length) (i := k) (by omega)
    refine Za ?_
    refine Lo u73 (Zb (.inl rfl) rfl) ?_
    refine Lo u73 (Zb (.inl rfl) rfl) ?_
    refine Lo u73 (Zb (.inl rfl) rfl) ?_
    refine Lo u73 (Zb (.inl rfl) rfl) ?_
    refine Lo u73 (Zb (.inl rfl) rfl) ?_
    refine Lo u73 (W18 rfl rfl rfl rfl rfl rfl rfl) ?_
    refine Lo u73 (W5h rfl rfl rfl rfl) ?_
    refine Lo u73 (W18 rfl rfl rfl rfl rfl rfl rfl) ?_
    refine Lo u73 (W5h rfl rfl rfl rfl) ?_
    refine Lo u73 (W18 rfl rfl rfl rfl rfl rfl rfl) ?_
    refine Lo u73 (W6h rfl rfl rfl rfl rfl rfl rfl) ?_
    refine Ze (Zr (Zc (Za ?_)))
    refine Lo u73 (Zb (.inl rfl) rfl) ?_
    refine Lo u73 (W14 rfl rfl rfl) ?_
    refine Lo u73 (Zb (.inr rfl) rfl) ?_
    refine Ze ?_
    refine Zs (mk 73 9444732965739290426557) (env' := u73) rfl ⟨k + 1, ?_, rfl, ?_⟩
    ·first | omega | (simp only []; omega)
    ·exact ⟨by omega, by rw [plK_step (by omega)]⟩
   ·try simp only [qB, qN] at hc3
    refine ZH (ZI (Zw (ZG (Zc (Zd (Za ?_))))))
    refine Lo u73 (Zb (.inl rfl) rfl) ?_
    refine Lo u73 (Zb (.inr rfl) rfl) ?_
    refine Lo u73 (Zg (VVal.bool true) (.inr rfl) rfl) ?_
    refine Ze (Zc ?_)
    obtain rfl : k = a.length := by omega
    rw [plK_all]
    refine Yo (Gh.freezeL (l := rcN (plN a l)) 4 1 rfl rfl (Yn (by rw [List.length_map, plN_len]; rfl)) (Nat.le_refl _) rfl) ?_
    refine Zi (Zm ?_)
    refine W6d (.inr rfl) (YG rfl rfl rfl) ?_
    exact W6e
theorem search_s {x : SW} (p : Pb) (hp : PbL p) (g : Go.V.Good p) (M : Nat) (ih : ∀ (H : Zf) (a : List Nat), Pat a → a.length + M = p.who.length → F (psys x) 131 [.agg (pbB p), fzN a] H (fun v G => v = leT (srF (wsP p) p.rules M a) ∧ G = H)) (H : Zf) (a : List Nat) (ha : Pat a) (hl : a.length + (M + 1) = p.who.length) : F (psys x) 131 [.agg (pbB p), fzN a] H fun v G => v = leT (srF (wsP p) p.rules (M + 1) a) ∧ G = H := by
 have h1 := hp.w
 have g1 := g.n12
 have hz := @szP_le a a.length
 have hbl := @Yx (wsP p) a a.length
 refine Zq Tryd.func131 rfl u73 rfl ?_
 refine Zd (Za ?_)
 refine Lo u73 (ZK rfl rfl rfl) ?_
 refine Lo u73 (Zg (VVal.slice none 0 0 true 0) (.inr rfl) rfl) ?_
 refine Lo u73 (Zg (VVal.bool false) (.inr rfl) rfl) ?_
 refine Ze (Zc (Zd (Zd ?_)))
 refine Yo (Gh.freezePtrL (cs := pbB p) 2 0 rfl rfl rfl) ?_
 refine Za ?_
 refine Lo u73 (W6c rfl rfl rfl rfl rfl) ?_
 refine Lo u73 (Zb (.inl rfl) rfl) ?_
 refine Zv rfl rfl rfl (by exact early_spec _ p hp a) ?_
 rintro _ _ ⟨rfl, rfl⟩
 refine Le u73 ?_
 refine Lo u73 (rfl) ?_
 refine Ze (Zc ?_)
 refine Zk _ rfl (fun hc1 => ?_) (fun hc1 => ?_)
 ·try simp only [qB, qN] at hc1
  refine Zd (Za ?_)
  refine Lo u73 (Zg (VVal.slice none 0 0 true 0) (.inr rfl) rfl) ?_
  refine Lo u73 (Zg (VVal.bool false) (.inr rfl) rfl) ?_
  refine Ze (Zc ?_)
  refine Yo (Gh.freezeNil 4 (es' := 1) rfl rfl) ?_
  refine Zi (Zm ?_)
  refine W6j (.inr rfl) (YG rfl rfl rfl) ?_
  exact W6k
 ·try simp only [qB, qN] at hc1
  refine Zj (Zc (Zd (Zd ?_)))
  have hey : erlA (wsP p).length p.rules a = true := by rw [ZO]; assumption
  refine Za ?_
  refine Lo u73 (Zb (.inl rfl) rfl) ?_
  refine Lo u73 (rfl) ?_
  refine Lo u73 (rfl) ?_
  refine Lo u73 (W5h rfl rfl rfl rfl) ?_
  refine Lo u73 (rfl) ?_
  refine Lo u73 (v_is false rfl (by simp; omega)) ?_
  refine Ze (Zc ?_)
  refine Ym rfl rfl ?_
  refine Zj (Zc (Zd (Zd (Za ?_))))
  refine Lo u73 (Zg (VVal.int .i64 0) (.inr rfl) rfl) ?_
  refine Ze (Zc (Zl ?_))
  refine Zu (mk 73 9444732965739290426361) (env' := u73) rfl ?_
  refine ZA (fun (b : Nat) => szP a a.length + 1 - b) (fun (b : Nat) => [(10, iI (b : Nat))]) (fun (b : Nat) G => (b ≤ szP a a.length + 1 ∧ srR (wsP p) p.rules M a 0 = srR (wsP p) p.rules M a b) ∧ ∃ X, G = H ++ X) 0 rfl ?_ ?_
  ·refine ⟨?_, ⟨_, rfl⟩⟩
   exact ⟨Nat.zero_le _, rfl⟩
  rintro b _ ⟨⟨hb, hsr⟩, ⟨X, rfl⟩⟩
  refine ZR (env' := u73) rfl ?_
  refine Zd (Zd (Za ?_))
  refine Lo u73 (Zb (.inl rfl) rfl) ?_
  refine Lo u73 (Zb (.inl rfl) rfl) ?_
  refine Zv rfl rfl rfl (by exact Size_spec _ a ha (by omega)) ?_
  rintro _ _ ⟨rfl, rfl⟩
  refine Le u73 ?_
  refine Lo u73 (rfl) ?_
  refine Ze (Zc ?_)
  refine Zk _ rfl (fun hc2 => ?_) (fun hc2 => ?_)
  ·try simp only [qB, qN] at hc2
   refine Zj (Zc (Zd (Zl (Zd (Za ?_)))))
   refine Lo u73 (Zg (VVal.slice none 0 0 true 0) (.inr rfl) rfl) ?_
   refine Ze (Zc (Zd (Za ?_)))
   refine Lo u73 (Zb (.inl rfl) rfl) ?_
   refine Lo u73 (Zb (.inl rfl) rfl) ?_
   refine L_opX rfl rfl (v_cpN rfl rfl rfl rfl rfl rfl rfl rfl (by show a.length * 8 ≤ _ ∧ _; omega)) ?_
   rintro w _ ⟨Z, rfl, hcp⟩
   refine Le u73 ?_
   refine Lo u73 (Zb (.inr rfl) rfl) ?_
   refine Ze (Zc (Zd ?_))
   refine B_drawP #[0, 0, 0, 4, 14, 31, 63, 127, 127, 255, 1023] XH5 ?_
   refine P_seg [0, 1, 2, 3, 4] (bef := #[0, 0, 0, 4, 14, 31, 63, 127, 127, 255, 1023]) XH5 XH5 XH5 ?_
   refine Yu (env' := u73) (x := .look _ _) rfl rfl rfl (W6c rfl rfl rfl rfl rfl) rfl rfl rfl ?_
   refine Oo u73 .calm rfl (Zb (.inl rfl) rfl) ?_
   refine Oo u73 .calm rfl (Zb (.inl rfl) rfl) ?_
   refine Oo u73 .grow rfl (ZJ rfl rfl (by decide) rfl) ?_
   refine O_opXI (fun _ G => .turn _ G) rfl rfl rfl (v_cpApp rfl rfl rfl rfl rfl rfl rfl rfl hcp (by show (a.length + 1) * 8 ≤ _ ∧ _; omega)) (fun _ _ => rfl) ?_
   rintro _ _ ⟨Z2, i, rfl, rfl, hZ2⟩
   refine O_env (env' := u73) rfl ?_
   refine ZY [_] (by rfl) (And.intro (And.intro (W6c rfl rfl rfl rfl rfl) (W6c rfl rfl rfl rfl rfl)) trivial) ?_
   refine P_call 5 (bef := #[0, 0, 0, 4, 14, 31, 63, 127, 127, 255, 1023]) XH5 XH5 rfl rfl rfl rfl (by exact search_in hZ2 (ih _ (a ++ [b]) (Pat_snoc ha (by omega)) (by simp; omega)) rfl rfl) ?_
   rintro v _ ⟨hv, rfl⟩; obtain ⟨l, ok, he, h5, h6⟩ := leT_eq (srF (wsP p) p.rules M (a ++ [b])); rw [he] at hv; subst hv
   refine P_env (env' := u73) rfl ?_
   refine P_seg [6, 7, 8, 9, 10] (bef := #[0, 0, 0, 4, 14, 31, 63, 127, 127, 255, 1023]) XH5 XH5 XH5 ?_
   refine Oo u73 .calm rfl (Zb (.inl rfl) rfl) ?_
   refine Oo u73 .calm rfl (rfl) ?_
   refine Oo u73 .calm rfl (rfl) ?_
   refine Oo u73 .calm rfl (Zb (.inr rfl) rfl) ?_
   refine Oo u73 .calm rfl (Zb (.inr rfl) rfl) ?_
   refine ZY [] XH5 (trivial) ?_
   refine P_end XH5 ?_
   refine Zc (Zd (Za ?_))
   refine Lo u73 (Zb (.inl rfl) rfl) ?_
   refine Ze (Zc ?_)
   refine Zk _ rfl (fun hc3 => ?_) (fun hc3 => ?_)
   ·try simp only [qB, qN] at hc3
    have hok : ok = true := by assumption
    subst hok
    refine Zd (Za ?_)
    refine Lo u73 (Zb (.inl rfl) rfl) ?_
    refine Lo u73 (Zb (.inr rfl) rfl) ?_
    refine Lo u73 (Zg (VVal.bool true) (.inr rfl) rfl) ?_
    refine Ze (Zc (Zi (ZE (Zm (Yf (ZE (Zm ?_)))))))
    refine W6j (.inr rfl) (YG rfl rfl rfl) ?_
    exact W6k
   ·try simp only [qB, qN] at hc3
    have hok : ok = false := by assumption
    subst hok
    refine Zj (Zr (Zc (Za ?_)))
    refine Lo u73 (Zb (.inl rfl) rfl) ?_
    refine Lo u73 (W14 rfl rfl rfl) ?_
    refine Lo u73 (Zb (.inr rfl) rfl) ?_
    refine Ze ?_
    refine Zs (mk 73 9444732965739290426361) (env' := u73) rfl ⟨b + 1, ?_, rfl, ?_⟩
    ·first | omega | (simp only []; omega)
    ·exact ⟨⟨by omega, hsr.trans (srR_no (by omega) (h6 rfl).2)⟩, _, rfl⟩
  ·try simp only [qB, qN] at hc2
   refine ZH (ZI (Zw (ZG (Zc (Zd (Za ?_))))))
   refine Lo u73 (Zg (VVal.slice none 0 0 true 0) (.inr rfl) rfl) ?_
   refine Lo u73 (Zg (VVal.bool false) (.inr rfl) rfl) ?_
   refine Ze (Zc ?_)
   refine Yo (Gh.freezeNil 4 (es' := 1) rfl rfl) ?_
   refine Zi ?_
   refine W6j (.inr rfl) (YG rfl rfl rfl) ?_
   exact W6k
theorem search_spec {x : SW} (p : Pb) (hp : PbL p) (g : Go.V.Good p) : ∀ (M : Nat) (H : Zf) (a : List Nat), Pat a → a.length + M = p.who.length → F (psys x) 131 [.agg (pbB p), fzN a] H (fun v G => v = leT (srF (wsP p) p.rules M a) ∧ G = H)
  | 0, H, a, ha, hl => search_0 p hp g H a ha hl
  | M + 1, H, a, ha, hl => search_s p hp g M (fun H a b c => search_spec p hp g M H a b c) H a ha hl
theorem search_top {x : SW} (p : Pb) (hp : PbL p) (g : Go.V.Good p) (H : Zf) : F (psys x) 131 [.agg (pbB p), niS] H (fun v G => ∃ l ok, v = .tuple [fzN l, .bool ok] ∧ leT (leA p) = .tuple [fzN l, .bool ok] ∧ G = H) := by
  refine F.pre (Gh.freezeNil (vs' := [.agg (pbB p), fzN []]) 1 rfl rfl) ?_
  refine (search_spec p hp g p.who.length H [] Pat_nil (Nat.zero_add _)).mono ?_
  rintro v G ⟨rfl, rfl⟩
  have h1 := srF_fd (u := p.users.toNat) (ws := wsP p) (rs := p.rules) fun r hr => by rw [ZO]; exact g.ru r hr
  have h2 : leA p = srF (wsP p) p.rules p.who.length [] := by
    unfold leA
    rw [if_pos (pck_good.2 g)]
    unfold YZ
    rw [← ZO, h1]
  rw [← h2]
  obtain ⟨l, ok, he, _, _⟩ := leT_eq (leA p)
  exact ⟨l, ok, he, he, rfl⟩
theorem fLeast_spec {x : SW} (H : Zf) (p : Pb) (hp : PbL p) : F (psys x) 104 [.agg (pbB p)] H fun v G => v = leT (leA p) ∧ G = H := by
 refine Zq Tryd.func104 rfl u11 rfl ?_
 refine Zd (Za ?_)
 refine Lo u11 (ZK rfl rfl rfl) ?_
 refine Lo u11 (Zg (VVal.slice none 0 0 true 0) (.inr rfl) rfl) ?_
 refine Lo u11 (Zg (VVal.bool false) (.inr rfl) rfl) ?_
 refine Ze (Zc (Zd (Zd ?_)))
 refine Yo (Gh.freezePtrL (cs := pbB p) 1 0 rfl rfl rfl) ?_
 refine Za ?_
 refine Lo u11 (W6l rfl rfl rfl rfl rfl) ?_
 refine Zv rfl rfl rfl (by exact fpCheck_spec _ _ hp) ?_
 rintro _ _ ⟨rfl, rfl⟩
 refine Le u11 ?_
 refine Lo u11 (rfl) ?_
 refine Ze (Zc ?_)
 refine Zk _ rfl (fun hc1 => ?_) (fun hc1 => ?_)
 ·try simp only [qB] at hc1
  refine Zd (Za ?_)
  refine Lo u11 (Zg (VVal.slice none 0 0 true 0) (.inr rfl) rfl) ?_
  refine Lo u11 (Zg (VVal.bool false) (.inr rfl) rfl) ?_
  refine Ze (Zc ?_)
  refine Yo (Gh.freezeNil 2 (es' := 1) rfl rfl) ?_
  refine Zi (Zm ?_)
  refine W6j (.inr rfl) (YG rfl rfl rfl) ?_
  exact W6m
 ·try simp only [qB] at hc1
  refine Zj (Zc (Zd ?_))
  have g : Go.V.Good p := pck_good.1 (by assumption)
  refine Za ?_
  refine Lo u11 (W6l rfl rfl rfl rfl rfl) ?_
  refine Zv rfl rfl rfl (by exact search_top p hp g _) ?_
  rintro _ _ ⟨l, ok, rfl, he, rfl⟩
  refine Le u11 ?_
  refine Lo u11 (rfl) ?_
  refine Lo u11 (rfl) ?_
  refine Lo u11 (Zb (.inr rfl) rfl) ?_
  refine Lo u11 (Zb (.inr rfl) rfl) ?_
  refine Ze (Zc (Zi ?_))
  refine W6j (.inr rfl) (YG rfl rfl rfl) ?_
  exact W6m
theorem fCan_spec {x : SW} (H : Zf) (p : Pb) (hp : PbL p) : F (psys x) 64 [.agg (pbB p)] H fun v G => v = .bool (leA p).isSome ∧ G = H := by
 refine Zq Tryd.func64 rfl u11 rfl ?_
 refine Zd (Za ?_)
 refine Lo u11 (ZK rfl rfl rfl) ?_
 refine Lo u11 (Zg (VVal.bool false) (.inr rfl) rfl) ?_
 refine Ze (Zc (Zd (Za ?_)))
 refine Lo u11 (W11 rfl rfl rfl rfl rfl) ?_
 refine Zv rfl rfl rfl (by exact fLeast_spec _ p hp) ?_
 rintro v _ ⟨hv, rfl⟩; obtain ⟨l, ok, he, h1, h2⟩ := leT_eq (leA p); have hok := leT_ok he; rw [he] at hv; subst hv; subst hok
 refine Le u11 ?_
 refine Lo u11 (Zb (.inl rfl) rfl) ?_
 refine Lo u11 (rfl) ?_
 refine Lo u11 (rfl) ?_
 refine Lo u11 (Zb (.inr rfl) rfl) ?_
 refine Lo u11 (Zb (.inr rfl) rfl) ?_
 refine Ze (Zc (Zd (Za ?_)))
 refine Lo u11 (Zb (.inl rfl) rfl) ?_
 refine Lo u11 (Zb (.inr rfl) rfl) ?_
 refine Ze (Zc (Zi ?_))
 refine W10 (.inr rfl) (Zh rfl rfl) ?_
 exact ⟨rfl, rfl⟩
abbrev u53 {a0 a1 a2 a3 a4 a5 a6 a7 a8 a9 a10 a11 a12 a13 a14 a15 a16 a17 a18 a19 a20 a21 a22 a23 a24 a25 a26 a27 a28 a29 a30 a31 a32 a33 a34 a35 a36 a37 a38 a39 a40 a41 a42 a43 a44 a45 a46 a47 a48 a49 a50 a51 a52 : VVal} : VEnv := a0 :: a1 :: a2 :: a3 :: a4 :: a5 :: a6 :: a7 :: a8 :: a9 :: a10 :: a11 :: a12 :: a13 :: a14 :: a15 :: a16 :: a17 :: a18 :: a19 :: a20 :: a21 :: a22 :: a23 :: a24 :: a25 :: a26 :: a27 :: a28 :: a29 :: a30 :: a31 :: a32 :: a33 :: a34 :: a35 :: a36 :: a37 :: a38 :: a39 :: a40 :: a41 :: a42 :: a43 :: a44 :: a45 :: a46 :: a47 :: a48 :: a49 :: a50 :: a51 :: a52 :: []
theorem W6p {T : TypeId → Option VTy} {H : Zf} {op : Op} {ρ : Operand → VVal} {t : TypeId} {a : Operand} {y : VTy} {p : VVal} {n : Nat} {vs : List VVal} (ho : op = .load t a) (ha : ρ a = p) (hy : T t = some y) (hd : Zo y.desc = true) (hn : y.size = n) (h : LdOkA H p n vs := by first | exact .inl ⟨_, _, rfl, XH52⟩ | exact .inr ⟨_, _, _, _, rfl, XH44, XH52⟩) : vop T ρ H op = some (.agg vs, H) := v_ldA ho ha hy hd hn h
theorem W6r {P : Prop} (h : P := by first | exact ⟨by rw [liA_no (by assumption)]; rfl, rfl⟩ | exact ⟨by rw [← flK_all h0]; show _ = VVal.fsl _ (flK p p.who.length 0).length 1 false; rw [Yv]; rfl, rfl⟩) : P := h
theorem W6s {T : TypeId → Option VTy} {H : Zf} {op : Op} {ρ : Operand → VVal} {t : TypeId} {a : Operand} {y : VTy} {p v : VVal} (ho : op = .load t a) (ha : ρ a = p) (hy : T t = some y) (hd : Zo y.desc = false) (h : LdOk H p v := by first | exact .inl ⟨_, _, rfl, XH52⟩ | exact .inr ⟨_, _, _, _, rfl, XH44, XH52⟩) : vop T ρ H op = some (v, H) := v_ld ho ha hy hd h
theorem W6v {T : TypeId → Option VTy} {H : Zf} {op : Op} {ρ : Operand → VVal} {t : TypeId} {a : Operand} {y : VTy} {p v : VVal} (ho : op = .load t a) (ha : ρ a = p) (hy : T t = some y) (hd : Zo y.desc = false) (h : LdOk H p v := by first | exact .inl ⟨_, _, rfl, XH52⟩ | exact .inr ⟨_, _, _, _, rfl, by exact getB rfl rfl, XH52⟩) : vop T ρ H op = some (v, H) := v_ld ho ha hy hd h
theorem W6w {T : TypeId → Option VTy} {H : Zf} {op : Op} {ρ : VEnv} {H' : Zf} {t : TypeId} {a : Operand} {i : Nat} {v : VVal} {y : VTy} {b off : Nat} {cs new : List VVal} (ho : op = .store t a (.tmp i)) (hv : ρ[i]? = some v) (ha : ρ.eval a = .ptr (some (b, off))) (hy : T t = some y) (hx : v.cells = some new) (hn : new.length = y.size) (h1 : new.all VVal.one = true) (hb : H[b]? = some (.cells cs true) := by exact getB rfl rfl) (hl : off + new.length ≤ cs.length := by show 0 + ((i : Nat) : Int).toNat * 1 + 1 ≤ _; rw [List.length_map, Yv]; omega) (hH : H.set b (.cells (ZD cs off new) true) = H' := by exact (setB rfl (show 1 < 2 by decide)).trans (congrArg (fun z => (H ++ [VBlk.dead, VBlk.cells z true]) ++ _) (flK_st (by omega) (by unfold cLi; simp_all)))) : vop T ρ.eval H op = some (.skip, H') := Z5 ho hv ha hy hx hn h1 hb hl hH
theorem fewP_2 {p : Pb} {m : Nat} : fewP (fewP p m) m = fewP p m := by
  show fewQ (cutP (fewP p m)) m = _
  rw [fewP_cut]
  unfold fewP fewQ
  simp only [Pb.users, Pb.who, Pb.fixed, Pb.rules, List.take_take, Nat.min_self, List.filter_filter, Bool.and_self]
theorem Few2_spec {x : SW} (H : Zf) (p : Pb) (m : Nat) (hu : -9223372036854775808 ≤ p.users ∧ p.users < 9223372036854775808) : F (psys x) 15 [.agg (pbB (fewP p m)), iI (m : Nat)] H fun v G => v = .agg (pbB (fewP p m)) ∧ G = H := by
  have := Few_spec (x := x) H (fewP p m) m hu
  rw [fewP_2] at this; exact this
theorem fx_hds_rev {q : Pb} {s u : Int} (h : fxE q s u = 0) {us : List Int} (hd : hds q us = true) (hu : us.getD s.toNat 0 = u) : hds (fxP q s u) us = true := by
  obtain ⟨g, h1, h2⟩ := fxE_ok.1 h
  have gx := fx_good h
  have g5 := g.fx
  obtain ⟨_, hl, h3, h4⟩ := hds_iff.1 hd
  have ex := fxP_ok h
  rw [ex] at gx ⊢
  have hs : s.toNat < q.who.length := by omega
  refine hds_iff.2 ⟨gx, hl, fun i hi => ?_, h4⟩
  have hi : i < q.who.length := hi
  by_cases e : i = s.toNat
  · subst e
    rw [myB_f gx hs (by show 0 ≤ (q.fixed.set s.toNat u).getD s.toNat 0; rw [YI, if_pos ⟨rfl, by omega⟩]; omega), decide_eq_true_eq]
    show us.getD s.toNat 0 = (q.fixed.set s.toNat u).getD s.toNat 0
    rw [YI, if_pos ⟨rfl, by omega⟩]; exact hu
  · have hw : wrd (q.users, q.who, q.fixed.set s.toNat u, q.rules, ()) i = wrd q i := by
      have hg : (q.fixed.set s.toNat u).getD i 0 = q.fixed.getD i 0 := by rw [YI, if_neg (fun e2 : i = s.toNat ∧ _ => e e2.1)]
      show (if 0 ≤ (q.fixed.set s.toNat u).getD i 0 then 1#64 <<< ((q.fixed.set s.toNat u).getD i 0).toNat else q.who.getD i 0) = _
      rw [hg]; rfl
    have h5 := h3 i hi
    unfold myB at h5 ⊢
    rw [hw]; exact h5
theorem myB_in' {p : Pb} {i : Nat} {u : Int} (g : Go.V.Good p) (hi : i < p.who.length) (h : myB p i u = true) : 0 ≤ u ∧ u < p.users := by
  have ok := (okW_in g hi).1
  by_cases h0 : 0 ≤ p.fixed.getD i 0
  · rw [myB_f g hi h0, decide_eq_true_eq] at h; omega
  · rw [myB_w g hi (by omega), Bool.and_eq_true, decide_eq_true_eq] at h; exact h.1
def cLi (p : Pb) (j v : Nat) : Bool := myB p j (v : Nat) && (leA (fxP p (j : Nat) (v : Nat))).isSome
theorem cLi_iff {p : Pb} {j v : Nat} (g : Go.V.Good p) (hj : j < p.who.length) (hv : (v : Int) < p.users) : cLi p j v = true ↔ ∃ ns : List Nat, hds p (zI ns) = true ∧ ns.getD j 0 = v := by
  have hE : fxE p (j : Nat) (v : Nat) = 0 := fxE_ok.2 ⟨g, by omega, by omega⟩
  unfold cLi
  rw [Bool.and_eq_true]
  constructor
  · rintro ⟨h1, h2⟩
    obtain ⟨l, hl⟩ := Option.isSome_iff_exists.1 h2
    obtain ⟨h3, h4⟩ := fx_hds hE (by rw [Int.toNat_natCast]; exact h1) (leA_some hl)
    refine ⟨l, h3, ?_⟩
    rw [Int.toNat_natCast] at h4
    have hl2 : j < l.length := by have := (hds_iff.1 h3).2.1; rw [zI_len] at this; omega
    rw [zI_get hl2] at h4
    omega
  · rintro ⟨ns, h1, h2⟩
    have hl2 : j < ns.length := by have := (hds_iff.1 h1).2.1; rw [zI_len] at this; omega
    have hz : (zI ns).getD j 0 = (v : Int) := by rw [zI_get hl2, h2]
    refine ⟨by have := (hds_iff.1 h1).2.2.1 j hj; rwa [hz] at this, leA_can (fx_hds_rev hE h1 (by rw [Int.toNat_natCast]; exact hz))⟩
theorem ptP_iff {p : Pb} {a : List Nat} (h : pck p = 0) : a ∈ ptP p ↔ Pat a ∧ a.length = p.who.length ∧ Mat (Z8 (wsP p) a a.length) ∧ ∀ r, r ∈ p.rules → erl r p.who.length (zI a) = true := by
  have g := pck_good.1 h
  have hr : ∀ r, r ∈ p.rules → rck (wsP p).length r = true := fun r hr => by rw [ZO]; exact g.ru r hr
  constructor
  · intro ha
    obtain ⟨_, h1, h2, _, h3⟩ := ptP_mem ha
    have hk := kept_iff (ws := wsP p) (rs := p.rules) h1 (by rw [ZO]; exact h2) hr
    have h4 : keptN (kpB (wsP p) (addR (wsP p).length p.rules p.rules.length)) 0 a = true := by rw [ZO]; exact h3
    have h5 := hk.1 h4
    rw [ZO] at h5
    exact ⟨h1, h2, h5⟩
  · rintro ⟨h1, h2, h3, h4⟩
    have hk := kept_iff (ws := wsP p) (rs := p.rules) h1 (by rw [ZO]; exact h2) hr
    have h5 := hk.2 ⟨h3, by rw [ZO]; exact h4⟩
    unfold ptP
    rw [if_pos h, ptT_snd, List.mem_filter]
    refine ⟨?_, ?_⟩
    · have := pats_all (m := (wsP p).length) (row := []) h1 (by rw [ZO]; simpa using h2) rfl
      exact this
    · rw [ZO] at h5; exact h5
theorem live_iff {p : Pb} {j v : Nat} (h : pck p = 0) (hj : j < p.who.length) : (∃ a, a ∈ ptP p ∧ (frW (Z8 (wsP p) a a.length) (a.getD j 0)).getLsbD v = true) ↔ ∃ ns : List Nat, hds p (zI ns) = true ∧ ns.getD j 0 = v := by
  have g := pck_good.1 h
  constructor
  · rintro ⟨a, ha, hb⟩
    obtain ⟨h1, h2, h3, h4⟩ := (ptP_iff h).1 ha
    have hlt := Pat.lt h1 (Nat.le_refl a.length) (i := j) (by omega)
    obtain ⟨us, h5, h6⟩ := (frW_mat (by rw [Yx]; exact hlt)).1 hb
    refine ⟨plN a us, hds_plan.2 ⟨g, plan_of h1 (by rw [ZO]; exact h2) h5 (fun r hr => by rw [ZO]; exact h4 r hr)⟩, ?_⟩
    rw [plN_get (by omega), h6]
  · rintro ⟨ns, h1, h2⟩
    obtain ⟨_, hp⟩ := hds_plan.1 h1
    obtain ⟨q1, q2, q3, q4⟩ := of_plan hp
    have q5 := @ptK_pl ns
    have hlt := Pat.lt q1 (Nat.le_refl _) (i := j) (by rw [q2, ZO]; exact hj)
    refine ⟨(ptK ns ns.length).1, (ptP_iff h).2 ⟨q1, by rw [q2, ZO], ⟨_, q3⟩, fun r hr => by have := q4 r hr; rwa [ZO] at this⟩, ?_⟩
    refine (frW_mat (by rw [Yx]; exact hlt)).2 ⟨_, q3, ?_⟩
    rw [← plN_get (by rw [q2, ZO]; exact hj), q5, h2]
def flK (p : Pb) (i u : Nat) : List (BitVec 64) := (List.range p.who.length).map fun j => if j < i then wdP (cLi p j) p.users.toNat else if j = i then wdP (cLi p j) u else 0#64
theorem Yv {p : Pb} {i u : Nat} : (flK p i u).length = p.who.length := by unfold flK; simp
theorem flK_get {p : Pb} {i u j : Nat} (h : j < p.who.length) : (flK p i u).getD j 0 = if j < i then wdP (cLi p j) p.users.toNat else if j = i then wdP (cLi p j) u else 0#64 := by
  unfold flK; simp [List.getD_eq_getElem?_getD, h]
theorem flK_0 {p : Pb} : flK p 0 0 = List.replicate p.who.length 0#64 := by
  apply List.ext_getElem (by rw [Yv, List.length_replicate])
  intro i h1 h2
  have h3 : i < p.who.length := by rw [Yv] at h1; exact h1
  simp [flK, wdP_0]
theorem flK_next {p : Pb} {i : Nat} : flK p i p.users.toNat = flK p (i + 1) 0 := by
  refine YU (by rw [Yv, Yv]) fun j hj => ?_
  rw [Yv] at hj
  rw [flK_get hj, flK_get hj]
  by_cases h1 : j < i
  · rw [if_pos h1, if_pos (by omega)]
  · rw [if_neg h1]
    by_cases h2 : j = i
    · rw [if_pos h2, if_pos (by omega)]
    · rw [if_neg h2, if_neg (by omega)]
      split
      · rw [wdP_0]
      · rfl
theorem flK_st {p : Pb} {i u : Nat} (hi : i < p.who.length) (h : cLi p i u = true) : ZD ((flK p i u).map iW) (0 + ((i : Nat) : Int).toNat * 1) [iW ((flK p i u).getD ((i : Nat) : Int).toNat 0 ||| 1#64 <<< u)] = (flK p i (u + 1)).map iW := by
  rw [Int.toNat_natCast, spl_W (by rw [Yv]; exact hi)]
  congr 1
  refine YU (by rw [List.length_set, Yv, Yv]) fun j hj => ?_
  rw [List.length_set, Yv] at hj
  by_cases e : j = i
  · subst e
    rw [show ((flK p j u).set j ((flK p j u).getD j 0 ||| 1#64 <<< u)).getD j 0 = (flK p j u).getD j 0 ||| 1#64 <<< u by simp [List.getD_eq_getElem?_getD, Yv, hj], flK_get hj, flK_get hj, if_neg (by omega), if_pos rfl, if_neg (by omega), if_pos rfl, wdP_yes h]
  · rw [show ((flK p i u).set i ((flK p i u).getD i 0 ||| 1#64 <<< u)).getD j 0 = (flK p i u).getD j 0 by simp [List.getD_eq_getElem?_getD, List.getElem?_set, Ne.symm e], flK_get hj, flK_get hj]
    by_cases h1 : j < i
    · rw [if_pos h1, if_pos h1]
    · rw [if_neg h1, if_neg h1, if_neg e, if_neg e]
theorem flK_no {p : Pb} {i u : Nat} (h : cLi p i u = false) : flK p i u = flK p i (u + 1) := by
  refine YU (by rw [Yv, Yv]) fun j hj => ?_
  rw [Yv] at hj
  rw [flK_get hj, flK_get hj]
  by_cases h1 : j < i
  · rw [if_pos h1, if_pos h1]
  · rw [if_neg h1, if_neg h1]
    by_cases e : j = i
    · subst e; rw [if_pos rfl, if_pos rfl, wdP_no h]
    · rw [if_neg e, if_neg e]
theorem flK_all {p : Pb} (h : pck p = 0) : flK p p.who.length 0 = liA p := by
  have g := pck_good.1 h
  have g2 := g.u64; have g4 := g.u0
  refine YU (by rw [Yv, liA_len h]) fun j hj => ?_
  rw [Yv] at hj
  rw [flK_get hj, if_pos hj, liA_in h]
  apply BitVec.eq_of_getLsbD_eq
  intro v hv
  rw [wdP_bit hv, Bool.eq_iff_iff, liF_bit (by rw [ZO]; exact hj) (by rw [List.length_replicate, ZO]) (fun a ha => by have := ptP_mem ha; rw [ZO]; exact ⟨this.2.1, this.2.2.1⟩) (fun e => by simp [List.getD_eq_getElem?_getD, hj] at e)]
  rw [live_iff h hj, Bool.and_eq_true, decide_eq_true_eq]
  constructor
  · rintro ⟨h1, h2⟩
    exact .inr ((cLi_iff g hj (by omega)).1 h2)
  · rintro (h1 | ⟨ns, h1, h2⟩)
    · simp [List.getD_eq_getElem?_getD, hj] at h1
    · have hl2 : j < ns.length := by have := (hds_iff.1 h1).2.1; rw [zI_len] at this; omega
      have hm := (hds_iff.1 h1).2.2.1 j hj
      have hb : (v : Int) < p.users := by
        have := (myB_in' g hj hm).2
        rw [zI_get hl2, h2] at this; exact this
      exact ⟨by omega, (cLi_iff g hj hb).2 ⟨ns, h1, h2⟩⟩
theorem fLive_spec {x : SW} (H : Zf) (p : Pb) (hp : PbL p) : F (psys x) 34 [.agg (pbB p)] H fun v G => v = fzW (liA p) ∧ G = H := by
 refine Zq Tryd.func34 rfl u53 rfl ?_
 refine Zd (Za ?_)
 refine Lo u53 (ZK rfl rfl rfl) ?_
 refine Lo u53 (Zg (VVal.slice none 0 0 true 0) (.inr rfl) rfl) ?_
 refine Ze (Zc (Zd (Zd ?_)))
 refine Yo (Gh.freezePtrL (cs := pbB p) 1 0 rfl rfl rfl) ?_
 refine Za ?_
 refine Lo u53 (W6p rfl rfl rfl rfl rfl) ?_
 refine Zv rfl rfl rfl (by exact fpCheck_spec _ p hp) ?_
 rintro _ _ ⟨rfl, rfl⟩
 refine Le u53 ?_
 refine Lo u53 (rfl) ?_
 refine Ze (Zc ?_)
 refine Zk _ rfl (fun hc1 => ?_) (fun hc1 => ?_)
 ·try simp only [qB, qN] at hc1
  refine Zd (Za ?_)
  refine Lo u53 (Zg (VVal.slice none 0 0 true 0) (.inr rfl) rfl) ?_
  refine Ze (Zc ?_)
  refine Yo (Gh.freezeNil 2 (es' := 1) rfl rfl) ?_
  refine Zi (Zm ?_)
  refine W4t (.inr rfl) (Zh rfl rfl) ?_
  exact W6r
 ·try simp only [qB, qN] at hc1
  refine Zj (Zc (Zd ?_))
  have h0 : pck p = 0 := by assumption
  have g := pck_good.1 h0
  have g1 := g.n12; have g5 := g.fx; have g2 := g.u64; have g4 := g.u0
  refine Za ?_
  refine Lo u53 (rfl) ?_
  refine Lo u53 (W6s rfl rfl rfl rfl) ?_
  refine Lo u53 (rfl) ?_
  refine Lo u53 (YS rfl rfl rfl rfl rfl (by decide) ⟨by omega, Int.le_refl _, by show (p.who.length : Int) * (8 : Nat) ≤ _; omega, by omega⟩) ?_
  refine Lo u53 (Zb (.inr rfl) rfl) ?_
  refine Ze (Zc (Zd (Zd ?_)))
  refine B_heap (H' := (H ++ [.dead, .cells ((flK p 0 0).map iW) true]) ++ []) (by rw [flK_0, ← MM.rep_w, List.append_nil]; rfl) ?_
  refine Za ?_
  refine Lo u53 (Zg (VVal.int .i64 0) (.inr rfl) rfl) ?_
  refine Ze (Zc (Zl ?_))
  refine Zu (mk 53 9007199254740965) (env' := u53) rfl ?_
  refine ZA (fun (i : Nat) => p.who.length - i) (fun (i : Nat) => [(4, iI (i : Nat))]) (fun (i : Nat) G => (i ≤ p.who.length) ∧ ∃ X, G = (H ++ [.dead, .cells ((flK p i 0).map iW) true]) ++ X) 0 rfl ?_ ?_
  ·refine ⟨?_, ⟨[], rfl⟩⟩
   exact Nat.zero_le _
  rintro i _ ⟨hi, ⟨X, rfl⟩⟩
  refine ZR (env' := u53) rfl ?_
  refine Zd (Zd (Za ?_))
  refine Lo u53 (Zb (.inl rfl) rfl) ?_
  refine Lo u53 (Zb (.inl rfl) rfl) ?_
  refine Lo u53 (rfl) ?_
  refine Lo u53 (rfl) ?_
  refine Ze (Zc ?_)
  refine Zk _ rfl (fun hc2 => ?_) (fun hc2 => ?_)
  ·try simp only [qB, qN] at hc2
   refine Zj (Zc (Zd (Zl (Zd (Za ?_)))))
   refine Lo u53 (Zg (VVal.int .i64 0) (.inr rfl) rfl) ?_
   refine Ze (Zc (Zl ?_))
   refine Zu (mk 53 9007199254740933) (env' := u53) rfl ?_
   refine ZA (fun (u : Nat) => p.users.toNat - u) (fun (u : Nat) => [(5, iI (u : Nat))]) (fun (u : Nat) G => (u ≤ p.users.toNat) ∧ ∃ X, G = (H ++ [.dead, .cells ((flK p i u).map iW) true]) ++ X) 0 rfl ?_ ?_
   ·refine ⟨?_, ⟨_, rfl⟩⟩
    exact Nat.zero_le _
   rintro u _ ⟨hu, ⟨X, rfl⟩⟩
   refine ZR (env' := u53) rfl ?_
   refine Zd (Zd (Za ?_))
   refine Lo u53 (Zb (.inl rfl) rfl) ?_
   refine Lo u53 (rfl) ?_
   refine Lo u53 (W6s rfl rfl rfl rfl) ?_
   refine Lo u53 (rfl) ?_
   refine Ze (Zc ?_)
   refine Zk _ rfl (fun hc3 => ?_) (fun hc3 => ?_)
   ·try simp only [qB, qN] at hc3
    refine Zj (Zc (Zd (Zl (Zd (Za ?_)))))
    refine Lo u53 (W6p rfl rfl rfl rfl rfl) ?_
    refine Lo u53 (Zb (.inl rfl) rfl) ?_
    refine Lo u53 (Zb (.inl rfl) rfl) ?_
    refine Zv rfl rfl rfl (by exact fFix_spec _ p (i : Nat) (u : Nat) hp) ?_
    rintro _ _ ⟨rfl, rfl⟩
    refine Le u53 ?_
    refine Lo u53 (Zb (.inl rfl) rfl) ?_
    refine Lo u53 (rfl) ?_
    refine Lo u53 (rfl) ?_
    refine Lo u53 (ZT rfl rfl) ?_
    refine Lo u53 (W13 rfl rfl rfl rfl rfl rfl rfl) ?_
    refine Lo u53 (Zb (.inr rfl) rfl) ?_
    refine Ze (Zc (Zd (Za ?_)))
    refine Lo u53 (W6p rfl rfl rfl rfl rfl) ?_
    refine Lo u53 (Zb (.inl rfl) rfl) ?_
    refine Lo u53 (Zb (.inl rfl) rfl) ?_
    refine Zv rfl rfl rfl (by exact May_spec _ p g i (by omega) (u : Nat)) ?_
    rintro _ _ ⟨rfl, rfl⟩
    refine Le u53 ?_
    refine Lo u53 (Zb (.inl rfl) rfl) ?_
    refine Zy 38 (env1 := u53) (env2 := u53) rfl rfl rfl (fun hg4 => ?_) (fun hg4 => ?_)
    ·try simp only [qB, qN] at hg4
     refine Lo u53 (W6p rfl rfl rfl rfl rfl) ?_
     refine Zv rfl rfl rfl (by exact fCan_spec _ (fxP p (i : Nat) (u : Nat)) (fxP_L hp)) ?_
     rintro _ _ ⟨rfl, rfl⟩
     refine Le u53 ?_
     refine Lo u53 (ZP rfl rfl rfl) ?_
     refine Ze (Zc ?_)
     refine Zk _ rfl (fun hc5 => ?_) (fun hc5 => ?_)
     ·try simp only [qB, qN] at hc5
      refine ZS [0, 1, 2, 3, 4, 5, 6, 7, 8, 9, 10] #[0, 0, 0, 0, 12, 28, 0, 64, 252, 511, 1023] XH5 XH5 XH5 ?_
      refine Oo u53 .calm rfl (Zb (.inl rfl) rfl) ?_
      refine Oo u53 .calm rfl (Zb (.inl rfl) rfl) ?_
      refine Oo u53 .calm rfl (Zb (.inl rfl) rfl) ?_
      refine Oo u53 .calm rfl (Zb (.inl rfl) rfl) ?_
      refine Oo u53 .calm rfl (W4x rfl rfl rfl rfl rfl rfl rfl) ?_
      refine Oo u53 .look rfl (W6v rfl rfl rfl rfl) ?_
      refine Oo u53 .calm rfl (Zb (.inl rfl) rfl) ?_
      refine Oo u53 .calm rfl (v_shl1 rfl rfl rfl XH1) ?_
      refine Oo u53 .calm rfl (v_orW rfl rfl rfl) ?_
      refine Oo u53 .calm rfl (W4x rfl rfl rfl rfl rfl rfl rfl) ?_
      refine Oo u53 .turn rfl (W6w rfl rfl rfl rfl rfl rfl rfl) ?_
      refine ZY [] XH5 (trivial) ?_
      refine Zr (Zc (Za ?_))
      refine Lo u53 (Zb (.inl rfl) rfl) ?_
      refine Lo u53 (W14 rfl rfl rfl) ?_
      refine Lo u53 (Zb (.inr rfl) rfl) ?_
      refine Ze ?_
      refine Zs (mk 53 9007199254740933) (env' := u53) rfl ⟨u + 1, ?_, rfl, ?_⟩
      ·first | omega | (simp only []; omega)
      ·first | exact ⟨by omega, _, rfl⟩ | exact ⟨by omega, _, by rw [flK_no (by unfold cLi; simp_all)]⟩
     ·try simp only [qB, qN] at hc5
      refine Zj (Zr (Zc (Za ?_)))
      refine Lo u53 (Zb (.inl rfl) rfl) ?_
      refine Lo u53 (W14 rfl rfl rfl) ?_
      refine Lo u53 (Zb (.inr rfl) rfl) ?_
      refine Ze ?_
      refine Zs (mk 53 9007199254740933) (env' := u53) rfl ⟨u + 1, ?_, rfl, ?_⟩
      ·first | omega | (simp only []; omega)
      ·first | exact ⟨by omega, _, rfl⟩ | exact ⟨by omega, _, by rw [flK_no (by unfold cLi; simp_all)]⟩
    ·try simp only [qB, qN] at hg4
     refine Lf u53 ?_
     refine Lf u53 ?_
     refine Lo u53 (ZB (VVal.bool false) rfl rfl rfl) ?_
     refine Ze (Zc ?_)
     refine Ym rfl rfl ?_
     refine Zj (Zr (Zc (Za ?_)))
     refine Lo u53 (Zb (.inl rfl) rfl) ?_
     refine Lo u53 (W14 rfl rfl rfl) ?_
     refine Lo u53 (Zb (.inr rfl) rfl) ?_
     refine Ze ?_
     refine Zs (mk 53 9007199254740933) (env' := u53) rfl ⟨u + 1, ?_, rfl, ?_⟩
     ·first | omega | (simp only []; omega)
     ·first | exact ⟨by omega, _, rfl⟩ | exact ⟨by omega, _, by rw [flK_no (by unfold cLi; simp_all)]⟩
   ·try simp only [qB, qN] at hc3
    refine ZH (ZI (Zw (ZG (Zr (Zc (Za ?_))))))
    refine Lo u53 (Zb (.inl rfl) rfl) ?_
    refine Lo u53 (W14 rfl rfl rfl) ?_
    refine Lo u53 (Zb (.inr rfl) rfl) ?_
    refine Ze ?_
    obtain rfl : u = p.users.toNat := by omega
    refine Zs (mk 53 9007199254740965) (env' := u53) rfl ⟨i + 1, ?_, rfl, ?_⟩
    ·first | omega | (simp only []; omega)
    ·exact ⟨by omega, _, by rw [flK_next]⟩
  ·try simp only [qB, qN] at hc2
   refine ZH (ZI (Zw (ZG (Zc (Zd (Za ?_))))))
   refine Lo u53 (Zb (.inl rfl) rfl) ?_
   refine Lo u53 (Zb (.inr rfl) rfl) ?_
   refine Ze (Zc ?_)
   obtain rfl : i = p.who.length := by omega
   refine B_heap (List.append_assoc _ _ _) ?_
   refine Yo (Gh.freezeL (l := (flK p p.who.length 0).map iW) 2 1 rfl rfl (Yn (by simp [Yv])) (Nat.le_refl _) rfl) ?_
   refine Zi ?_
   refine W4t (.inr rfl) (Zh rfl rfl) ?_
   exact W6r
namespace MM
end MM
open Go Go.V Go.RowKit
def sumP (p : Pb) : Nat := ((ptP p).map (cnA (wsP p))).sum
theorem W71 {T : TypeId → Option VTy} {H : Zf} {op : Op} {ρ : Operand → VVal} {t : TypeId} {a : Operand} {y : VTy} {p v : VVal} (ho : op = .load t a) (ha : ρ a = p) (hy : T t = some y) (hd : Zo y.desc = false) (h : LdOk H p v := by first | exact .inl ⟨_, _, rfl, XH45⟩ | exact .inr ⟨_, _, _, _, rfl, by first | exact Zx (ZL rfl rfl) | exact ZL rfl rfl | exact getB rfl rfl, XH45⟩) : vop T ρ H op = some (v, H) := v_ld ho ha hy hd h
theorem W73 {P : Prop} (h : P := by first | exact ⟨congrArg iW (by rw [hI]; rfl), rfl⟩ | exact ⟨congrArg iW (by rw [hX1, satW_full hX1 hX2]), rfl⟩) : P := h
theorem pl_step {ws : List (BitVec 64)} {a : List Nat} {most : BitVec 64} {s : Nat} (h : (Z8 ws a a.length).length ≤ 12) : Ya (Ya most 65536) s + MM.coV (Z8 ws a a.length) (Ya ((Ya most 65536) - Ya (Ya most 65536) s) 65536) = Ya (Ya most 65536) (s + cnA ws a) := by
  unfold MM.coV
  rw [if_pos h]
  exact sat_more (by rw [Ys]; omega)
theorem sum_split {f : List Nat → Nat} {l pre post : List (List Nat)} {a : List Nat} (h : l = pre ++ a :: post) : ((pre ++ [a]).map f).sum = (pre.map f).sum + f a ∧ ((pre ++ [a]).map f).sum ≤ (l.map f).sum := by
  subst h
  simp only [List.map_append, List.sum_append, List.map_cons, List.sum_cons, List.map_nil, List.sum_nil]
  omega
theorem tPlans_spec {x : SW} (H : Zf) (p : Pb) (hp : PbL p) (most : BitVec 64) : F (psys x) 29 [.agg (pbB p), iW most] H fun v G => v = iW (Ya (Ya most 65536) (sumP p)) ∧ G = H := by
 refine Zq Tryd.func29 rfl u25 rfl ?_
 refine Zd (Za ?_)
 refine Lo u25 (ZK rfl rfl rfl) ?_
 refine Lo u25 (ZK rfl rfl rfl) ?_
 refine Lo u25 (Zg (VVal.int .u64 0) (.inr rfl) rfl) ?_
 refine Ze (Zc (Zd ?_))
 refine Yo (Gh.freezePtrL (cs := pbB p) 2 0 rfl rfl rfl) ?_
 refine Za ?_
 refine Lo u25 (W12 rfl rfl rfl rfl) ?_
 refine Lo u25 (v_val rfl ((congrArg (VVal.int .u64) (MM.minW (a := most) (b := 65536#64))).trans rfl)) ?_
 refine Lo u25 (W13 rfl rfl rfl rfl rfl rfl rfl) ?_
 refine Ze (Zc (Zd (Za ?_)))
 refine Lo u25 (ZT rfl rfl) ?_
 refine Lo u25 (YE (VVal.int .u64 0) rfl rfl rfl rfl rfl rfl rfl XH0 XH6 XH9) ?_
 refine Ze (Zc (Zd (Zd (Za ?_))))
 refine Lo u25 (W11 rfl rfl rfl rfl rfl) ?_
 refine Zv rfl rfl rfl (by exact tpat_spec _ p) ?_
 rintro _ _ ⟨rfl, rfl⟩
 refine Le u25 ?_
 refine Ze (Zc (Zl ?_))
 refine Zu (mk 25 33552343) (env' := u25) rfl ?_
 refine B_rangeJ (fvP p) 2 (fun _ => rfl) (ptP p) (fun l0 h => by cases h) rfl (fun l9 G9 K9 hI9 => tpat1_spec l9 p hp G9 K9 hI9) (σ := Nat) (fun k s => H ++ [.dead, .cells [iW (Ya most 65536)] true, .cells [iW (Ya (Ya most 65536) s)] true, k]) 0 (fun k => by rw [List.append_assoc]; show _ = H ++ [.dead, .cells [iW (Ya most 65536)] true, .cells [iW (Ya (Ya most 65536) 0)] true, k]; rw [satW_0]; rfl) (fun k s => by simp) (fun k s => by rw [show (H ++ _ : Zf).length = H.length + 3 by simp]; exact ZL rfl rfl) (fun k k1 s => by rw [show (H ++ _ : Zf).length = H.length + 3 by simp]; exact ZQ rfl) (fun pre s => s = (pre.map (cnA (wsP p))).sum) ?_ (fun j pre c s => (j = Code.exit 0 ∧ (Ya (Ya most 65536) s = (Ya most 65536) ∧ s ≤ sumP p))) rfl ?_ ?_ ?_
 ·rfl
 ·intro pre c post s hx hI Lp kr kb hkr hkb
  try dsimp only at hI ⊢
  have hc9 : c ∈ ptP p := by rw [hx]; simp
  obtain ⟨h0, hpc, hcl, _, _⟩ := ptP_mem hc9
  have g1 := (pck_good.1 h0).n12
  have hbl := @Yx (wsP p) c c.length
  have hz := @szP_le c c.length
  obtain ⟨hs1, hs2⟩ := sum_split (f := cnA (wsP p)) hx
  refine ZR (env' := u25) rfl ?_
  refine Za ?_
  refine Lo u25 (Zb (.inr rfl) rfl) ?_
  refine Ze ?_
  refine ⟨rfl, s, rfl, ?_⟩
  try dsimp only
  refine Zl (Zd ?_)
  refine ZS [0, 1, 2, 3, 4, 5, 6, 7] #[0, 0, 0, 0, 12, 30, 63, 127] XH5 XH5 XH5 ?_
  refine Yu (env' := u25) (x := .look _ _) rfl rfl rfl (W12 rfl rfl rfl rfl) rfl rfl rfl ?_
  refine Oo u25 .calm rfl (Zb (.inl rfl) rfl) ?_
  refine Oo u25 .look rfl (W12 rfl rfl rfl rfl) ?_
  refine Oo u25 .look rfl (W12 rfl rfl rfl rfl) ?_
  refine Oo u25 .calm rfl (v_subW rfl rfl rfl) ?_
  refine Yc (env' := u25) rfl rfl rfl rfl rfl (by exact MM.mCount_spec _ (Z8 (wsP p) c c.length) ((Ya most 65536) - Ya (Ya most 65536) s) (by omega)) XH10 rfl rfl ?_
  refine Oo u25 .calm rfl (v_val (v_addW rfl rfl rfl) (congrArg iW (pl_step (s := s) (a := c) (ws := wsP p) (most := most) (by omega)))) ?_
  refine Oo u25 .turn rfl (W13 rfl rfl rfl rfl rfl rfl rfl) ?_
  refine O_nilP [(0, 5)] XH5 (And.intro ⟨_, _, _, _, ⟨(gA (gA (gA (gA (gA (gA (gA (gL XH5)))))))), (gA (gA (gL XH5))), And.intro (W12 rfl rfl rfl rfl) (W12 rfl rfl rfl rfl)⟩⟩ (trivial)) ?_
  refine Zc (Zd (Za ?_))
  refine Lo u25 (W12 rfl rfl rfl rfl) ?_
  refine Lo u25 (W12 rfl rfl rfl rfl) ?_
  refine Lo u25 (rfl) ?_
  refine Ze (Zc ?_)
  refine Zk _ rfl (fun hc1 => ?_) (fun hc1 => ?_)
  ·try simp only [qB, qN] at hc1
   refine ZH ?_
   refine K_blkO rfl ?_
   refine ⟨s + cnA (wsP p) c, [], (by simp; rfl), .inr ⟨Code.exit 0, rfl, ⟨rfl, ?_⟩⟩⟩
   exact ⟨hc1, by rw [hI, ← hs1]; exact hs2⟩
  ·try simp only [qB, qN] at hc1
   refine Zj (Zr ?_)
   refine ⟨s + cnA (wsP p) c, [], (by simp; rfl), .inl ⟨rfl, ?_⟩⟩
   rw [hs1, hI]
 ·intro s k hk hI J9
  try dsimp only at hI ⊢
  refine Zr (Zc (Zd ?_))
  try refine B_heap (List.append_assoc _ _ _) ?_
  refine Za ?_
  refine Lo u25 (W71 rfl rfl rfl rfl) ?_
  refine Lo u25 (Zb (.inr rfl) rfl) ?_
  refine Ze (Zc (Zi ?_))
  refine W10 (.inr rfl) (Zh rfl rfl) ?_
  exact W73
 ·rintro j pre c post s k hk hx (⟨rfl, ⟨hX1, hX2⟩⟩) J9
  try dsimp only
  skip
  refine J_exit ?_
  refine ZG (Zc (Zd ?_))
  try refine B_heap (List.append_assoc _ _ _) ?_
  refine Za ?_
  refine Lo u25 (W71 rfl rfl rfl rfl) ?_
  refine Lo u25 (Zb (.inr rfl) rfl) ?_
  refine Ze (Zc (Zi ?_))
  refine W10 (.inr rfl) (Zh rfl rfl) ?_
  exact W73
def pt : Pb := (2, [3#64, 3#64], [-1, -1], [], ())
theorem pt_L : PbL pt := ⟨by decide, by decide, by decide, by decide, fun r hr => by cases hr⟩
theorem pt_n : sumP pt = 4 := by decide +kernel
theorem pt_l : liA pt = [3#64, 3#64] := by decide +kernel
theorem twakes_spec {x : SW} (H : Zf) : F (psys x) 31 [] H fun v G => v = .bool true ∧ G = H := by
 refine Zq Tryd.func31 rfl u22 rfl ?_
 refine Zd (Za ?_)
 refine Lo u22 (Zg (VVal.bool false) (.inr rfl) rfl) ?_
 refine Ze (Zc (Zd (Za ?_)))
 refine Lo u22 (ZJ rfl rfl (by decide) rfl) ?_
 refine Lo u22 (ZJ rfl rfl (by decide) rfl) ?_
 refine Lo u22 (rfl) ?_
 refine Lo u22 (ZT rfl rfl) ?_
 refine Lo u22 (W13 rfl rfl rfl rfl rfl rfl rfl) ?_
 refine Ze (Zc (Zd (Za ?_)))
 refine L_gh (Gh.cellL (l := [iW 3#64, iW 3#64]) 2 1 0 rfl rfl (by decide) rfl rfl (Nat.le_refl _)) ?_
 refine L_gh (Gh.cellL (l := [iI (-1), iI (-1)]) 2 2 1 rfl rfl (by decide) rfl rfl (Nat.le_refl _)) ?_
 refine L_gh (Gh.cellNilL 2 3 (es' := 3) rfl rfl) ?_
 refine Lo u22 (W11 rfl rfl rfl rfl rfl) ?_
 refine Zv rfl rfl rfl (by exact tLive_spec _ pt pt_L) ?_
 rintro v _ ⟨hv, rfl⟩; rw [pt_l] at hv; subst hv
 refine Le u22 ?_
 refine Lo u22 (Zb (.inr rfl) rfl) ?_
 refine Ze (Zc (Zd (Za ?_)))
 refine Lo u22 (W11 rfl rfl rfl rfl rfl) ?_
 refine Zv rfl rfl rfl (by exact tPlans_spec _ pt pt_L 9#64) ?_
 rintro v _ ⟨hv, rfl⟩; obtain rfl : v = iW 4#64 := hv.trans (congrArg iW (by rw [pt_n]; decide))
 refine Le u22 ?_
 refine Lo u22 (v_is true rfl rfl) ?_
 refine Lo u22 (Zb (.inl rfl) rfl) ?_
 refine Lo u22 (Zb (.inl rfl) rfl) ?_
 refine Lo u22 (rfl) ?_
 refine Lo u22 (v_is true rfl rfl) ?_
 refine Lo u22 (ZP rfl rfl rfl) ?_
 refine Lo u22 (Zb (.inl rfl) rfl) ?_
 refine Lo u22 (Zb (.inl rfl) rfl) ?_
 refine Lo u22 (W18 rfl rfl rfl rfl rfl rfl rfl) ?_
 refine Lo u22 (W12 rfl rfl rfl rfl) ?_
 refine Lo u22 (v_is true rfl rfl) ?_
 refine Lo u22 (ZP rfl rfl rfl) ?_
 refine Lo u22 (Zb (.inr rfl) rfl) ?_
 refine Ze (Zc (Zi ?_))
 refine W10 (.inr rfl) (Zh rfl rfl) ?_
 exact ⟨rfl, rfl⟩
end Go.Proofs.YtenkjadobkjaeaaDoor.VT
