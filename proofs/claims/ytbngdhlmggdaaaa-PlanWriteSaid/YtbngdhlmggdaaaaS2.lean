/- rules: may it be one; walks -/
import Derived.Test.YtbngdhlmggdaaaaS1
import Derived.Test.YtbngdhlmggdaaaaV27
import Derived.Test.YtbngdhlmggdaaaaP19
set_option autoImplicit false
set_option linter.unusedVariables false
set_option linter.unusedSimpArgs false
set_option maxHeartbeats 4000000
set_option maxRecDepth 100000
namespace Go.Proofs.Ytbngdhlmggdaaaa.VT
open Go Go.V Go.RowKit

abbrev uS2n9 {a0 a1 a2 a3 a4 a5 a6 a7 a8 : VVal} : VEnv := a0 :: a1 :: a2 :: a3 :: a4 :: a5 :: a6 :: a7 :: a8 :: []
abbrev uS2n75 {a0 a1 a2 a3 a4 a5 a6 a7 a8 a9 a10 a11 a12 a13 a14 a15 a16 a17 a18 a19 a20 a21 a22 a23 a24 a25 a26 a27 a28 a29 a30 a31 a32 a33 a34 a35 a36 a37 a38 a39 a40 a41 a42 a43 a44 a45 a46 a47 a48 a49 a50 a51 a52 a53 a54 a55 a56 a57 a58 a59 a60 a61 a62 a63 a64 a65 a66 a67 a68 a69 a70 a71 a72 a73 a74 : VVal} : VEnv := a0 :: a1 :: a2 :: a3 :: a4 :: a5 :: a6 :: a7 :: a8 :: a9 :: a10 :: a11 :: a12 :: a13 :: a14 :: a15 :: a16 :: a17 :: a18 :: a19 :: a20 :: a21 :: a22 :: a23 :: a24 :: a25 :: a26 :: a27 :: a28 :: a29 :: a30 :: a31 :: a32 :: a33 :: a34 :: a35 :: a36 :: a37 :: a38 :: a39 :: a40 :: a41 :: a42 :: a43 :: a44 :: a45 :: a46 :: a47 :: a48 :: a49 :: a50 :: a51 :: a52 :: a53 :: a54 :: a55 :: a56 :: a57 :: a58 :: a59 :: a60 :: a61 :: a62 :: a63 :: a64 :: a65 :: a66 :: a67 :: a68 :: a69 :: a70 :: a71 :: a72 :: a73 :: a74 :: []

theorem wS2n0 {T : TypeId → Option VTy} {H : VHeap} {op : Op} {ρ : Operand → VVal} {t : TypeId} {a : Operand} {y : VTy} {p v : VVal} (ho : op = .load t a) (ha : ρ a = p) (hy : T t = some y) (hd : isAggDesc y.desc = false) (h : LdOk H p v := by first | exact .inl ⟨_, _, rfl, by first | rfl | assumption | exact fget (α := BitVec 64) 0 (by omega) | exact fget (α := Int) 0 (by omega) | exact fget0 (α := BitVec 64) 0 (by omega) | exact fget0 (α := Int) 0 (by omega) | exact fget (α := Bool) false (by omega) | exact fget0 (α := Bool) false (by omega) | (simp [*]; done)⟩ | exact .inr ⟨_, _, _, _, rfl, by first | exact get_app rfl rfl | exact get_out (by assumption) | exact getE0 rfl rfl | exact get_out (get_app rfl rfl) | exact get_app rfl (by assumption) | assumption | (simp only [List.append_assoc, List.singleton_append, List.cons_append, List.nil_append]; refine getE (i := 0) rfl ?_ rfl; simp; done) | (simp only [List.append_assoc, List.singleton_append, List.cons_append, List.nil_append]; refine getE (i := 1) rfl ?_ rfl; simp; done) | (simp only [List.append_assoc, List.singleton_append, List.cons_append, List.nil_append]; refine getE (i := 2) rfl ?_ rfl; simp; done) | (simp only [List.append_assoc, List.singleton_append, List.cons_append, List.nil_append]; refine getE (i := 3) rfl ?_ rfl; simp; done) | (simp [*]; done), by first | rfl | assumption | exact fget (α := BitVec 64) 0 (by omega) | exact fget (α := Int) 0 (by omega) | exact fget0 (α := BitVec 64) 0 (by omega) | exact fget0 (α := Int) 0 (by omega) | exact fget (α := Bool) false (by omega) | exact fget0 (α := Bool) false (by omega) | (simp [*]; done)⟩) : vop T ρ H op = some (v, H) := v_ld ho ha hy hd h
theorem wS2n1 {T : TypeId → Option VTy} {H : VHeap} {op : Op} {ρ : Operand → VVal} {t e : TypeId} {x i : Operand} {y z : VTy} {k : IntKind} {n : Int} {p v : VVal} {es : Nat} (ho : op = .indexAddr t x i) (hx : ρ x = p) (hi : ρ i = .int k n) (hy : T t = some y) (hd : y.desc = .slice e) (hz : T e = some z) (hs : z.size = es) (h : IxOk p es n v := by first | exact .inl ⟨_, _, _, rfl, by first | assumption | omega | (simp [*]; done) | (simp at *; omega), rfl⟩ | exact .inr ⟨_, _, _, _, _, rfl, by first | assumption | omega | (simp [*]; done) | (simp at *; omega), rfl⟩) : vop T ρ H op = some (v, H) := v_ix ho hx hi hy hd hz hs h
theorem wS2n2 {T : TypeId → Option VTy} {H : VHeap} {op : Op} {ρ : Operand → VVal} {t ty : TypeId} {x y : Operand} {n m : Int} (ho : op = .binOp .add t x y ty) (hx : ρ x = .int .i64 n) (hy : ρ y = .int .i64 m) (h : -9223372036854775808 ≤ n + m ∧ n + m < 9223372036854775808 := by first | assumption | omega | (simp [*]; done) | (simp at *; omega)) : vop T ρ H op = some (.int .i64 (n + m), H) := v_addI ho hx hy h

/-! encodings -/
abbrev rlB (r : Rul) : List VVal := [iI r.kind, iI r.k, fzI r.steps]
abbrev r0 : Rul := (0, 0, [], ())
def fzR (l : List Rul) : VVal := .fsl (l.flatMap rlB) l.length 3 false
abbrev pbB (p : Pb) : List VVal := [iI p.users, fzW p.who, fzI p.fixed, fzR p.rules]
abbrev pbV (p : Pb) : VVal := .agg (pbB p)
theorem rul_at {l : List Rul} {n : Int} (h : 0 ≤ n ∧ n < l.length) : cellsAt (l.flatMap rlB) (n.toNat * 3) 3 = some (rlB (l.getD n.toNat r0)) := fm_nat (f := rlB) (m := 3) (fun _ => rfl) l n.toNat r0 (by omega)
/-! rules -/
theorem rise_ok {n : Int} {l : List Int} {k : Nat} (hk : k < l.length) (h1 : rise n (l.take k) = true) (h2 : lst1 (-1) (l.take k) < l.getD k 0) (h3 : l.getD k 0 < n) : rise n (l.take (k + 1)) = true := by
  rw [take_at (d := 0) hk, rise, riseA_app, show riseA n (-1) (l.take k) = true from h1, Bool.true_and, decide_eq_true_eq]; omega
theorem rise_bad {n : Int} {l : List Int} {k : Nat} (hk : k < l.length) (h : l.getD k 0 ≤ lst1 (-1) (l.take k) ∨ n ≤ l.getD k 0) : rise n l = false := by
  have e : l = l.take (k + 1) ++ l.drop (k + 1) := (List.take_append_drop _ _).symm
  rw [e, rise, riseA_split, take_at hk, riseA_app]
  rw [show decide (lst1 (-1) (l.take k) < l.getD k 0 ∧ l.getD k 0 < n) = false from decide_eq_false (by omega), Bool.and_false, Bool.false_and]
theorem rise_last {l : List Int} {k : Nat} (hk : k < l.length) : lst1 (-1) (l.take (k + 1)) = l.getD k 0 := by rw [take_at (d := 0) hk, lst1_app]
abbrev rcE (n : Int) (r : Rul) : Int := if rck n r = true then 0 else 1
theorem rck_fit {n : Int} {r : Rul} (h : ¬ (0 ≤ n ∧ n ≤ 12)) : rck n r = false := by unfold rck; rw [decide_eq_false h, Bool.false_and]
theorem rck_rise {n : Int} {r : Rul} (h : rise n r.steps = false) : rck n r = false := by unfold rck; rw [h, Bool.false_and, Bool.and_false]
theorem rck_knd {n : Int} {r : Rul} (h : knd r = false) : rck n r = false := by unfold rck; rw [h, Bool.and_false, Bool.and_false]
theorem rck_ok {n : Int} {r : Rul} (h : 0 ≤ n ∧ n ≤ 12) (h2 : rise n r.steps = true) (h3 : knd r = true) : rck n r = true := by unfold rck; rw [decide_eq_true h, h2, h3]; rfl
theorem rcE_0 {n : Int} {r : Rul} (h : rck n r = true) : rcE n r = 0 := if_pos h
theorem rcE_1 {n : Int} {r : Rul} (h : rck n r = false) : rcE n r = 1 := if_neg (by rw [h]; decide)
theorem knd_a {r : Rul} (h : r.kind = 1 ∨ r.kind = 2) : knd r = decide (r.k = 0 ∧ 2 ≤ r.steps.length) := if_pos h
theorem knd_b {r : Rul} (h : r.kind = 3 ∨ r.kind = 4) : knd r = decide ((1 ≤ r.k ∧ r.k ≤ 999999999) ∧ 1 ≤ r.steps.length) := by unfold knd; rw [if_neg (by omega), if_pos h]
theorem knd_c {r : Rul} (h : r.kind = 5) : knd r = decide (1 ≤ r.k ∧ r.k ≤ r.steps.length) := by unfold knd; rw [if_neg (by omega), if_neg (by omega), if_pos h]
theorem knd_d {r : Rul} (h : ¬ (1 ≤ r.kind ∧ r.kind ≤ 5)) : knd r = false := by unfold knd; rw [if_neg (by omega), if_neg (by omega), if_neg (by omega)]
/-! a map of counts -/
def ds (L : List Int) : List Int := L.foldl (fun d x => if x ∈ d then d else d ++ [x]) []
theorem ds_app {L : List Int} {x : Int} : ds (L ++ [x]) = if x ∈ ds L then ds L else ds L ++ [x] := by unfold ds; rw [List.foldl_append]; rfl
theorem mem_ds {x : Int} (L : List Int) : x ∈ ds L ↔ x ∈ L := by
  refine rev_ind (P := fun L => ∀ x, x ∈ ds L ↔ x ∈ L) (fun x => Iff.rfl) (fun L y ih x => ?_) L x
  rw [ds_app]
  split
  · rename_i h
    rw [ih, List.mem_append, List.mem_singleton]
    constructor
    · exact .inl
    · rintro (h' | rfl)
      · exact h'
      · exact (ih _).1 h
  · rw [List.mem_append, List.mem_append, ih]
theorem nd_ds (L : List Int) : (ds L).Nodup := by
  refine rev_ind (P := fun L => (ds L).Nodup) List.nodup_nil (fun L y ih => ?_) L
  rw [ds_app]
  split
  · exact ih
  · rename_i h
    rw [List.nodup_append]
    exact ⟨ih, by simp, fun a ha b hb e => h (by rw [List.mem_singleton] at hb; subst hb; subst e; exact ha)⟩
theorem len_ds (L : List Int) : (ds L).length = uq L := by
  refine rev_ind (P := fun L => (ds L).length = uq L) rfl (fun L y ih => ?_) L
  rw [ds_app, uq_app, ← ih]
  by_cases h : y ∈ L
  · rw [if_pos ((mem_ds L).2 h), if_pos h]; rfl
  · rw [if_neg (fun e => h ((mem_ds L).1 e)), if_neg h, List.length_append]; rfl
/-- the entries: how often each stands there -/
def cnM (L : List Int) : List (VVal × VVal) := (ds L).map fun y => (iI y, iI (L.count y : Nat))
theorem cnM_len (L : List Int) : (cnM L).length = uq L := by unfold cnM; rw [List.length_map, len_ds]
theorem mget_map {x : Int} {f : Int → VVal} : ∀ d : List Int, mget (iI x) (d.map fun y => (iI y, f y)) = some (if x ∈ d then some (f x) else none)
  | [] => rfl
  | y :: d => by
    rw [List.map_cons]
    simp only [mget, keyEq, if_true]
    by_cases e : x = y
    · subst e; simp
    · rw [show (x == y) = false from by simp [e], mget_map d]
      simp [e]
theorem mput_map {x : Int} {v : VVal} {f : Int → VVal} : ∀ d : List Int, d.Nodup → mput (iI x) v (d.map fun y => (iI y, f y)) = (if x ∈ d then d else d ++ [x]).map fun y => (iI y, if y = x then v else f y)
  | [], _ => by simp [mput]
  | y :: d, h => by
    rw [List.nodup_cons] at h
    rw [List.map_cons]
    simp only [mput, keyEq, if_true]
    by_cases e : x = y
    · subst e
      have : (d.map fun y => (iI y, f y)) = d.map fun y => (iI y, if y = x then v else f y) := List.map_congr_left fun y hy => by rw [if_neg (fun e => h.1 (by rw [← e]; exact hy))]
      simp [this]
    · rw [show (x == y) = false from by simp [e], mput_map d h.2]
      have e' : ¬ y = x := fun k => e k.symm
      by_cases hd : x ∈ d <;> simp [hd, e, e']
theorem cn_get {L : List Int} {x : Int} : mget (iI x) (cnM L) = some (if x ∈ L then some (iI (L.count x : Nat)) else none) := by
  unfold cnM; rw [mget_map]
  by_cases h : x ∈ L
  · rw [if_pos h, if_pos ((mem_ds L).2 h)]
  · rw [if_neg h, if_neg (fun e => h ((mem_ds L).1 e))]
theorem cn_get' {L : List Int} {x : Int} : ((if x ∈ L then some (iI (L.count x : Nat)) else none).getD (iI 0)) = iI (L.count x : Nat) := by
  by_cases h : x ∈ L
  · rw [if_pos h]; rfl
  · rw [if_neg h, List.count_eq_zero.2 h]; rfl
theorem cn_put {L : List Int} {x : Int} : mput (iI x) (iI ((L.count x : Nat) + 1)) (cnM L) = cnM (L ++ [x]) := by
  unfold cnM
  rw [mput_map _ (nd_ds L), ds_app]
  apply List.map_congr_left
  intro y hy
  rw [List.count_append, List.count_singleton]
  by_cases e : y = x
  · subst e; simp
  · rw [if_neg e]
    have e' : ¬ x = y := fun k => e k.symm
    simp [e']
theorem v_lookI {T : TypeId → Option VTy} {ρ : Operand → VVal} {H : VHeap} {op : Op} {t kt et : TypeId} {x k : Operand} {y z kz : VTy} {b : Nat} {n : Int} {es : List (VVal × VVal)} {o : Option VVal} {u : VVal} (ho : op = .lookup t x k false) (hx : ρ x = .map (some b)) (hk : ρ k = iI n) (hy : T t = some y) (hd : y.desc = .map kt et) (hz : T et = some z) (hk1 : T kt = some kz) (hk2 : kz.desc = .int .i64) (ha : isAggDesc z.desc = false) (hz0 : z.zero = [iI 0])
    (hb : H[b]? = some (.map es)) (hg : mget (iI n) es = some o) (hu : o.getD (iI 0) = u) : vop T ρ H op = some (u, H) := by
  rw [ho]
  simp only [vop, vlookup, hx, hk, hy, hd, hz, hb, keyOk, hk1, hk2, hz0, ha]
  rw [if_pos ⟨by rfl, .inr rfl⟩]
  rw [hg, ← hu]
  cases o <;> rfl
theorem v_mupdI {T : TypeId → Option VTy} {ρ : Operand → VVal} {H H' : VHeap} {op : Op} {t kt et : TypeId} {x k w : Operand} {y kz : VTy} {b : Nat} {n : Int} {es : List (VVal × VVal)} {o : Option VVal} {v : VVal} (ho : op = .mapUpdate t x k w) (hx : ρ x = .map (some b)) (hk : ρ k = iI n) (hw : ρ w = v) (hy : T t = some y) (hd : y.desc = .map kt et) (hk1 : T kt = some kz) (hk2 : kz.desc = .int .i64)
    (hb : H[b]? = some (.map es)) (hg : mget (iI n) es = some o) (hH : H.set b (.map (mput (iI n) v es)) = H') : vop T ρ H op = some (.skip, H') := by
  rw [ho]
  simp only [vop, vmapUpdate, hx, hk, hw, hy, hd, hb, keyOk, hk1, hk2]
  rw [if_pos (by rfl), hg]
  simp [hH]

theorem rfits_spec {x : SW} (H : VHeap) (n : Int) : F (psys x) 65 [iI n] H fun v G => v = .bool (decide (0 ≤ n ∧ n ≤ 12)) ∧ G = H := by
 refine F_body Try.func65 rfl uS2n9 rfl ?_
 refine B_seq (B_region ?_)
 refine L_op (env' := uS2n9) rfl rfl (v_const (VVal.bool false) (.inr rfl) rfl) rfl ?_
 refine L_nil (K_seq (B_seq (B_region ?_)))
 refine L_op (env' := uS2n9) rfl rfl (v_move (.inl rfl) rfl) rfl ?_
 refine L_op (env' := uS2n9) rfl rfl (rfl) rfl ?_
 refine L_op (env' := uS2n9) rfl rfl (v_move (.inl rfl) rfl) rfl ?_
 refine L_split 5 (env1 := uS2n9) (env2 := uS2n9) rfl rfl rfl (fun hg1 => ?_) (fun hg1 => ?_)
 ·try simp only [qB] at hg1
  refine L_op (env' := uS2n9) rfl rfl (v_move (.inl rfl) rfl) rfl ?_
  refine L_op (env' := uS2n9) rfl rfl (rfl) rfl ?_
  refine L_op (env' := uS2n9) rfl rfl (v_pickT rfl rfl rfl) rfl ?_
  refine L_op (env' := uS2n9) rfl rfl (v_move (.inr rfl) rfl) rfl ?_
  refine L_nil (K_seq (B_ret ?_))
  refine E_app (.inr rfl) (vres_tmp rfl rfl) (by first | exact BaseOk.refl _ | exact BaseOk.set (BaseOk.refl _) _ rfl) (by first | rfl | simp [VVal.under, VVal.underL, *]) ?_
  exact ⟨by simp [*]; try omega, rfl⟩
 ·try simp only [qB] at hg1
  refine L_off (env' := uS2n9) rfl rfl ?_
  refine L_off (env' := uS2n9) rfl rfl ?_
  refine L_op (env' := uS2n9) rfl rfl (v_pickFC (VVal.bool false) rfl rfl rfl) rfl ?_
  refine L_op (env' := uS2n9) rfl rfl (v_move (.inr rfl) rfl) rfl ?_
  refine L_nil (K_seq (B_ret ?_))
  refine E_app (.inr rfl) (vres_tmp rfl rfl) (by first | exact BaseOk.refl _ | exact BaseOk.set (BaseOk.refl _) _ rfl) (by first | rfl | simp [VVal.under, VVal.underL, *]) ?_
  exact ⟨by simp [*]; try omega, rfl⟩

theorem rCheck_spec {x : SW} (H : VHeap) (n : Int) (r : Rul) (hl : r.steps.length ≤ 1000000) : F (psys x) 53 [iI n, .agg (rlB r)] H fun v G => v = iI (rcE n r) ∧ G = H := by
 refine F_body Try.func53 rfl uS2n75 rfl ?_
 refine B_seq (B_region ?_)
 refine L_op (env' := uS2n75) rfl rfl (v_boxT rfl rfl rfl) rfl ?_
 refine L_op (env' := uS2n75) rfl rfl (v_const (VVal.int .i64 0) (.inr rfl) rfl) rfl ?_
 refine L_nil (K_seq (B_seq (B_seq (B_region ?_))))
 refine L_op (env' := uS2n75) rfl rfl (v_move (.inl rfl) rfl) rfl ?_
 refine L_call rfl rfl rfl (by exact rfits_spec _ _) ?_
 rintro _ _ ⟨rfl, rfl⟩
 refine L_env (env' := uS2n75) rfl ?_
 refine L_op (env' := uS2n75) rfl rfl (rfl) rfl ?_
 refine L_nil (K_seq ?_)
 refine B_cond _ rfl (fun hc1 => ?_) (fun hc1 => ?_)
 ·try simp only [qB] at hc1
  refine B_seq (B_region ?_)
  refine L_op (env' := uS2n75) rfl rfl (v_const (VVal.int .i64 1) (.inr rfl) rfl) rfl ?_
  refine L_nil (K_seq (B_ret (K_seqR ?_)))
  refine E_app (.inr rfl) (vres_tmp rfl rfl) (by first | exact BaseOk.refl _ | exact BaseOk.set (BaseOk.refl _) _ rfl) (by first | rfl | simp [VVal.under, VVal.underL, *]) ?_
  first
    | (exfalso; omega)
    | exact ⟨by rw [rcE_1 (rck_fit (by first | assumption | omega))], rfl⟩
    | exact ⟨by rw [rcE_1 (rck_rise (rise_bad (k := k) (by omega) (by first | exact .inl (by assumption) | exact .inr (by assumption) | omega)))], rfl⟩
    | exact ⟨by rw [rcE_1 (rck_knd (by first | exact knd_d (by omega) | exact (knd_a (by omega)).trans (decide_eq_false (by omega)) | exact (knd_b (by omega)).trans (decide_eq_false (by omega)) | exact (knd_c (by omega)).trans (decide_eq_false (by omega))))], rfl⟩
    | exact ⟨by rw [rcE_0 (rck_ok (by omega) hrs (by first | exact (knd_a (by omega)).trans (decide_eq_true (by omega)) | exact (knd_b (by omega)).trans (decide_eq_true (by omega)) | exact (knd_c (by omega)).trans (decide_eq_true (by omega))))], rfl⟩
 ·try simp only [qB] at hc1
  refine B_skip (K_seq (B_seq (B_region ?_)))
  refine L_op (env' := uS2n75) rfl rfl (v_const (VVal.int .i64 (-1)) (.inr rfl) rfl) rfl ?_
  refine L_nil (K_seq (B_seq (B_seq (B_region ?_))))
  refine L_op (env' := uS2n75) rfl rfl (rfl) rfl ?_
  refine L_op (env' := uS2n75) rfl rfl (wS2n0 rfl rfl rfl rfl) rfl ?_
  refine L_op (env' := uS2n75) rfl rfl (rfl) rfl ?_
  refine L_op (env' := uS2n75) rfl rfl (v_const (VVal.int .i64 0) (.inl rfl) rfl) rfl ?_
  refine L_nil (K_seq (B_block ?_))
  refine B_clear (mk 75 37778931862957161652182) (env' := uS2n75) rfl ?_
  refine B_loopE (fun (k : Nat) => r.steps.length - k) (fun (k : Nat) => [(5, iI (lst1 (-1) (r.steps.take k))), (15, iI (k : Nat))]) (fun (k : Nat) G => (k ≤ r.steps.length ∧ rise n (r.steps.take k) = true) ∧ G = H ++ [.cells (rlB r) true]) 0 rfl ?_ ?_
  ·refine ⟨?_, rfl⟩
   exact ⟨Nat.zero_le _, rfl⟩
  rintro k _ ⟨⟨hk, hr⟩, rfl⟩
  refine B_env (env' := uS2n75) rfl ?_
  refine B_seq (B_region ?_)
  refine L_op (env' := uS2n75) rfl rfl (rfl) rfl ?_
  refine L_nil (K_seq (B_seq ?_))
  refine B_cond _ rfl (fun hc2 => ?_) (fun hc2 => ?_)
  ·try simp only [qB] at hc2
   refine B_skip (K_seq (B_seq (B_block (B_seq (B_region ?_)))))
   refine L_op (env' := uS2n75) rfl rfl (wS2n1 rfl rfl rfl rfl rfl rfl rfl) rfl ?_
   refine L_op (env' := uS2n75) rfl rfl (wS2n0 rfl rfl rfl rfl) rfl ?_
   refine L_op (env' := uS2n75) rfl rfl (v_move (.inr rfl) rfl) rfl ?_
   refine L_nil (K_seq (B_seq (B_seq (B_region ?_))))
   refine L_op (env' := uS2n75) rfl rfl (v_move (.inl rfl) rfl) rfl ?_
   refine L_op (env' := uS2n75) rfl rfl (v_move (.inl rfl) rfl) rfl ?_
   refine L_op (env' := uS2n75) rfl rfl (rfl) rfl ?_
   refine L_op (env' := uS2n75) rfl rfl (v_move (.inl rfl) rfl) rfl ?_
   refine L_split 22 (env1 := uS2n75) (env2 := uS2n75) rfl rfl rfl (fun hg3 => ?_) (fun hg3 => ?_)
   ·try simp only [qB] at hg3
    refine L_off (env' := uS2n75) rfl rfl ?_
    refine L_off (env' := uS2n75) rfl rfl ?_
    refine L_off (env' := uS2n75) rfl rfl ?_
    refine L_op (env' := uS2n75) rfl rfl (v_pickTC (VVal.bool true) rfl rfl rfl) rfl ?_
    refine L_nil (K_seq ?_)
    refine B_true rfl rfl ?_
    refine B_seq (B_region ?_)
    refine L_op (env' := uS2n75) rfl rfl (v_const (VVal.int .i64 1) (.inr rfl) rfl) rfl ?_
    refine L_nil (K_seq (B_ret (K_seqR (K_blkR (K_seqR (K_loopR (K_blkR (K_seqR ?_))))))))
    refine E_app (.inr rfl) (vres_tmp rfl rfl) (by first | exact BaseOk.refl _ | exact BaseOk.set (BaseOk.refl _) _ rfl) (by first | rfl | simp [VVal.under, VVal.underL, *]) ?_
    first
      | (exfalso; omega)
      | exact ⟨by rw [rcE_1 (rck_fit (by first | assumption | omega))], rfl⟩
      | exact ⟨by rw [rcE_1 (rck_rise (rise_bad (k := k) (by omega) (by first | exact .inl (by assumption) | exact .inr (by assumption) | omega)))], rfl⟩
      | exact ⟨by rw [rcE_1 (rck_knd (by first | exact knd_d (by omega) | exact (knd_a (by omega)).trans (decide_eq_false (by omega)) | exact (knd_b (by omega)).trans (decide_eq_false (by omega)) | exact (knd_c (by omega)).trans (decide_eq_false (by omega))))], rfl⟩
      | exact ⟨by rw [rcE_0 (rck_ok (by omega) hrs (by first | exact (knd_a (by omega)).trans (decide_eq_true (by omega)) | exact (knd_b (by omega)).trans (decide_eq_true (by omega)) | exact (knd_c (by omega)).trans (decide_eq_true (by omega))))], rfl⟩
   ·try simp only [qB] at hg3
    refine L_op (env' := uS2n75) rfl rfl (v_move (.inl rfl) rfl) rfl ?_
    refine L_op (env' := uS2n75) rfl rfl (v_move (.inl rfl) rfl) rfl ?_
    refine L_op (env' := uS2n75) rfl rfl (rfl) rfl ?_
    refine L_op (env' := uS2n75) rfl rfl (v_pickF rfl rfl rfl) rfl ?_
    refine L_nil (K_seq ?_)
    refine B_cond _ rfl (fun hc4 => ?_) (fun hc4 => ?_)
    ·try simp only [qB] at hc4
     refine B_seq (B_region ?_)
     refine L_op (env' := uS2n75) rfl rfl (v_const (VVal.int .i64 1) (.inr rfl) rfl) rfl ?_
     refine L_nil (K_seq (B_ret (K_seqR (K_blkR (K_seqR (K_loopR (K_blkR (K_seqR ?_))))))))
     refine E_app (.inr rfl) (vres_tmp rfl rfl) (by first | exact BaseOk.refl _ | exact BaseOk.set (BaseOk.refl _) _ rfl) (by first | rfl | simp [VVal.under, VVal.underL, *]) ?_
     first
       | (exfalso; omega)
       | exact ⟨by rw [rcE_1 (rck_fit (by first | assumption | omega))], rfl⟩
       | exact ⟨by rw [rcE_1 (rck_rise (rise_bad (k := k) (by omega) (by first | exact .inl (by assumption) | exact .inr (by assumption) | omega)))], rfl⟩
       | exact ⟨by rw [rcE_1 (rck_knd (by first | exact knd_d (by omega) | exact (knd_a (by omega)).trans (decide_eq_false (by omega)) | exact (knd_b (by omega)).trans (decide_eq_false (by omega)) | exact (knd_c (by omega)).trans (decide_eq_false (by omega))))], rfl⟩
       | exact ⟨by rw [rcE_0 (rck_ok (by omega) hrs (by first | exact (knd_a (by omega)).trans (decide_eq_true (by omega)) | exact (knd_b (by omega)).trans (decide_eq_true (by omega)) | exact (knd_c (by omega)).trans (decide_eq_true (by omega))))], rfl⟩
    ·try simp only [qB] at hc4
     refine B_skip (K_seq (B_region ?_))
     refine L_op (env' := uS2n75) rfl rfl (v_move (.inl rfl) rfl) rfl ?_
     refine L_op (env' := uS2n75) rfl rfl (v_move (.inr rfl) rfl) rfl ?_
     refine L_nil (K_blk (K_seq (B_region ?_)))
     refine L_op (env' := uS2n75) rfl rfl (wS2n2 rfl rfl rfl) rfl ?_
     refine L_op (env' := uS2n75) rfl rfl (v_move (.inl rfl) rfl) rfl ?_
     refine L_nil ?_
     refine K_loop (mk 75 37778931862957161652182) (env' := uS2n75) rfl ⟨k + 1, ?_, (by rw [rise_last (by omega)]; rfl), ?_⟩
     ·first | omega | (simp only []; omega)
     ·exact ⟨⟨by omega, rise_ok (by omega) hr hg3 hc4⟩, rfl⟩
  ·try simp only [qB] at hc2
   refine B_exit (K_seqX (K_loopX (K_blkX (K_seq (B_seq ?_)))))
   have hrs : rise n r.steps = true := by rw [List.take_of_length_le (by omega)] at hr; exact hr
   refine B_region ?_
   refine L_op (env' := uS2n75) rfl rfl (v_const (VVal.bool false) (.inr rfl) rfl) rfl ?_
   refine L_nil (K_seq (B_seq (B_seq (B_region ?_))))
   refine L_op (env' := uS2n75) rfl rfl (rfl) rfl ?_
   refine L_op (env' := uS2n75) rfl rfl (wS2n0 rfl rfl rfl rfl) rfl ?_
   refine L_nil (K_seq (B_block (B_seq (B_seq (B_region ?_)))))
   refine L_op (env' := uS2n75) rfl rfl (rfl) rfl ?_
   refine L_op (env' := uS2n75) rfl rfl (v_move (.inr rfl) rfl) rfl ?_
   refine L_nil (K_seq ?_)
   refine B_cond _ rfl (fun hc5 => ?_) (fun hc5 => ?_)
   ·try simp only [qB] at hc5
    refine B_skip (K_seq ?_)
    refine B_cond _ rfl (fun hc6 => ?_) (fun hc6 => ?_)
    ·try simp only [qB] at hc6
     refine B_region ?_
     refine L_op (env' := uS2n75) rfl rfl (rfl) rfl ?_
     refine L_op (env' := uS2n75) rfl rfl (wS2n0 rfl rfl rfl rfl) rfl ?_
     refine L_op (env' := uS2n75) rfl rfl (rfl) rfl ?_
     refine L_op (env' := uS2n75) rfl rfl (v_move (.inl rfl) rfl) rfl ?_
     refine L_split 37 (env1 := uS2n75) (env2 := uS2n75) rfl rfl rfl (fun hg7 => ?_) (fun hg7 => ?_)
     ·try simp only [qB] at hg7
      refine L_op (env' := uS2n75) rfl rfl (rfl) rfl ?_
      refine L_op (env' := uS2n75) rfl rfl (wS2n0 rfl rfl rfl rfl) rfl ?_
      refine L_op (env' := uS2n75) rfl rfl (rfl) rfl ?_
      refine L_op (env' := uS2n75) rfl rfl (rfl) rfl ?_
      refine L_op (env' := uS2n75) rfl rfl (v_pickT rfl rfl rfl) rfl ?_
      refine L_op (env' := uS2n75) rfl rfl (v_move (.inr rfl) rfl) rfl ?_
      refine L_nil (K_blk (K_seq (B_seq (B_seq (B_region ?_)))))
      refine L_op (env' := uS2n75) rfl rfl (v_move (.inl rfl) rfl) rfl ?_
      refine L_op (env' := uS2n75) rfl rfl (rfl) rfl ?_
      refine L_nil (K_seq ?_)
      refine B_cond _ rfl (fun hc8 => ?_) (fun hc8 => ?_)
      ·try simp only [qB] at hc8
       refine B_seq (B_region ?_)
       refine L_op (env' := uS2n75) rfl rfl (v_const (VVal.int .i64 1) (.inr rfl) rfl) rfl ?_
       refine L_nil (K_seq (B_ret (K_seqR ?_)))
       refine E_app (.inr rfl) (vres_tmp rfl rfl) (by first | exact BaseOk.refl _ | exact BaseOk.set (BaseOk.refl _) _ rfl) (by first | rfl | simp [VVal.under, VVal.underL, *]) ?_
       first
         | (exfalso; omega)
         | exact ⟨by rw [rcE_1 (rck_fit (by first | assumption | omega))], rfl⟩
         | exact ⟨by rw [rcE_1 (rck_rise (rise_bad (k := k) (by omega) (by first | exact .inl (by assumption) | exact .inr (by assumption) | omega)))], rfl⟩
         | exact ⟨by rw [rcE_1 (rck_knd (by first | exact knd_d (by omega) | exact (knd_a (by omega)).trans (decide_eq_false (by omega)) | exact (knd_b (by omega)).trans (decide_eq_false (by omega)) | exact (knd_c (by omega)).trans (decide_eq_false (by omega))))], rfl⟩
         | exact ⟨by rw [rcE_0 (rck_ok (by omega) hrs (by first | exact (knd_a (by omega)).trans (decide_eq_true (by omega)) | exact (knd_b (by omega)).trans (decide_eq_true (by omega)) | exact (knd_c (by omega)).trans (decide_eq_true (by omega))))], rfl⟩
      ·try simp only [qB] at hc8
       refine B_skip (K_seq (B_seq (B_region ?_)))
       refine L_op (env' := uS2n75) rfl rfl (v_const (VVal.int .i64 0) (.inr rfl) rfl) rfl ?_
       refine L_nil (K_seq (B_ret ?_))
       refine E_app (.inr rfl) (vres_tmp rfl rfl) (by first | exact BaseOk.refl _ | exact BaseOk.set (BaseOk.refl _) _ rfl) (by first | rfl | simp [VVal.under, VVal.underL, *]) ?_
       first
         | (exfalso; omega)
         | exact ⟨by rw [rcE_1 (rck_fit (by first | assumption | omega))], rfl⟩
         | exact ⟨by rw [rcE_1 (rck_rise (rise_bad (k := k) (by omega) (by first | exact .inl (by assumption) | exact .inr (by assumption) | omega)))], rfl⟩
         | exact ⟨by rw [rcE_1 (rck_knd (by first | exact knd_d (by omega) | exact (knd_a (by omega)).trans (decide_eq_false (by omega)) | exact (knd_b (by omega)).trans (decide_eq_false (by omega)) | exact (knd_c (by omega)).trans (decide_eq_false (by omega))))], rfl⟩
         | exact ⟨by rw [rcE_0 (rck_ok (by omega) hrs (by first | exact (knd_a (by omega)).trans (decide_eq_true (by omega)) | exact (knd_b (by omega)).trans (decide_eq_true (by omega)) | exact (knd_c (by omega)).trans (decide_eq_true (by omega))))], rfl⟩
     ·try simp only [qB] at hg7
      refine L_off (env' := uS2n75) rfl rfl ?_
      refine L_off (env' := uS2n75) rfl rfl ?_
      refine L_off (env' := uS2n75) rfl rfl ?_
      refine L_off (env' := uS2n75) rfl rfl ?_
      refine L_op (env' := uS2n75) rfl rfl (v_pickFC (VVal.bool false) rfl rfl rfl) rfl ?_
      refine L_op (env' := uS2n75) rfl rfl (v_move (.inr rfl) rfl) rfl ?_
      refine L_nil (K_blk (K_seq (B_seq (B_seq (B_region ?_)))))
      refine L_op (env' := uS2n75) rfl rfl (v_move (.inl rfl) rfl) rfl ?_
      refine L_op (env' := uS2n75) rfl rfl (rfl) rfl ?_
      refine L_nil (K_seq ?_)
      refine B_true rfl rfl ?_
      refine B_seq (B_region ?_)
      refine L_op (env' := uS2n75) rfl rfl (v_const (VVal.int .i64 1) (.inr rfl) rfl) rfl ?_
      refine L_nil (K_seq (B_ret (K_seqR ?_)))
      refine E_app (.inr rfl) (vres_tmp rfl rfl) (by first | exact BaseOk.refl _ | exact BaseOk.set (BaseOk.refl _) _ rfl) (by first | rfl | simp [VVal.under, VVal.underL, *]) ?_
      first
        | (exfalso; omega)
        | exact ⟨by rw [rcE_1 (rck_fit (by first | assumption | omega))], rfl⟩
        | exact ⟨by rw [rcE_1 (rck_rise (rise_bad (k := k) (by omega) (by first | exact .inl (by assumption) | exact .inr (by assumption) | omega)))], rfl⟩
        | exact ⟨by rw [rcE_1 (rck_knd (by first | exact knd_d (by omega) | exact (knd_a (by omega)).trans (decide_eq_false (by omega)) | exact (knd_b (by omega)).trans (decide_eq_false (by omega)) | exact (knd_c (by omega)).trans (decide_eq_false (by omega))))], rfl⟩
        | exact ⟨by rw [rcE_0 (rck_ok (by omega) hrs (by first | exact (knd_a (by omega)).trans (decide_eq_true (by omega)) | exact (knd_b (by omega)).trans (decide_eq_true (by omega)) | exact (knd_c (by omega)).trans (decide_eq_true (by omega))))], rfl⟩
    ·try simp only [qB] at hc6
     refine B_seq (B_seq (B_region ?_))
     refine L_op (env' := uS2n75) rfl rfl (rfl) rfl ?_
     refine L_op (env' := uS2n75) rfl rfl (v_move (.inr rfl) rfl) rfl ?_
     refine L_nil (K_seq ?_)
     refine B_cond _ rfl (fun hc9 => ?_) (fun hc9 => ?_)
     ·try simp only [qB] at hc9
      refine B_skip (K_seq ?_)
      refine B_cond _ rfl (fun hc10 => ?_) (fun hc10 => ?_)
      ·try simp only [qB] at hc10
       refine B_region ?_
       refine L_op (env' := uS2n75) rfl rfl (rfl) rfl ?_
       refine L_op (env' := uS2n75) rfl rfl (wS2n0 rfl rfl rfl rfl) rfl ?_
       refine L_op (env' := uS2n75) rfl rfl (rfl) rfl ?_
       refine L_op (env' := uS2n75) rfl rfl (v_move (.inl rfl) rfl) rfl ?_
       refine L_split 49 (env1 := uS2n75) (env2 := uS2n75) rfl rfl rfl (fun hg11 => ?_) (fun hg11 => ?_)
       ·try simp only [qB] at hg11
        refine L_op (env' := uS2n75) rfl rfl (rfl) rfl ?_
        refine L_op (env' := uS2n75) rfl rfl (wS2n0 rfl rfl rfl rfl) rfl ?_
        refine L_op (env' := uS2n75) rfl rfl (rfl) rfl ?_
        refine L_op (env' := uS2n75) rfl rfl (v_pickT rfl rfl rfl) rfl ?_
        refine L_op (env' := uS2n75) rfl rfl (v_move (.inl rfl) rfl) rfl ?_
        refine L_split 54 (env1 := uS2n75) (env2 := uS2n75) rfl rfl rfl (fun hg12 => ?_) (fun hg12 => ?_)
        ·try simp only [qB] at hg12
         refine L_op (env' := uS2n75) rfl rfl (rfl) rfl ?_
         refine L_op (env' := uS2n75) rfl rfl (wS2n0 rfl rfl rfl rfl) rfl ?_
         refine L_op (env' := uS2n75) rfl rfl (rfl) rfl ?_
         refine L_op (env' := uS2n75) rfl rfl (rfl) rfl ?_
         refine L_op (env' := uS2n75) rfl rfl (v_pickT rfl rfl rfl) rfl ?_
         refine L_op (env' := uS2n75) rfl rfl (v_move (.inr rfl) rfl) rfl ?_
         refine L_nil (K_blk (K_seq (B_seq (B_seq (B_region ?_)))))
         refine L_op (env' := uS2n75) rfl rfl (v_move (.inl rfl) rfl) rfl ?_
         refine L_op (env' := uS2n75) rfl rfl (rfl) rfl ?_
         refine L_nil (K_seq ?_)
         refine B_cond _ rfl (fun hc13 => ?_) (fun hc13 => ?_)
         ·try simp only [qB] at hc13
          refine B_seq (B_region ?_)
          refine L_op (env' := uS2n75) rfl rfl (v_const (VVal.int .i64 1) (.inr rfl) rfl) rfl ?_
          refine L_nil (K_seq (B_ret (K_seqR ?_)))
          refine E_app (.inr rfl) (vres_tmp rfl rfl) (by first | exact BaseOk.refl _ | exact BaseOk.set (BaseOk.refl _) _ rfl) (by first | rfl | simp [VVal.under, VVal.underL, *]) ?_
          first
            | (exfalso; omega)
            | exact ⟨by rw [rcE_1 (rck_fit (by first | assumption | omega))], rfl⟩
            | exact ⟨by rw [rcE_1 (rck_rise (rise_bad (k := k) (by omega) (by first | exact .inl (by assumption) | exact .inr (by assumption) | omega)))], rfl⟩
            | exact ⟨by rw [rcE_1 (rck_knd (by first | exact knd_d (by omega) | exact (knd_a (by omega)).trans (decide_eq_false (by omega)) | exact (knd_b (by omega)).trans (decide_eq_false (by omega)) | exact (knd_c (by omega)).trans (decide_eq_false (by omega))))], rfl⟩
            | exact ⟨by rw [rcE_0 (rck_ok (by omega) hrs (by first | exact (knd_a (by omega)).trans (decide_eq_true (by omega)) | exact (knd_b (by omega)).trans (decide_eq_true (by omega)) | exact (knd_c (by omega)).trans (decide_eq_true (by omega))))], rfl⟩
         ·try simp only [qB] at hc13
          refine B_skip (K_seq (B_seq (B_region ?_)))
          refine L_op (env' := uS2n75) rfl rfl (v_const (VVal.int .i64 0) (.inr rfl) rfl) rfl ?_
          refine L_nil (K_seq (B_ret ?_))
          refine E_app (.inr rfl) (vres_tmp rfl rfl) (by first | exact BaseOk.refl _ | exact BaseOk.set (BaseOk.refl _) _ rfl) (by first | rfl | simp [VVal.under, VVal.underL, *]) ?_
          first
            | (exfalso; omega)
            | exact ⟨by rw [rcE_1 (rck_fit (by first | assumption | omega))], rfl⟩
            | exact ⟨by rw [rcE_1 (rck_rise (rise_bad (k := k) (by omega) (by first | exact .inl (by assumption) | exact .inr (by assumption) | omega)))], rfl⟩
            | exact ⟨by rw [rcE_1 (rck_knd (by first | exact knd_d (by omega) | exact (knd_a (by omega)).trans (decide_eq_false (by omega)) | exact (knd_b (by omega)).trans (decide_eq_false (by omega)) | exact (knd_c (by omega)).trans (decide_eq_false (by omega))))], rfl⟩
            | exact ⟨by rw [rcE_0 (rck_ok (by omega) hrs (by first | exact (knd_a (by omega)).trans (decide_eq_true (by omega)) | exact (knd_b (by omega)).trans (decide_eq_true (by omega)) | exact (knd_c (by omega)).trans (decide_eq_true (by omega))))], rfl⟩
        ·try simp only [qB] at hg12
         refine L_off (env' := uS2n75) rfl rfl ?_
         refine L_off (env' := uS2n75) rfl rfl ?_
         refine L_off (env' := uS2n75) rfl rfl ?_
         refine L_off (env' := uS2n75) rfl rfl ?_
         refine L_op (env' := uS2n75) rfl rfl (v_pickFC (VVal.bool false) rfl rfl rfl) rfl ?_
         refine L_op (env' := uS2n75) rfl rfl (v_move (.inr rfl) rfl) rfl ?_
         refine L_nil (K_blk (K_seq (B_seq (B_seq (B_region ?_)))))
         refine L_op (env' := uS2n75) rfl rfl (v_move (.inl rfl) rfl) rfl ?_
         refine L_op (env' := uS2n75) rfl rfl (rfl) rfl ?_
         refine L_nil (K_seq ?_)
         refine B_true rfl rfl ?_
         refine B_seq (B_region ?_)
         refine L_op (env' := uS2n75) rfl rfl (v_const (VVal.int .i64 1) (.inr rfl) rfl) rfl ?_
         refine L_nil (K_seq (B_ret (K_seqR ?_)))
         refine E_app (.inr rfl) (vres_tmp rfl rfl) (by first | exact BaseOk.refl _ | exact BaseOk.set (BaseOk.refl _) _ rfl) (by first | rfl | simp [VVal.under, VVal.underL, *]) ?_
         first
           | (exfalso; omega)
           | exact ⟨by rw [rcE_1 (rck_fit (by first | assumption | omega))], rfl⟩
           | exact ⟨by rw [rcE_1 (rck_rise (rise_bad (k := k) (by omega) (by first | exact .inl (by assumption) | exact .inr (by assumption) | omega)))], rfl⟩
           | exact ⟨by rw [rcE_1 (rck_knd (by first | exact knd_d (by omega) | exact (knd_a (by omega)).trans (decide_eq_false (by omega)) | exact (knd_b (by omega)).trans (decide_eq_false (by omega)) | exact (knd_c (by omega)).trans (decide_eq_false (by omega))))], rfl⟩
           | exact ⟨by rw [rcE_0 (rck_ok (by omega) hrs (by first | exact (knd_a (by omega)).trans (decide_eq_true (by omega)) | exact (knd_b (by omega)).trans (decide_eq_true (by omega)) | exact (knd_c (by omega)).trans (decide_eq_true (by omega))))], rfl⟩
       ·try simp only [qB] at hg11
        refine L_off (env' := uS2n75) rfl rfl ?_
        refine L_off (env' := uS2n75) rfl rfl ?_
        refine L_off (env' := uS2n75) rfl rfl ?_
        refine L_op (env' := uS2n75) rfl rfl (v_pickFC (VVal.bool false) rfl rfl rfl) rfl ?_
        refine L_op (env' := uS2n75) rfl rfl (v_move (.inl rfl) rfl) rfl ?_
        refine L_off (env' := uS2n75) rfl rfl ?_
        refine L_off (env' := uS2n75) rfl rfl ?_
        refine L_off (env' := uS2n75) rfl rfl ?_
        refine L_off (env' := uS2n75) rfl rfl ?_
        refine L_op (env' := uS2n75) rfl rfl (v_pickFC (VVal.bool false) rfl rfl rfl) rfl ?_
        refine L_op (env' := uS2n75) rfl rfl (v_move (.inr rfl) rfl) rfl ?_
        refine L_nil (K_blk (K_seq (B_seq (B_seq (B_region ?_)))))
        refine L_op (env' := uS2n75) rfl rfl (v_move (.inl rfl) rfl) rfl ?_
        refine L_op (env' := uS2n75) rfl rfl (rfl) rfl ?_
        refine L_nil (K_seq ?_)
        refine B_true rfl rfl ?_
        refine B_seq (B_region ?_)
        refine L_op (env' := uS2n75) rfl rfl (v_const (VVal.int .i64 1) (.inr rfl) rfl) rfl ?_
        refine L_nil (K_seq (B_ret (K_seqR ?_)))
        refine E_app (.inr rfl) (vres_tmp rfl rfl) (by first | exact BaseOk.refl _ | exact BaseOk.set (BaseOk.refl _) _ rfl) (by first | rfl | simp [VVal.under, VVal.underL, *]) ?_
        first
          | (exfalso; omega)
          | exact ⟨by rw [rcE_1 (rck_fit (by first | assumption | omega))], rfl⟩
          | exact ⟨by rw [rcE_1 (rck_rise (rise_bad (k := k) (by omega) (by first | exact .inl (by assumption) | exact .inr (by assumption) | omega)))], rfl⟩
          | exact ⟨by rw [rcE_1 (rck_knd (by first | exact knd_d (by omega) | exact (knd_a (by omega)).trans (decide_eq_false (by omega)) | exact (knd_b (by omega)).trans (decide_eq_false (by omega)) | exact (knd_c (by omega)).trans (decide_eq_false (by omega))))], rfl⟩
          | exact ⟨by rw [rcE_0 (rck_ok (by omega) hrs (by first | exact (knd_a (by omega)).trans (decide_eq_true (by omega)) | exact (knd_b (by omega)).trans (decide_eq_true (by omega)) | exact (knd_c (by omega)).trans (decide_eq_true (by omega))))], rfl⟩
      ·try simp only [qB] at hc10
       refine B_seq (B_region ?_)
       refine L_op (env' := uS2n75) rfl rfl (rfl) rfl ?_
       refine L_op (env' := uS2n75) rfl rfl (v_move (.inr rfl) rfl) rfl ?_
       refine L_nil (K_seq ?_)
       refine B_cond _ rfl (fun hc14 => ?_) (fun hc14 => ?_)
       ·try simp only [qB] at hc14
        refine B_region ?_
        refine L_op (env' := uS2n75) rfl rfl (rfl) rfl ?_
        refine L_op (env' := uS2n75) rfl rfl (wS2n0 rfl rfl rfl rfl) rfl ?_
        refine L_op (env' := uS2n75) rfl rfl (rfl) rfl ?_
        refine L_op (env' := uS2n75) rfl rfl (v_move (.inl rfl) rfl) rfl ?_
        refine L_split 65 (env1 := uS2n75) (env2 := uS2n75) rfl rfl rfl (fun hg15 => ?_) (fun hg15 => ?_)
        ·try simp only [qB] at hg15
         refine L_op (env' := uS2n75) rfl rfl (rfl) rfl ?_
         refine L_op (env' := uS2n75) rfl rfl (wS2n0 rfl rfl rfl rfl) rfl ?_
         refine L_op (env' := uS2n75) rfl rfl (rfl) rfl ?_
         refine L_op (env' := uS2n75) rfl rfl (wS2n0 rfl rfl rfl rfl) rfl ?_
         refine L_op (env' := uS2n75) rfl rfl (rfl) rfl ?_
         refine L_op (env' := uS2n75) rfl rfl (rfl) rfl ?_
         refine L_op (env' := uS2n75) rfl rfl (v_pickT rfl rfl rfl) rfl ?_
         refine L_op (env' := uS2n75) rfl rfl (v_move (.inr rfl) rfl) rfl ?_
         refine L_nil (K_blk (K_seq (B_seq (B_seq (B_region ?_)))))
         refine L_op (env' := uS2n75) rfl rfl (v_move (.inl rfl) rfl) rfl ?_
         refine L_op (env' := uS2n75) rfl rfl (rfl) rfl ?_
         refine L_nil (K_seq ?_)
         refine B_cond _ rfl (fun hc16 => ?_) (fun hc16 => ?_)
         ·try simp only [qB] at hc16
          refine B_seq (B_region ?_)
          refine L_op (env' := uS2n75) rfl rfl (v_const (VVal.int .i64 1) (.inr rfl) rfl) rfl ?_
          refine L_nil (K_seq (B_ret (K_seqR ?_)))
          refine E_app (.inr rfl) (vres_tmp rfl rfl) (by first | exact BaseOk.refl _ | exact BaseOk.set (BaseOk.refl _) _ rfl) (by first | rfl | simp [VVal.under, VVal.underL, *]) ?_
          first
            | (exfalso; omega)
            | exact ⟨by rw [rcE_1 (rck_fit (by first | assumption | omega))], rfl⟩
            | exact ⟨by rw [rcE_1 (rck_rise (rise_bad (k := k) (by omega) (by first | exact .inl (by assumption) | exact .inr (by assumption) | omega)))], rfl⟩
            | exact ⟨by rw [rcE_1 (rck_knd (by first | exact knd_d (by omega) | exact (knd_a (by omega)).trans (decide_eq_false (by omega)) | exact (knd_b (by omega)).trans (decide_eq_false (by omega)) | exact (knd_c (by omega)).trans (decide_eq_false (by omega))))], rfl⟩
            | exact ⟨by rw [rcE_0 (rck_ok (by omega) hrs (by first | exact (knd_a (by omega)).trans (decide_eq_true (by omega)) | exact (knd_b (by omega)).trans (decide_eq_true (by omega)) | exact (knd_c (by omega)).trans (decide_eq_true (by omega))))], rfl⟩
         ·try simp only [qB] at hc16
          refine B_skip (K_seq (B_seq (B_region ?_)))
          refine L_op (env' := uS2n75) rfl rfl (v_const (VVal.int .i64 0) (.inr rfl) rfl) rfl ?_
          refine L_nil (K_seq (B_ret ?_))
          refine E_app (.inr rfl) (vres_tmp rfl rfl) (by first | exact BaseOk.refl _ | exact BaseOk.set (BaseOk.refl _) _ rfl) (by first | rfl | simp [VVal.under, VVal.underL, *]) ?_
          first
            | (exfalso; omega)
            | exact ⟨by rw [rcE_1 (rck_fit (by first | assumption | omega))], rfl⟩
            | exact ⟨by rw [rcE_1 (rck_rise (rise_bad (k := k) (by omega) (by first | exact .inl (by assumption) | exact .inr (by assumption) | omega)))], rfl⟩
            | exact ⟨by rw [rcE_1 (rck_knd (by first | exact knd_d (by omega) | exact (knd_a (by omega)).trans (decide_eq_false (by omega)) | exact (knd_b (by omega)).trans (decide_eq_false (by omega)) | exact (knd_c (by omega)).trans (decide_eq_false (by omega))))], rfl⟩
            | exact ⟨by rw [rcE_0 (rck_ok (by omega) hrs (by first | exact (knd_a (by omega)).trans (decide_eq_true (by omega)) | exact (knd_b (by omega)).trans (decide_eq_true (by omega)) | exact (knd_c (by omega)).trans (decide_eq_true (by omega))))], rfl⟩
        ·try simp only [qB] at hg15
         refine L_off (env' := uS2n75) rfl rfl ?_
         refine L_off (env' := uS2n75) rfl rfl ?_
         refine L_off (env' := uS2n75) rfl rfl ?_
         refine L_off (env' := uS2n75) rfl rfl ?_
         refine L_off (env' := uS2n75) rfl rfl ?_
         refine L_off (env' := uS2n75) rfl rfl ?_
         refine L_op (env' := uS2n75) rfl rfl (v_pickFC (VVal.bool false) rfl rfl rfl) rfl ?_
         refine L_op (env' := uS2n75) rfl rfl (v_move (.inr rfl) rfl) rfl ?_
         refine L_nil (K_blk (K_seq (B_seq (B_seq (B_region ?_)))))
         refine L_op (env' := uS2n75) rfl rfl (v_move (.inl rfl) rfl) rfl ?_
         refine L_op (env' := uS2n75) rfl rfl (rfl) rfl ?_
         refine L_nil (K_seq ?_)
         refine B_true rfl rfl ?_
         refine B_seq (B_region ?_)
         refine L_op (env' := uS2n75) rfl rfl (v_const (VVal.int .i64 1) (.inr rfl) rfl) rfl ?_
         refine L_nil (K_seq (B_ret (K_seqR ?_)))
         refine E_app (.inr rfl) (vres_tmp rfl rfl) (by first | exact BaseOk.refl _ | exact BaseOk.set (BaseOk.refl _) _ rfl) (by first | rfl | simp [VVal.under, VVal.underL, *]) ?_
         first
           | (exfalso; omega)
           | exact ⟨by rw [rcE_1 (rck_fit (by first | assumption | omega))], rfl⟩
           | exact ⟨by rw [rcE_1 (rck_rise (rise_bad (k := k) (by omega) (by first | exact .inl (by assumption) | exact .inr (by assumption) | omega)))], rfl⟩
           | exact ⟨by rw [rcE_1 (rck_knd (by first | exact knd_d (by omega) | exact (knd_a (by omega)).trans (decide_eq_false (by omega)) | exact (knd_b (by omega)).trans (decide_eq_false (by omega)) | exact (knd_c (by omega)).trans (decide_eq_false (by omega))))], rfl⟩
           | exact ⟨by rw [rcE_0 (rck_ok (by omega) hrs (by first | exact (knd_a (by omega)).trans (decide_eq_true (by omega)) | exact (knd_b (by omega)).trans (decide_eq_true (by omega)) | exact (knd_c (by omega)).trans (decide_eq_true (by omega))))], rfl⟩
       ·try simp only [qB] at hc14
        refine B_skip (K_blk (K_seq (B_seq (B_seq (B_region ?_)))))
        refine L_op (env' := uS2n75) rfl rfl (v_move (.inl rfl) rfl) rfl ?_
        refine L_op (env' := uS2n75) rfl rfl (rfl) rfl ?_
        refine L_nil (K_seq ?_)
        refine B_true rfl rfl ?_
        refine B_seq (B_region ?_)
        refine L_op (env' := uS2n75) rfl rfl (v_const (VVal.int .i64 1) (.inr rfl) rfl) rfl ?_
        refine L_nil (K_seq (B_ret (K_seqR ?_)))
        refine E_app (.inr rfl) (vres_tmp rfl rfl) (by first | exact BaseOk.refl _ | exact BaseOk.set (BaseOk.refl _) _ rfl) (by first | rfl | simp [VVal.under, VVal.underL, *]) ?_
        first
          | (exfalso; omega)
          | exact ⟨by rw [rcE_1 (rck_fit (by first | assumption | omega))], rfl⟩
          | exact ⟨by rw [rcE_1 (rck_rise (rise_bad (k := k) (by omega) (by first | exact .inl (by assumption) | exact .inr (by assumption) | omega)))], rfl⟩
          | exact ⟨by rw [rcE_1 (rck_knd (by first | exact knd_d (by omega) | exact (knd_a (by omega)).trans (decide_eq_false (by omega)) | exact (knd_b (by omega)).trans (decide_eq_false (by omega)) | exact (knd_c (by omega)).trans (decide_eq_false (by omega))))], rfl⟩
          | exact ⟨by rw [rcE_0 (rck_ok (by omega) hrs (by first | exact (knd_a (by omega)).trans (decide_eq_true (by omega)) | exact (knd_b (by omega)).trans (decide_eq_true (by omega)) | exact (knd_c (by omega)).trans (decide_eq_true (by omega))))], rfl⟩
     ·try simp only [qB] at hc9
      refine B_region ?_
      refine L_op (env' := uS2n75) rfl rfl (rfl) rfl ?_
      refine L_op (env' := uS2n75) rfl rfl (v_move (.inr rfl) rfl) rfl ?_
      refine L_nil (K_seq ?_)
      refine B_cond _ rfl (fun hc17 => ?_) (fun hc17 => ?_)
      ·try simp only [qB] at hc17
       refine B_region ?_
       refine L_op (env' := uS2n75) rfl rfl (rfl) rfl ?_
       refine L_op (env' := uS2n75) rfl rfl (wS2n0 rfl rfl rfl rfl) rfl ?_
       refine L_op (env' := uS2n75) rfl rfl (rfl) rfl ?_
       refine L_op (env' := uS2n75) rfl rfl (v_move (.inl rfl) rfl) rfl ?_
       refine L_split 49 (env1 := uS2n75) (env2 := uS2n75) rfl rfl rfl (fun hg18 => ?_) (fun hg18 => ?_)
       ·try simp only [qB] at hg18
        refine L_op (env' := uS2n75) rfl rfl (rfl) rfl ?_
        refine L_op (env' := uS2n75) rfl rfl (wS2n0 rfl rfl rfl rfl) rfl ?_
        refine L_op (env' := uS2n75) rfl rfl (rfl) rfl ?_
        refine L_op (env' := uS2n75) rfl rfl (v_pickT rfl rfl rfl) rfl ?_
        refine L_op (env' := uS2n75) rfl rfl (v_move (.inl rfl) rfl) rfl ?_
        refine L_split 54 (env1 := uS2n75) (env2 := uS2n75) rfl rfl rfl (fun hg19 => ?_) (fun hg19 => ?_)
        ·try simp only [qB] at hg19
         refine L_op (env' := uS2n75) rfl rfl (rfl) rfl ?_
         refine L_op (env' := uS2n75) rfl rfl (wS2n0 rfl rfl rfl rfl) rfl ?_
         refine L_op (env' := uS2n75) rfl rfl (rfl) rfl ?_
         refine L_op (env' := uS2n75) rfl rfl (rfl) rfl ?_
         refine L_op (env' := uS2n75) rfl rfl (v_pickT rfl rfl rfl) rfl ?_
         refine L_op (env' := uS2n75) rfl rfl (v_move (.inr rfl) rfl) rfl ?_
         refine L_nil (K_blk (K_seq (B_seq (B_seq (B_region ?_)))))
         refine L_op (env' := uS2n75) rfl rfl (v_move (.inl rfl) rfl) rfl ?_
         refine L_op (env' := uS2n75) rfl rfl (rfl) rfl ?_
         refine L_nil (K_seq ?_)
         refine B_cond _ rfl (fun hc20 => ?_) (fun hc20 => ?_)
         ·try simp only [qB] at hc20
          refine B_seq (B_region ?_)
          refine L_op (env' := uS2n75) rfl rfl (v_const (VVal.int .i64 1) (.inr rfl) rfl) rfl ?_
          refine L_nil (K_seq (B_ret (K_seqR ?_)))
          refine E_app (.inr rfl) (vres_tmp rfl rfl) (by first | exact BaseOk.refl _ | exact BaseOk.set (BaseOk.refl _) _ rfl) (by first | rfl | simp [VVal.under, VVal.underL, *]) ?_
          first
            | (exfalso; omega)
            | exact ⟨by rw [rcE_1 (rck_fit (by first | assumption | omega))], rfl⟩
            | exact ⟨by rw [rcE_1 (rck_rise (rise_bad (k := k) (by omega) (by first | exact .inl (by assumption) | exact .inr (by assumption) | omega)))], rfl⟩
            | exact ⟨by rw [rcE_1 (rck_knd (by first | exact knd_d (by omega) | exact (knd_a (by omega)).trans (decide_eq_false (by omega)) | exact (knd_b (by omega)).trans (decide_eq_false (by omega)) | exact (knd_c (by omega)).trans (decide_eq_false (by omega))))], rfl⟩
            | exact ⟨by rw [rcE_0 (rck_ok (by omega) hrs (by first | exact (knd_a (by omega)).trans (decide_eq_true (by omega)) | exact (knd_b (by omega)).trans (decide_eq_true (by omega)) | exact (knd_c (by omega)).trans (decide_eq_true (by omega))))], rfl⟩
         ·try simp only [qB] at hc20
          refine B_skip (K_seq (B_seq (B_region ?_)))
          refine L_op (env' := uS2n75) rfl rfl (v_const (VVal.int .i64 0) (.inr rfl) rfl) rfl ?_
          refine L_nil (K_seq (B_ret ?_))
          refine E_app (.inr rfl) (vres_tmp rfl rfl) (by first | exact BaseOk.refl _ | exact BaseOk.set (BaseOk.refl _) _ rfl) (by first | rfl | simp [VVal.under, VVal.underL, *]) ?_
          first
            | (exfalso; omega)
            | exact ⟨by rw [rcE_1 (rck_fit (by first | assumption | omega))], rfl⟩
            | exact ⟨by rw [rcE_1 (rck_rise (rise_bad (k := k) (by omega) (by first | exact .inl (by assumption) | exact .inr (by assumption) | omega)))], rfl⟩
            | exact ⟨by rw [rcE_1 (rck_knd (by first | exact knd_d (by omega) | exact (knd_a (by omega)).trans (decide_eq_false (by omega)) | exact (knd_b (by omega)).trans (decide_eq_false (by omega)) | exact (knd_c (by omega)).trans (decide_eq_false (by omega))))], rfl⟩
            | exact ⟨by rw [rcE_0 (rck_ok (by omega) hrs (by first | exact (knd_a (by omega)).trans (decide_eq_true (by omega)) | exact (knd_b (by omega)).trans (decide_eq_true (by omega)) | exact (knd_c (by omega)).trans (decide_eq_true (by omega))))], rfl⟩
        ·try simp only [qB] at hg19
         refine L_off (env' := uS2n75) rfl rfl ?_
         refine L_off (env' := uS2n75) rfl rfl ?_
         refine L_off (env' := uS2n75) rfl rfl ?_
         refine L_off (env' := uS2n75) rfl rfl ?_
         refine L_op (env' := uS2n75) rfl rfl (v_pickFC (VVal.bool false) rfl rfl rfl) rfl ?_
         refine L_op (env' := uS2n75) rfl rfl (v_move (.inr rfl) rfl) rfl ?_
         refine L_nil (K_blk (K_seq (B_seq (B_seq (B_region ?_)))))
         refine L_op (env' := uS2n75) rfl rfl (v_move (.inl rfl) rfl) rfl ?_
         refine L_op (env' := uS2n75) rfl rfl (rfl) rfl ?_
         refine L_nil (K_seq ?_)
         refine B_true rfl rfl ?_
         refine B_seq (B_region ?_)
         refine L_op (env' := uS2n75) rfl rfl (v_const (VVal.int .i64 1) (.inr rfl) rfl) rfl ?_
         refine L_nil (K_seq (B_ret (K_seqR ?_)))
         refine E_app (.inr rfl) (vres_tmp rfl rfl) (by first | exact BaseOk.refl _ | exact BaseOk.set (BaseOk.refl _) _ rfl) (by first | rfl | simp [VVal.under, VVal.underL, *]) ?_
         first
           | (exfalso; omega)
           | exact ⟨by rw [rcE_1 (rck_fit (by first | assumption | omega))], rfl⟩
           | exact ⟨by rw [rcE_1 (rck_rise (rise_bad (k := k) (by omega) (by first | exact .inl (by assumption) | exact .inr (by assumption) | omega)))], rfl⟩
           | exact ⟨by rw [rcE_1 (rck_knd (by first | exact knd_d (by omega) | exact (knd_a (by omega)).trans (decide_eq_false (by omega)) | exact (knd_b (by omega)).trans (decide_eq_false (by omega)) | exact (knd_c (by omega)).trans (decide_eq_false (by omega))))], rfl⟩
           | exact ⟨by rw [rcE_0 (rck_ok (by omega) hrs (by first | exact (knd_a (by omega)).trans (decide_eq_true (by omega)) | exact (knd_b (by omega)).trans (decide_eq_true (by omega)) | exact (knd_c (by omega)).trans (decide_eq_true (by omega))))], rfl⟩
       ·try simp only [qB] at hg18
        refine L_off (env' := uS2n75) rfl rfl ?_
        refine L_off (env' := uS2n75) rfl rfl ?_
        refine L_off (env' := uS2n75) rfl rfl ?_
        refine L_op (env' := uS2n75) rfl rfl (v_pickFC (VVal.bool false) rfl rfl rfl) rfl ?_
        refine L_op (env' := uS2n75) rfl rfl (v_move (.inl rfl) rfl) rfl ?_
        refine L_off (env' := uS2n75) rfl rfl ?_
        refine L_off (env' := uS2n75) rfl rfl ?_
        refine L_off (env' := uS2n75) rfl rfl ?_
        refine L_off (env' := uS2n75) rfl rfl ?_
        refine L_op (env' := uS2n75) rfl rfl (v_pickFC (VVal.bool false) rfl rfl rfl) rfl ?_
        refine L_op (env' := uS2n75) rfl rfl (v_move (.inr rfl) rfl) rfl ?_
        refine L_nil (K_blk (K_seq (B_seq (B_seq (B_region ?_)))))
        refine L_op (env' := uS2n75) rfl rfl (v_move (.inl rfl) rfl) rfl ?_
        refine L_op (env' := uS2n75) rfl rfl (rfl) rfl ?_
        refine L_nil (K_seq ?_)
        refine B_true rfl rfl ?_
        refine B_seq (B_region ?_)
        refine L_op (env' := uS2n75) rfl rfl (v_const (VVal.int .i64 1) (.inr rfl) rfl) rfl ?_
        refine L_nil (K_seq (B_ret (K_seqR ?_)))
        refine E_app (.inr rfl) (vres_tmp rfl rfl) (by first | exact BaseOk.refl _ | exact BaseOk.set (BaseOk.refl _) _ rfl) (by first | rfl | simp [VVal.under, VVal.underL, *]) ?_
        first
          | (exfalso; omega)
          | exact ⟨by rw [rcE_1 (rck_fit (by first | assumption | omega))], rfl⟩
          | exact ⟨by rw [rcE_1 (rck_rise (rise_bad (k := k) (by omega) (by first | exact .inl (by assumption) | exact .inr (by assumption) | omega)))], rfl⟩
          | exact ⟨by rw [rcE_1 (rck_knd (by first | exact knd_d (by omega) | exact (knd_a (by omega)).trans (decide_eq_false (by omega)) | exact (knd_b (by omega)).trans (decide_eq_false (by omega)) | exact (knd_c (by omega)).trans (decide_eq_false (by omega))))], rfl⟩
          | exact ⟨by rw [rcE_0 (rck_ok (by omega) hrs (by first | exact (knd_a (by omega)).trans (decide_eq_true (by omega)) | exact (knd_b (by omega)).trans (decide_eq_true (by omega)) | exact (knd_c (by omega)).trans (decide_eq_true (by omega))))], rfl⟩
      ·try simp only [qB] at hc17
       refine B_seq (B_region ?_)
       refine L_op (env' := uS2n75) rfl rfl (rfl) rfl ?_
       refine L_op (env' := uS2n75) rfl rfl (v_move (.inr rfl) rfl) rfl ?_
       refine L_nil (K_seq ?_)
       refine B_cond _ rfl (fun hc21 => ?_) (fun hc21 => ?_)
       ·try simp only [qB] at hc21
        refine B_region ?_
        refine L_op (env' := uS2n75) rfl rfl (rfl) rfl ?_
        refine L_op (env' := uS2n75) rfl rfl (wS2n0 rfl rfl rfl rfl) rfl ?_
        refine L_op (env' := uS2n75) rfl rfl (rfl) rfl ?_
        refine L_op (env' := uS2n75) rfl rfl (v_move (.inl rfl) rfl) rfl ?_
        refine L_split 65 (env1 := uS2n75) (env2 := uS2n75) rfl rfl rfl (fun hg22 => ?_) (fun hg22 => ?_)
        ·try simp only [qB] at hg22
         refine L_op (env' := uS2n75) rfl rfl (rfl) rfl ?_
         refine L_op (env' := uS2n75) rfl rfl (wS2n0 rfl rfl rfl rfl) rfl ?_
         refine L_op (env' := uS2n75) rfl rfl (rfl) rfl ?_
         refine L_op (env' := uS2n75) rfl rfl (wS2n0 rfl rfl rfl rfl) rfl ?_
         refine L_op (env' := uS2n75) rfl rfl (rfl) rfl ?_
         refine L_op (env' := uS2n75) rfl rfl (rfl) rfl ?_
         refine L_op (env' := uS2n75) rfl rfl (v_pickT rfl rfl rfl) rfl ?_
         refine L_op (env' := uS2n75) rfl rfl (v_move (.inr rfl) rfl) rfl ?_
         refine L_nil (K_blk (K_seq (B_seq (B_seq (B_region ?_)))))
         refine L_op (env' := uS2n75) rfl rfl (v_move (.inl rfl) rfl) rfl ?_
         refine L_op (env' := uS2n75) rfl rfl (rfl) rfl ?_
         refine L_nil (K_seq ?_)
         refine B_cond _ rfl (fun hc23 => ?_) (fun hc23 => ?_)
         ·try simp only [qB] at hc23
          refine B_seq (B_region ?_)
          refine L_op (env' := uS2n75) rfl rfl (v_const (VVal.int .i64 1) (.inr rfl) rfl) rfl ?_
          refine L_nil (K_seq (B_ret (K_seqR ?_)))
          refine E_app (.inr rfl) (vres_tmp rfl rfl) (by first | exact BaseOk.refl _ | exact BaseOk.set (BaseOk.refl _) _ rfl) (by first | rfl | simp [VVal.under, VVal.underL, *]) ?_
          first
            | (exfalso; omega)
            | exact ⟨by rw [rcE_1 (rck_fit (by first | assumption | omega))], rfl⟩
            | exact ⟨by rw [rcE_1 (rck_rise (rise_bad (k := k) (by omega) (by first | exact .inl (by assumption) | exact .inr (by assumption) | omega)))], rfl⟩
            | exact ⟨by rw [rcE_1 (rck_knd (by first | exact knd_d (by omega) | exact (knd_a (by omega)).trans (decide_eq_false (by omega)) | exact (knd_b (by omega)).trans (decide_eq_false (by omega)) | exact (knd_c (by omega)).trans (decide_eq_false (by omega))))], rfl⟩
            | exact ⟨by rw [rcE_0 (rck_ok (by omega) hrs (by first | exact (knd_a (by omega)).trans (decide_eq_true (by omega)) | exact (knd_b (by omega)).trans (decide_eq_true (by omega)) | exact (knd_c (by omega)).trans (decide_eq_true (by omega))))], rfl⟩
         ·try simp only [qB] at hc23
          refine B_skip (K_seq (B_seq (B_region ?_)))
          refine L_op (env' := uS2n75) rfl rfl (v_const (VVal.int .i64 0) (.inr rfl) rfl) rfl ?_
          refine L_nil (K_seq (B_ret ?_))
          refine E_app (.inr rfl) (vres_tmp rfl rfl) (by first | exact BaseOk.refl _ | exact BaseOk.set (BaseOk.refl _) _ rfl) (by first | rfl | simp [VVal.under, VVal.underL, *]) ?_
          first
            | (exfalso; omega)
            | exact ⟨by rw [rcE_1 (rck_fit (by first | assumption | omega))], rfl⟩
            | exact ⟨by rw [rcE_1 (rck_rise (rise_bad (k := k) (by omega) (by first | exact .inl (by assumption) | exact .inr (by assumption) | omega)))], rfl⟩
            | exact ⟨by rw [rcE_1 (rck_knd (by first | exact knd_d (by omega) | exact (knd_a (by omega)).trans (decide_eq_false (by omega)) | exact (knd_b (by omega)).trans (decide_eq_false (by omega)) | exact (knd_c (by omega)).trans (decide_eq_false (by omega))))], rfl⟩
            | exact ⟨by rw [rcE_0 (rck_ok (by omega) hrs (by first | exact (knd_a (by omega)).trans (decide_eq_true (by omega)) | exact (knd_b (by omega)).trans (decide_eq_true (by omega)) | exact (knd_c (by omega)).trans (decide_eq_true (by omega))))], rfl⟩
        ·try simp only [qB] at hg22
         refine L_off (env' := uS2n75) rfl rfl ?_
         refine L_off (env' := uS2n75) rfl rfl ?_
         refine L_off (env' := uS2n75) rfl rfl ?_
         refine L_off (env' := uS2n75) rfl rfl ?_
         refine L_off (env' := uS2n75) rfl rfl ?_
         refine L_off (env' := uS2n75) rfl rfl ?_
         refine L_op (env' := uS2n75) rfl rfl (v_pickFC (VVal.bool false) rfl rfl rfl) rfl ?_
         refine L_op (env' := uS2n75) rfl rfl (v_move (.inr rfl) rfl) rfl ?_
         refine L_nil (K_blk (K_seq (B_seq (B_seq (B_region ?_)))))
         refine L_op (env' := uS2n75) rfl rfl (v_move (.inl rfl) rfl) rfl ?_
         refine L_op (env' := uS2n75) rfl rfl (rfl) rfl ?_
         refine L_nil (K_seq ?_)
         refine B_true rfl rfl ?_
         refine B_seq (B_region ?_)
         refine L_op (env' := uS2n75) rfl rfl (v_const (VVal.int .i64 1) (.inr rfl) rfl) rfl ?_
         refine L_nil (K_seq (B_ret (K_seqR ?_)))
         refine E_app (.inr rfl) (vres_tmp rfl rfl) (by first | exact BaseOk.refl _ | exact BaseOk.set (BaseOk.refl _) _ rfl) (by first | rfl | simp [VVal.under, VVal.underL, *]) ?_
         first
           | (exfalso; omega)
           | exact ⟨by rw [rcE_1 (rck_fit (by first | assumption | omega))], rfl⟩
           | exact ⟨by rw [rcE_1 (rck_rise (rise_bad (k := k) (by omega) (by first | exact .inl (by assumption) | exact .inr (by assumption) | omega)))], rfl⟩
           | exact ⟨by rw [rcE_1 (rck_knd (by first | exact knd_d (by omega) | exact (knd_a (by omega)).trans (decide_eq_false (by omega)) | exact (knd_b (by omega)).trans (decide_eq_false (by omega)) | exact (knd_c (by omega)).trans (decide_eq_false (by omega))))], rfl⟩
           | exact ⟨by rw [rcE_0 (rck_ok (by omega) hrs (by first | exact (knd_a (by omega)).trans (decide_eq_true (by omega)) | exact (knd_b (by omega)).trans (decide_eq_true (by omega)) | exact (knd_c (by omega)).trans (decide_eq_true (by omega))))], rfl⟩
       ·try simp only [qB] at hc21
        refine B_skip (K_blk (K_seq (B_seq (B_seq (B_region ?_)))))
        refine L_op (env' := uS2n75) rfl rfl (v_move (.inl rfl) rfl) rfl ?_
        refine L_op (env' := uS2n75) rfl rfl (rfl) rfl ?_
        refine L_nil (K_seq ?_)
        refine B_true rfl rfl ?_
        refine B_seq (B_region ?_)
        refine L_op (env' := uS2n75) rfl rfl (v_const (VVal.int .i64 1) (.inr rfl) rfl) rfl ?_
        refine L_nil (K_seq (B_ret (K_seqR ?_)))
        refine E_app (.inr rfl) (vres_tmp rfl rfl) (by first | exact BaseOk.refl _ | exact BaseOk.set (BaseOk.refl _) _ rfl) (by first | rfl | simp [VVal.under, VVal.underL, *]) ?_
        first
          | (exfalso; omega)
          | exact ⟨by rw [rcE_1 (rck_fit (by first | assumption | omega))], rfl⟩
          | exact ⟨by rw [rcE_1 (rck_rise (rise_bad (k := k) (by omega) (by first | exact .inl (by assumption) | exact .inr (by assumption) | omega)))], rfl⟩
          | exact ⟨by rw [rcE_1 (rck_knd (by first | exact knd_d (by omega) | exact (knd_a (by omega)).trans (decide_eq_false (by omega)) | exact (knd_b (by omega)).trans (decide_eq_false (by omega)) | exact (knd_c (by omega)).trans (decide_eq_false (by omega))))], rfl⟩
          | exact ⟨by rw [rcE_0 (rck_ok (by omega) hrs (by first | exact (knd_a (by omega)).trans (decide_eq_true (by omega)) | exact (knd_b (by omega)).trans (decide_eq_true (by omega)) | exact (knd_c (by omega)).trans (decide_eq_true (by omega))))], rfl⟩
   ·try simp only [qB] at hc5
    refine B_region ?_
    refine L_op (env' := uS2n75) rfl rfl (rfl) rfl ?_
    refine L_op (env' := uS2n75) rfl rfl (v_move (.inr rfl) rfl) rfl ?_
    refine L_nil (K_seq ?_)
    refine B_cond _ rfl (fun hc24 => ?_) (fun hc24 => ?_)
    ·try simp only [qB] at hc24
     refine B_region ?_
     refine L_op (env' := uS2n75) rfl rfl (rfl) rfl ?_
     refine L_op (env' := uS2n75) rfl rfl (wS2n0 rfl rfl rfl rfl) rfl ?_
     refine L_op (env' := uS2n75) rfl rfl (rfl) rfl ?_
     refine L_op (env' := uS2n75) rfl rfl (v_move (.inl rfl) rfl) rfl ?_
     refine L_split 37 (env1 := uS2n75) (env2 := uS2n75) rfl rfl rfl (fun hg25 => ?_) (fun hg25 => ?_)
     ·try simp only [qB] at hg25
      refine L_op (env' := uS2n75) rfl rfl (rfl) rfl ?_
      refine L_op (env' := uS2n75) rfl rfl (wS2n0 rfl rfl rfl rfl) rfl ?_
      refine L_op (env' := uS2n75) rfl rfl (rfl) rfl ?_
      refine L_op (env' := uS2n75) rfl rfl (rfl) rfl ?_
      refine L_op (env' := uS2n75) rfl rfl (v_pickT rfl rfl rfl) rfl ?_
      refine L_op (env' := uS2n75) rfl rfl (v_move (.inr rfl) rfl) rfl ?_
      refine L_nil (K_blk (K_seq (B_seq (B_seq (B_region ?_)))))
      refine L_op (env' := uS2n75) rfl rfl (v_move (.inl rfl) rfl) rfl ?_
      refine L_op (env' := uS2n75) rfl rfl (rfl) rfl ?_
      refine L_nil (K_seq ?_)
      refine B_cond _ rfl (fun hc26 => ?_) (fun hc26 => ?_)
      ·try simp only [qB] at hc26
       refine B_seq (B_region ?_)
       refine L_op (env' := uS2n75) rfl rfl (v_const (VVal.int .i64 1) (.inr rfl) rfl) rfl ?_
       refine L_nil (K_seq (B_ret (K_seqR ?_)))
       refine E_app (.inr rfl) (vres_tmp rfl rfl) (by first | exact BaseOk.refl _ | exact BaseOk.set (BaseOk.refl _) _ rfl) (by first | rfl | simp [VVal.under, VVal.underL, *]) ?_
       first
         | (exfalso; omega)
         | exact ⟨by rw [rcE_1 (rck_fit (by first | assumption | omega))], rfl⟩
         | exact ⟨by rw [rcE_1 (rck_rise (rise_bad (k := k) (by omega) (by first | exact .inl (by assumption) | exact .inr (by assumption) | omega)))], rfl⟩
         | exact ⟨by rw [rcE_1 (rck_knd (by first | exact knd_d (by omega) | exact (knd_a (by omega)).trans (decide_eq_false (by omega)) | exact (knd_b (by omega)).trans (decide_eq_false (by omega)) | exact (knd_c (by omega)).trans (decide_eq_false (by omega))))], rfl⟩
         | exact ⟨by rw [rcE_0 (rck_ok (by omega) hrs (by first | exact (knd_a (by omega)).trans (decide_eq_true (by omega)) | exact (knd_b (by omega)).trans (decide_eq_true (by omega)) | exact (knd_c (by omega)).trans (decide_eq_true (by omega))))], rfl⟩
      ·try simp only [qB] at hc26
       refine B_skip (K_seq (B_seq (B_region ?_)))
       refine L_op (env' := uS2n75) rfl rfl (v_const (VVal.int .i64 0) (.inr rfl) rfl) rfl ?_
       refine L_nil (K_seq (B_ret ?_))
       refine E_app (.inr rfl) (vres_tmp rfl rfl) (by first | exact BaseOk.refl _ | exact BaseOk.set (BaseOk.refl _) _ rfl) (by first | rfl | simp [VVal.under, VVal.underL, *]) ?_
       first
         | (exfalso; omega)
         | exact ⟨by rw [rcE_1 (rck_fit (by first | assumption | omega))], rfl⟩
         | exact ⟨by rw [rcE_1 (rck_rise (rise_bad (k := k) (by omega) (by first | exact .inl (by assumption) | exact .inr (by assumption) | omega)))], rfl⟩
         | exact ⟨by rw [rcE_1 (rck_knd (by first | exact knd_d (by omega) | exact (knd_a (by omega)).trans (decide_eq_false (by omega)) | exact (knd_b (by omega)).trans (decide_eq_false (by omega)) | exact (knd_c (by omega)).trans (decide_eq_false (by omega))))], rfl⟩
         | exact ⟨by rw [rcE_0 (rck_ok (by omega) hrs (by first | exact (knd_a (by omega)).trans (decide_eq_true (by omega)) | exact (knd_b (by omega)).trans (decide_eq_true (by omega)) | exact (knd_c (by omega)).trans (decide_eq_true (by omega))))], rfl⟩
     ·try simp only [qB] at hg25
      refine L_off (env' := uS2n75) rfl rfl ?_
      refine L_off (env' := uS2n75) rfl rfl ?_
      refine L_off (env' := uS2n75) rfl rfl ?_
      refine L_off (env' := uS2n75) rfl rfl ?_
      refine L_op (env' := uS2n75) rfl rfl (v_pickFC (VVal.bool false) rfl rfl rfl) rfl ?_
      refine L_op (env' := uS2n75) rfl rfl (v_move (.inr rfl) rfl) rfl ?_
      refine L_nil (K_blk (K_seq (B_seq (B_seq (B_region ?_)))))
      refine L_op (env' := uS2n75) rfl rfl (v_move (.inl rfl) rfl) rfl ?_
      refine L_op (env' := uS2n75) rfl rfl (rfl) rfl ?_
      refine L_nil (K_seq ?_)
      refine B_true rfl rfl ?_
      refine B_seq (B_region ?_)
      refine L_op (env' := uS2n75) rfl rfl (v_const (VVal.int .i64 1) (.inr rfl) rfl) rfl ?_
      refine L_nil (K_seq (B_ret (K_seqR ?_)))
      refine E_app (.inr rfl) (vres_tmp rfl rfl) (by first | exact BaseOk.refl _ | exact BaseOk.set (BaseOk.refl _) _ rfl) (by first | rfl | simp [VVal.under, VVal.underL, *]) ?_
      first
        | (exfalso; omega)
        | exact ⟨by rw [rcE_1 (rck_fit (by first | assumption | omega))], rfl⟩
        | exact ⟨by rw [rcE_1 (rck_rise (rise_bad (k := k) (by omega) (by first | exact .inl (by assumption) | exact .inr (by assumption) | omega)))], rfl⟩
        | exact ⟨by rw [rcE_1 (rck_knd (by first | exact knd_d (by omega) | exact (knd_a (by omega)).trans (decide_eq_false (by omega)) | exact (knd_b (by omega)).trans (decide_eq_false (by omega)) | exact (knd_c (by omega)).trans (decide_eq_false (by omega))))], rfl⟩
        | exact ⟨by rw [rcE_0 (rck_ok (by omega) hrs (by first | exact (knd_a (by omega)).trans (decide_eq_true (by omega)) | exact (knd_b (by omega)).trans (decide_eq_true (by omega)) | exact (knd_c (by omega)).trans (decide_eq_true (by omega))))], rfl⟩
    ·try simp only [qB] at hc24
     refine B_seq (B_seq (B_region ?_))
     refine L_op (env' := uS2n75) rfl rfl (rfl) rfl ?_
     refine L_op (env' := uS2n75) rfl rfl (v_move (.inr rfl) rfl) rfl ?_
     refine L_nil (K_seq ?_)
     refine B_cond _ rfl (fun hc27 => ?_) (fun hc27 => ?_)
     ·try simp only [qB] at hc27
      refine B_skip (K_seq ?_)
      refine B_cond _ rfl (fun hc28 => ?_) (fun hc28 => ?_)
      ·try simp only [qB] at hc28
       refine B_region ?_
       refine L_op (env' := uS2n75) rfl rfl (rfl) rfl ?_
       refine L_op (env' := uS2n75) rfl rfl (wS2n0 rfl rfl rfl rfl) rfl ?_
       refine L_op (env' := uS2n75) rfl rfl (rfl) rfl ?_
       refine L_op (env' := uS2n75) rfl rfl (v_move (.inl rfl) rfl) rfl ?_
       refine L_split 49 (env1 := uS2n75) (env2 := uS2n75) rfl rfl rfl (fun hg29 => ?_) (fun hg29 => ?_)
       ·try simp only [qB] at hg29
        refine L_op (env' := uS2n75) rfl rfl (rfl) rfl ?_
        refine L_op (env' := uS2n75) rfl rfl (wS2n0 rfl rfl rfl rfl) rfl ?_
        refine L_op (env' := uS2n75) rfl rfl (rfl) rfl ?_
        refine L_op (env' := uS2n75) rfl rfl (v_pickT rfl rfl rfl) rfl ?_
        refine L_op (env' := uS2n75) rfl rfl (v_move (.inl rfl) rfl) rfl ?_
        refine L_split 54 (env1 := uS2n75) (env2 := uS2n75) rfl rfl rfl (fun hg30 => ?_) (fun hg30 => ?_)
        ·try simp only [qB] at hg30
         refine L_op (env' := uS2n75) rfl rfl (rfl) rfl ?_
         refine L_op (env' := uS2n75) rfl rfl (wS2n0 rfl rfl rfl rfl) rfl ?_
         refine L_op (env' := uS2n75) rfl rfl (rfl) rfl ?_
         refine L_op (env' := uS2n75) rfl rfl (rfl) rfl ?_
         refine L_op (env' := uS2n75) rfl rfl (v_pickT rfl rfl rfl) rfl ?_
         refine L_op (env' := uS2n75) rfl rfl (v_move (.inr rfl) rfl) rfl ?_
         refine L_nil (K_blk (K_seq (B_seq (B_seq (B_region ?_)))))
         refine L_op (env' := uS2n75) rfl rfl (v_move (.inl rfl) rfl) rfl ?_
         refine L_op (env' := uS2n75) rfl rfl (rfl) rfl ?_
         refine L_nil (K_seq ?_)
         refine B_cond _ rfl (fun hc31 => ?_) (fun hc31 => ?_)
         ·try simp only [qB] at hc31
          refine B_seq (B_region ?_)
          refine L_op (env' := uS2n75) rfl rfl (v_const (VVal.int .i64 1) (.inr rfl) rfl) rfl ?_
          refine L_nil (K_seq (B_ret (K_seqR ?_)))
          refine E_app (.inr rfl) (vres_tmp rfl rfl) (by first | exact BaseOk.refl _ | exact BaseOk.set (BaseOk.refl _) _ rfl) (by first | rfl | simp [VVal.under, VVal.underL, *]) ?_
          first
            | (exfalso; omega)
            | exact ⟨by rw [rcE_1 (rck_fit (by first | assumption | omega))], rfl⟩
            | exact ⟨by rw [rcE_1 (rck_rise (rise_bad (k := k) (by omega) (by first | exact .inl (by assumption) | exact .inr (by assumption) | omega)))], rfl⟩
            | exact ⟨by rw [rcE_1 (rck_knd (by first | exact knd_d (by omega) | exact (knd_a (by omega)).trans (decide_eq_false (by omega)) | exact (knd_b (by omega)).trans (decide_eq_false (by omega)) | exact (knd_c (by omega)).trans (decide_eq_false (by omega))))], rfl⟩
            | exact ⟨by rw [rcE_0 (rck_ok (by omega) hrs (by first | exact (knd_a (by omega)).trans (decide_eq_true (by omega)) | exact (knd_b (by omega)).trans (decide_eq_true (by omega)) | exact (knd_c (by omega)).trans (decide_eq_true (by omega))))], rfl⟩
         ·try simp only [qB] at hc31
          refine B_skip (K_seq (B_seq (B_region ?_)))
          refine L_op (env' := uS2n75) rfl rfl (v_const (VVal.int .i64 0) (.inr rfl) rfl) rfl ?_
          refine L_nil (K_seq (B_ret ?_))
          refine E_app (.inr rfl) (vres_tmp rfl rfl) (by first | exact BaseOk.refl _ | exact BaseOk.set (BaseOk.refl _) _ rfl) (by first | rfl | simp [VVal.under, VVal.underL, *]) ?_
          first
            | (exfalso; omega)
            | exact ⟨by rw [rcE_1 (rck_fit (by first | assumption | omega))], rfl⟩
            | exact ⟨by rw [rcE_1 (rck_rise (rise_bad (k := k) (by omega) (by first | exact .inl (by assumption) | exact .inr (by assumption) | omega)))], rfl⟩
            | exact ⟨by rw [rcE_1 (rck_knd (by first | exact knd_d (by omega) | exact (knd_a (by omega)).trans (decide_eq_false (by omega)) | exact (knd_b (by omega)).trans (decide_eq_false (by omega)) | exact (knd_c (by omega)).trans (decide_eq_false (by omega))))], rfl⟩
            | exact ⟨by rw [rcE_0 (rck_ok (by omega) hrs (by first | exact (knd_a (by omega)).trans (decide_eq_true (by omega)) | exact (knd_b (by omega)).trans (decide_eq_true (by omega)) | exact (knd_c (by omega)).trans (decide_eq_true (by omega))))], rfl⟩
        ·try simp only [qB] at hg30
         refine L_off (env' := uS2n75) rfl rfl ?_
         refine L_off (env' := uS2n75) rfl rfl ?_
         refine L_off (env' := uS2n75) rfl rfl ?_
         refine L_off (env' := uS2n75) rfl rfl ?_
         refine L_op (env' := uS2n75) rfl rfl (v_pickFC (VVal.bool false) rfl rfl rfl) rfl ?_
         refine L_op (env' := uS2n75) rfl rfl (v_move (.inr rfl) rfl) rfl ?_
         refine L_nil (K_blk (K_seq (B_seq (B_seq (B_region ?_)))))
         refine L_op (env' := uS2n75) rfl rfl (v_move (.inl rfl) rfl) rfl ?_
         refine L_op (env' := uS2n75) rfl rfl (rfl) rfl ?_
         refine L_nil (K_seq ?_)
         refine B_true rfl rfl ?_
         refine B_seq (B_region ?_)
         refine L_op (env' := uS2n75) rfl rfl (v_const (VVal.int .i64 1) (.inr rfl) rfl) rfl ?_
         refine L_nil (K_seq (B_ret (K_seqR ?_)))
         refine E_app (.inr rfl) (vres_tmp rfl rfl) (by first | exact BaseOk.refl _ | exact BaseOk.set (BaseOk.refl _) _ rfl) (by first | rfl | simp [VVal.under, VVal.underL, *]) ?_
         first
           | (exfalso; omega)
           | exact ⟨by rw [rcE_1 (rck_fit (by first | assumption | omega))], rfl⟩
           | exact ⟨by rw [rcE_1 (rck_rise (rise_bad (k := k) (by omega) (by first | exact .inl (by assumption) | exact .inr (by assumption) | omega)))], rfl⟩
           | exact ⟨by rw [rcE_1 (rck_knd (by first | exact knd_d (by omega) | exact (knd_a (by omega)).trans (decide_eq_false (by omega)) | exact (knd_b (by omega)).trans (decide_eq_false (by omega)) | exact (knd_c (by omega)).trans (decide_eq_false (by omega))))], rfl⟩
           | exact ⟨by rw [rcE_0 (rck_ok (by omega) hrs (by first | exact (knd_a (by omega)).trans (decide_eq_true (by omega)) | exact (knd_b (by omega)).trans (decide_eq_true (by omega)) | exact (knd_c (by omega)).trans (decide_eq_true (by omega))))], rfl⟩
       ·try simp only [qB] at hg29
        refine L_off (env' := uS2n75) rfl rfl ?_
        refine L_off (env' := uS2n75) rfl rfl ?_
        refine L_off (env' := uS2n75) rfl rfl ?_
        refine L_op (env' := uS2n75) rfl rfl (v_pickFC (VVal.bool false) rfl rfl rfl) rfl ?_
        refine L_op (env' := uS2n75) rfl rfl (v_move (.inl rfl) rfl) rfl ?_
        refine L_off (env' := uS2n75) rfl rfl ?_
        refine L_off (env' := uS2n75) rfl rfl ?_
        refine L_off (env' := uS2n75) rfl rfl ?_
        refine L_off (env' := uS2n75) rfl rfl ?_
        refine L_op (env' := uS2n75) rfl rfl (v_pickFC (VVal.bool false) rfl rfl rfl) rfl ?_
        refine L_op (env' := uS2n75) rfl rfl (v_move (.inr rfl) rfl) rfl ?_
        refine L_nil (K_blk (K_seq (B_seq (B_seq (B_region ?_)))))
        refine L_op (env' := uS2n75) rfl rfl (v_move (.inl rfl) rfl) rfl ?_
        refine L_op (env' := uS2n75) rfl rfl (rfl) rfl ?_
        refine L_nil (K_seq ?_)
        refine B_true rfl rfl ?_
        refine B_seq (B_region ?_)
        refine L_op (env' := uS2n75) rfl rfl (v_const (VVal.int .i64 1) (.inr rfl) rfl) rfl ?_
        refine L_nil (K_seq (B_ret (K_seqR ?_)))
        refine E_app (.inr rfl) (vres_tmp rfl rfl) (by first | exact BaseOk.refl _ | exact BaseOk.set (BaseOk.refl _) _ rfl) (by first | rfl | simp [VVal.under, VVal.underL, *]) ?_
        first
          | (exfalso; omega)
          | exact ⟨by rw [rcE_1 (rck_fit (by first | assumption | omega))], rfl⟩
          | exact ⟨by rw [rcE_1 (rck_rise (rise_bad (k := k) (by omega) (by first | exact .inl (by assumption) | exact .inr (by assumption) | omega)))], rfl⟩
          | exact ⟨by rw [rcE_1 (rck_knd (by first | exact knd_d (by omega) | exact (knd_a (by omega)).trans (decide_eq_false (by omega)) | exact (knd_b (by omega)).trans (decide_eq_false (by omega)) | exact (knd_c (by omega)).trans (decide_eq_false (by omega))))], rfl⟩
          | exact ⟨by rw [rcE_0 (rck_ok (by omega) hrs (by first | exact (knd_a (by omega)).trans (decide_eq_true (by omega)) | exact (knd_b (by omega)).trans (decide_eq_true (by omega)) | exact (knd_c (by omega)).trans (decide_eq_true (by omega))))], rfl⟩
      ·try simp only [qB] at hc28
       refine B_seq (B_region ?_)
       refine L_op (env' := uS2n75) rfl rfl (rfl) rfl ?_
       refine L_op (env' := uS2n75) rfl rfl (v_move (.inr rfl) rfl) rfl ?_
       refine L_nil (K_seq ?_)
       refine B_cond _ rfl (fun hc32 => ?_) (fun hc32 => ?_)
       ·try simp only [qB] at hc32
        refine B_region ?_
        refine L_op (env' := uS2n75) rfl rfl (rfl) rfl ?_
        refine L_op (env' := uS2n75) rfl rfl (wS2n0 rfl rfl rfl rfl) rfl ?_
        refine L_op (env' := uS2n75) rfl rfl (rfl) rfl ?_
        refine L_op (env' := uS2n75) rfl rfl (v_move (.inl rfl) rfl) rfl ?_
        refine L_split 65 (env1 := uS2n75) (env2 := uS2n75) rfl rfl rfl (fun hg33 => ?_) (fun hg33 => ?_)
        ·try simp only [qB] at hg33
         refine L_op (env' := uS2n75) rfl rfl (rfl) rfl ?_
         refine L_op (env' := uS2n75) rfl rfl (wS2n0 rfl rfl rfl rfl) rfl ?_
         refine L_op (env' := uS2n75) rfl rfl (rfl) rfl ?_
         refine L_op (env' := uS2n75) rfl rfl (wS2n0 rfl rfl rfl rfl) rfl ?_
         refine L_op (env' := uS2n75) rfl rfl (rfl) rfl ?_
         refine L_op (env' := uS2n75) rfl rfl (rfl) rfl ?_
         refine L_op (env' := uS2n75) rfl rfl (v_pickT rfl rfl rfl) rfl ?_
         refine L_op (env' := uS2n75) rfl rfl (v_move (.inr rfl) rfl) rfl ?_
         refine L_nil (K_blk (K_seq (B_seq (B_seq (B_region ?_)))))
         refine L_op (env' := uS2n75) rfl rfl (v_move (.inl rfl) rfl) rfl ?_
         refine L_op (env' := uS2n75) rfl rfl (rfl) rfl ?_
         refine L_nil (K_seq ?_)
         refine B_cond _ rfl (fun hc34 => ?_) (fun hc34 => ?_)
         ·try simp only [qB] at hc34
          refine B_seq (B_region ?_)
          refine L_op (env' := uS2n75) rfl rfl (v_const (VVal.int .i64 1) (.inr rfl) rfl) rfl ?_
          refine L_nil (K_seq (B_ret (K_seqR ?_)))
          refine E_app (.inr rfl) (vres_tmp rfl rfl) (by first | exact BaseOk.refl _ | exact BaseOk.set (BaseOk.refl _) _ rfl) (by first | rfl | simp [VVal.under, VVal.underL, *]) ?_
          first
            | (exfalso; omega)
            | exact ⟨by rw [rcE_1 (rck_fit (by first | assumption | omega))], rfl⟩
            | exact ⟨by rw [rcE_1 (rck_rise (rise_bad (k := k) (by omega) (by first | exact .inl (by assumption) | exact .inr (by assumption) | omega)))], rfl⟩
            | exact ⟨by rw [rcE_1 (rck_knd (by first | exact knd_d (by omega) | exact (knd_a (by omega)).trans (decide_eq_false (by omega)) | exact (knd_b (by omega)).trans (decide_eq_false (by omega)) | exact (knd_c (by omega)).trans (decide_eq_false (by omega))))], rfl⟩
            | exact ⟨by rw [rcE_0 (rck_ok (by omega) hrs (by first | exact (knd_a (by omega)).trans (decide_eq_true (by omega)) | exact (knd_b (by omega)).trans (decide_eq_true (by omega)) | exact (knd_c (by omega)).trans (decide_eq_true (by omega))))], rfl⟩
         ·try simp only [qB] at hc34
          refine B_skip (K_seq (B_seq (B_region ?_)))
          refine L_op (env' := uS2n75) rfl rfl (v_const (VVal.int .i64 0) (.inr rfl) rfl) rfl ?_
          refine L_nil (K_seq (B_ret ?_))
          refine E_app (.inr rfl) (vres_tmp rfl rfl) (by first | exact BaseOk.refl _ | exact BaseOk.set (BaseOk.refl _) _ rfl) (by first | rfl | simp [VVal.under, VVal.underL, *]) ?_
          first
            | (exfalso; omega)
            | exact ⟨by rw [rcE_1 (rck_fit (by first | assumption | omega))], rfl⟩
            | exact ⟨by rw [rcE_1 (rck_rise (rise_bad (k := k) (by omega) (by first | exact .inl (by assumption) | exact .inr (by assumption) | omega)))], rfl⟩
            | exact ⟨by rw [rcE_1 (rck_knd (by first | exact knd_d (by omega) | exact (knd_a (by omega)).trans (decide_eq_false (by omega)) | exact (knd_b (by omega)).trans (decide_eq_false (by omega)) | exact (knd_c (by omega)).trans (decide_eq_false (by omega))))], rfl⟩
            | exact ⟨by rw [rcE_0 (rck_ok (by omega) hrs (by first | exact (knd_a (by omega)).trans (decide_eq_true (by omega)) | exact (knd_b (by omega)).trans (decide_eq_true (by omega)) | exact (knd_c (by omega)).trans (decide_eq_true (by omega))))], rfl⟩
        ·try simp only [qB] at hg33
         refine L_off (env' := uS2n75) rfl rfl ?_
         refine L_off (env' := uS2n75) rfl rfl ?_
         refine L_off (env' := uS2n75) rfl rfl ?_
         refine L_off (env' := uS2n75) rfl rfl ?_
         refine L_off (env' := uS2n75) rfl rfl ?_
         refine L_off (env' := uS2n75) rfl rfl ?_
         refine L_op (env' := uS2n75) rfl rfl (v_pickFC (VVal.bool false) rfl rfl rfl) rfl ?_
         refine L_op (env' := uS2n75) rfl rfl (v_move (.inr rfl) rfl) rfl ?_
         refine L_nil (K_blk (K_seq (B_seq (B_seq (B_region ?_)))))
         refine L_op (env' := uS2n75) rfl rfl (v_move (.inl rfl) rfl) rfl ?_
         refine L_op (env' := uS2n75) rfl rfl (rfl) rfl ?_
         refine L_nil (K_seq ?_)
         refine B_true rfl rfl ?_
         refine B_seq (B_region ?_)
         refine L_op (env' := uS2n75) rfl rfl (v_const (VVal.int .i64 1) (.inr rfl) rfl) rfl ?_
         refine L_nil (K_seq (B_ret (K_seqR ?_)))
         refine E_app (.inr rfl) (vres_tmp rfl rfl) (by first | exact BaseOk.refl _ | exact BaseOk.set (BaseOk.refl _) _ rfl) (by first | rfl | simp [VVal.under, VVal.underL, *]) ?_
         first
           | (exfalso; omega)
           | exact ⟨by rw [rcE_1 (rck_fit (by first | assumption | omega))], rfl⟩
           | exact ⟨by rw [rcE_1 (rck_rise (rise_bad (k := k) (by omega) (by first | exact .inl (by assumption) | exact .inr (by assumption) | omega)))], rfl⟩
           | exact ⟨by rw [rcE_1 (rck_knd (by first | exact knd_d (by omega) | exact (knd_a (by omega)).trans (decide_eq_false (by omega)) | exact (knd_b (by omega)).trans (decide_eq_false (by omega)) | exact (knd_c (by omega)).trans (decide_eq_false (by omega))))], rfl⟩
           | exact ⟨by rw [rcE_0 (rck_ok (by omega) hrs (by first | exact (knd_a (by omega)).trans (decide_eq_true (by omega)) | exact (knd_b (by omega)).trans (decide_eq_true (by omega)) | exact (knd_c (by omega)).trans (decide_eq_true (by omega))))], rfl⟩
       ·try simp only [qB] at hc32
        refine B_skip (K_blk (K_seq (B_seq (B_seq (B_region ?_)))))
        refine L_op (env' := uS2n75) rfl rfl (v_move (.inl rfl) rfl) rfl ?_
        refine L_op (env' := uS2n75) rfl rfl (rfl) rfl ?_
        refine L_nil (K_seq ?_)
        refine B_true rfl rfl ?_
        refine B_seq (B_region ?_)
        refine L_op (env' := uS2n75) rfl rfl (v_const (VVal.int .i64 1) (.inr rfl) rfl) rfl ?_
        refine L_nil (K_seq (B_ret (K_seqR ?_)))
        refine E_app (.inr rfl) (vres_tmp rfl rfl) (by first | exact BaseOk.refl _ | exact BaseOk.set (BaseOk.refl _) _ rfl) (by first | rfl | simp [VVal.under, VVal.underL, *]) ?_
        first
          | (exfalso; omega)
          | exact ⟨by rw [rcE_1 (rck_fit (by first | assumption | omega))], rfl⟩
          | exact ⟨by rw [rcE_1 (rck_rise (rise_bad (k := k) (by omega) (by first | exact .inl (by assumption) | exact .inr (by assumption) | omega)))], rfl⟩
          | exact ⟨by rw [rcE_1 (rck_knd (by first | exact knd_d (by omega) | exact (knd_a (by omega)).trans (decide_eq_false (by omega)) | exact (knd_b (by omega)).trans (decide_eq_false (by omega)) | exact (knd_c (by omega)).trans (decide_eq_false (by omega))))], rfl⟩
          | exact ⟨by rw [rcE_0 (rck_ok (by omega) hrs (by first | exact (knd_a (by omega)).trans (decide_eq_true (by omega)) | exact (knd_b (by omega)).trans (decide_eq_true (by omega)) | exact (knd_c (by omega)).trans (decide_eq_true (by omega))))], rfl⟩
     ·try simp only [qB] at hc27
      refine B_region ?_
      refine L_op (env' := uS2n75) rfl rfl (rfl) rfl ?_
      refine L_op (env' := uS2n75) rfl rfl (v_move (.inr rfl) rfl) rfl ?_
      refine L_nil (K_seq ?_)
      refine B_cond _ rfl (fun hc35 => ?_) (fun hc35 => ?_)
      ·try simp only [qB] at hc35
       refine B_region ?_
       refine L_op (env' := uS2n75) rfl rfl (rfl) rfl ?_
       refine L_op (env' := uS2n75) rfl rfl (wS2n0 rfl rfl rfl rfl) rfl ?_
       refine L_op (env' := uS2n75) rfl rfl (rfl) rfl ?_
       refine L_op (env' := uS2n75) rfl rfl (v_move (.inl rfl) rfl) rfl ?_
       refine L_split 49 (env1 := uS2n75) (env2 := uS2n75) rfl rfl rfl (fun hg36 => ?_) (fun hg36 => ?_)
       ·try simp only [qB] at hg36
        refine L_op (env' := uS2n75) rfl rfl (rfl) rfl ?_
        refine L_op (env' := uS2n75) rfl rfl (wS2n0 rfl rfl rfl rfl) rfl ?_
        refine L_op (env' := uS2n75) rfl rfl (rfl) rfl ?_
        refine L_op (env' := uS2n75) rfl rfl (v_pickT rfl rfl rfl) rfl ?_
        refine L_op (env' := uS2n75) rfl rfl (v_move (.inl rfl) rfl) rfl ?_
        refine L_split 54 (env1 := uS2n75) (env2 := uS2n75) rfl rfl rfl (fun hg37 => ?_) (fun hg37 => ?_)
        ·try simp only [qB] at hg37
         refine L_op (env' := uS2n75) rfl rfl (rfl) rfl ?_
         refine L_op (env' := uS2n75) rfl rfl (wS2n0 rfl rfl rfl rfl) rfl ?_
         refine L_op (env' := uS2n75) rfl rfl (rfl) rfl ?_
         refine L_op (env' := uS2n75) rfl rfl (rfl) rfl ?_
         refine L_op (env' := uS2n75) rfl rfl (v_pickT rfl rfl rfl) rfl ?_
         refine L_op (env' := uS2n75) rfl rfl (v_move (.inr rfl) rfl) rfl ?_
         refine L_nil (K_blk (K_seq (B_seq (B_seq (B_region ?_)))))
         refine L_op (env' := uS2n75) rfl rfl (v_move (.inl rfl) rfl) rfl ?_
         refine L_op (env' := uS2n75) rfl rfl (rfl) rfl ?_
         refine L_nil (K_seq ?_)
         refine B_cond _ rfl (fun hc38 => ?_) (fun hc38 => ?_)
         ·try simp only [qB] at hc38
          refine B_seq (B_region ?_)
          refine L_op (env' := uS2n75) rfl rfl (v_const (VVal.int .i64 1) (.inr rfl) rfl) rfl ?_
          refine L_nil (K_seq (B_ret (K_seqR ?_)))
          refine E_app (.inr rfl) (vres_tmp rfl rfl) (by first | exact BaseOk.refl _ | exact BaseOk.set (BaseOk.refl _) _ rfl) (by first | rfl | simp [VVal.under, VVal.underL, *]) ?_
          first
            | (exfalso; omega)
            | exact ⟨by rw [rcE_1 (rck_fit (by first | assumption | omega))], rfl⟩
            | exact ⟨by rw [rcE_1 (rck_rise (rise_bad (k := k) (by omega) (by first | exact .inl (by assumption) | exact .inr (by assumption) | omega)))], rfl⟩
            | exact ⟨by rw [rcE_1 (rck_knd (by first | exact knd_d (by omega) | exact (knd_a (by omega)).trans (decide_eq_false (by omega)) | exact (knd_b (by omega)).trans (decide_eq_false (by omega)) | exact (knd_c (by omega)).trans (decide_eq_false (by omega))))], rfl⟩
            | exact ⟨by rw [rcE_0 (rck_ok (by omega) hrs (by first | exact (knd_a (by omega)).trans (decide_eq_true (by omega)) | exact (knd_b (by omega)).trans (decide_eq_true (by omega)) | exact (knd_c (by omega)).trans (decide_eq_true (by omega))))], rfl⟩
         ·try simp only [qB] at hc38
          refine B_skip (K_seq (B_seq (B_region ?_)))
          refine L_op (env' := uS2n75) rfl rfl (v_const (VVal.int .i64 0) (.inr rfl) rfl) rfl ?_
          refine L_nil (K_seq (B_ret ?_))
          refine E_app (.inr rfl) (vres_tmp rfl rfl) (by first | exact BaseOk.refl _ | exact BaseOk.set (BaseOk.refl _) _ rfl) (by first | rfl | simp [VVal.under, VVal.underL, *]) ?_
          first
            | (exfalso; omega)
            | exact ⟨by rw [rcE_1 (rck_fit (by first | assumption | omega))], rfl⟩
            | exact ⟨by rw [rcE_1 (rck_rise (rise_bad (k := k) (by omega) (by first | exact .inl (by assumption) | exact .inr (by assumption) | omega)))], rfl⟩
            | exact ⟨by rw [rcE_1 (rck_knd (by first | exact knd_d (by omega) | exact (knd_a (by omega)).trans (decide_eq_false (by omega)) | exact (knd_b (by omega)).trans (decide_eq_false (by omega)) | exact (knd_c (by omega)).trans (decide_eq_false (by omega))))], rfl⟩
            | exact ⟨by rw [rcE_0 (rck_ok (by omega) hrs (by first | exact (knd_a (by omega)).trans (decide_eq_true (by omega)) | exact (knd_b (by omega)).trans (decide_eq_true (by omega)) | exact (knd_c (by omega)).trans (decide_eq_true (by omega))))], rfl⟩
        ·try simp only [qB] at hg37
         refine L_off (env' := uS2n75) rfl rfl ?_
         refine L_off (env' := uS2n75) rfl rfl ?_
         refine L_off (env' := uS2n75) rfl rfl ?_
         refine L_off (env' := uS2n75) rfl rfl ?_
         refine L_op (env' := uS2n75) rfl rfl (v_pickFC (VVal.bool false) rfl rfl rfl) rfl ?_
         refine L_op (env' := uS2n75) rfl rfl (v_move (.inr rfl) rfl) rfl ?_
         refine L_nil (K_blk (K_seq (B_seq (B_seq (B_region ?_)))))
         refine L_op (env' := uS2n75) rfl rfl (v_move (.inl rfl) rfl) rfl ?_
         refine L_op (env' := uS2n75) rfl rfl (rfl) rfl ?_
         refine L_nil (K_seq ?_)
         refine B_true rfl rfl ?_
         refine B_seq (B_region ?_)
         refine L_op (env' := uS2n75) rfl rfl (v_const (VVal.int .i64 1) (.inr rfl) rfl) rfl ?_
         refine L_nil (K_seq (B_ret (K_seqR ?_)))
         refine E_app (.inr rfl) (vres_tmp rfl rfl) (by first | exact BaseOk.refl _ | exact BaseOk.set (BaseOk.refl _) _ rfl) (by first | rfl | simp [VVal.under, VVal.underL, *]) ?_
         first
           | (exfalso; omega)
           | exact ⟨by rw [rcE_1 (rck_fit (by first | assumption | omega))], rfl⟩
           | exact ⟨by rw [rcE_1 (rck_rise (rise_bad (k := k) (by omega) (by first | exact .inl (by assumption) | exact .inr (by assumption) | omega)))], rfl⟩
           | exact ⟨by rw [rcE_1 (rck_knd (by first | exact knd_d (by omega) | exact (knd_a (by omega)).trans (decide_eq_false (by omega)) | exact (knd_b (by omega)).trans (decide_eq_false (by omega)) | exact (knd_c (by omega)).trans (decide_eq_false (by omega))))], rfl⟩
           | exact ⟨by rw [rcE_0 (rck_ok (by omega) hrs (by first | exact (knd_a (by omega)).trans (decide_eq_true (by omega)) | exact (knd_b (by omega)).trans (decide_eq_true (by omega)) | exact (knd_c (by omega)).trans (decide_eq_true (by omega))))], rfl⟩
       ·try simp only [qB] at hg36
        refine L_off (env' := uS2n75) rfl rfl ?_
        refine L_off (env' := uS2n75) rfl rfl ?_
        refine L_off (env' := uS2n75) rfl rfl ?_
        refine L_op (env' := uS2n75) rfl rfl (v_pickFC (VVal.bool false) rfl rfl rfl) rfl ?_
        refine L_op (env' := uS2n75) rfl rfl (v_move (.inl rfl) rfl) rfl ?_
        refine L_off (env' := uS2n75) rfl rfl ?_
        refine L_off (env' := uS2n75) rfl rfl ?_
        refine L_off (env' := uS2n75) rfl rfl ?_
        refine L_off (env' := uS2n75) rfl rfl ?_
        refine L_op (env' := uS2n75) rfl rfl (v_pickFC (VVal.bool false) rfl rfl rfl) rfl ?_
        refine L_op (env' := uS2n75) rfl rfl (v_move (.inr rfl) rfl) rfl ?_
        refine L_nil (K_blk (K_seq (B_seq (B_seq (B_region ?_)))))
        refine L_op (env' := uS2n75) rfl rfl (v_move (.inl rfl) rfl) rfl ?_
        refine L_op (env' := uS2n75) rfl rfl (rfl) rfl ?_
        refine L_nil (K_seq ?_)
        refine B_true rfl rfl ?_
        refine B_seq (B_region ?_)
        refine L_op (env' := uS2n75) rfl rfl (v_const (VVal.int .i64 1) (.inr rfl) rfl) rfl ?_
        refine L_nil (K_seq (B_ret (K_seqR ?_)))
        refine E_app (.inr rfl) (vres_tmp rfl rfl) (by first | exact BaseOk.refl _ | exact BaseOk.set (BaseOk.refl _) _ rfl) (by first | rfl | simp [VVal.under, VVal.underL, *]) ?_
        first
          | (exfalso; omega)
          | exact ⟨by rw [rcE_1 (rck_fit (by first | assumption | omega))], rfl⟩
          | exact ⟨by rw [rcE_1 (rck_rise (rise_bad (k := k) (by omega) (by first | exact .inl (by assumption) | exact .inr (by assumption) | omega)))], rfl⟩
          | exact ⟨by rw [rcE_1 (rck_knd (by first | exact knd_d (by omega) | exact (knd_a (by omega)).trans (decide_eq_false (by omega)) | exact (knd_b (by omega)).trans (decide_eq_false (by omega)) | exact (knd_c (by omega)).trans (decide_eq_false (by omega))))], rfl⟩
          | exact ⟨by rw [rcE_0 (rck_ok (by omega) hrs (by first | exact (knd_a (by omega)).trans (decide_eq_true (by omega)) | exact (knd_b (by omega)).trans (decide_eq_true (by omega)) | exact (knd_c (by omega)).trans (decide_eq_true (by omega))))], rfl⟩
      ·try simp only [qB] at hc35
       refine B_seq (B_region ?_)
       refine L_op (env' := uS2n75) rfl rfl (rfl) rfl ?_
       refine L_op (env' := uS2n75) rfl rfl (v_move (.inr rfl) rfl) rfl ?_
       refine L_nil (K_seq ?_)
       refine B_cond _ rfl (fun hc39 => ?_) (fun hc39 => ?_)
       ·try simp only [qB] at hc39
        refine B_region ?_
        refine L_op (env' := uS2n75) rfl rfl (rfl) rfl ?_
        refine L_op (env' := uS2n75) rfl rfl (wS2n0 rfl rfl rfl rfl) rfl ?_
        refine L_op (env' := uS2n75) rfl rfl (rfl) rfl ?_
        refine L_op (env' := uS2n75) rfl rfl (v_move (.inl rfl) rfl) rfl ?_
        refine L_split 65 (env1 := uS2n75) (env2 := uS2n75) rfl rfl rfl (fun hg40 => ?_) (fun hg40 => ?_)
        ·try simp only [qB] at hg40
         refine L_op (env' := uS2n75) rfl rfl (rfl) rfl ?_
         refine L_op (env' := uS2n75) rfl rfl (wS2n0 rfl rfl rfl rfl) rfl ?_
         refine L_op (env' := uS2n75) rfl rfl (rfl) rfl ?_
         refine L_op (env' := uS2n75) rfl rfl (wS2n0 rfl rfl rfl rfl) rfl ?_
         refine L_op (env' := uS2n75) rfl rfl (rfl) rfl ?_
         refine L_op (env' := uS2n75) rfl rfl (rfl) rfl ?_
         refine L_op (env' := uS2n75) rfl rfl (v_pickT rfl rfl rfl) rfl ?_
         refine L_op (env' := uS2n75) rfl rfl (v_move (.inr rfl) rfl) rfl ?_
         refine L_nil (K_blk (K_seq (B_seq (B_seq (B_region ?_)))))
         refine L_op (env' := uS2n75) rfl rfl (v_move (.inl rfl) rfl) rfl ?_
         refine L_op (env' := uS2n75) rfl rfl (rfl) rfl ?_
         refine L_nil (K_seq ?_)
         refine B_cond _ rfl (fun hc41 => ?_) (fun hc41 => ?_)
         ·try simp only [qB] at hc41
          refine B_seq (B_region ?_)
          refine L_op (env' := uS2n75) rfl rfl (v_const (VVal.int .i64 1) (.inr rfl) rfl) rfl ?_
          refine L_nil (K_seq (B_ret (K_seqR ?_)))
          refine E_app (.inr rfl) (vres_tmp rfl rfl) (by first | exact BaseOk.refl _ | exact BaseOk.set (BaseOk.refl _) _ rfl) (by first | rfl | simp [VVal.under, VVal.underL, *]) ?_
          first
            | (exfalso; omega)
            | exact ⟨by rw [rcE_1 (rck_fit (by first | assumption | omega))], rfl⟩
            | exact ⟨by rw [rcE_1 (rck_rise (rise_bad (k := k) (by omega) (by first | exact .inl (by assumption) | exact .inr (by assumption) | omega)))], rfl⟩
            | exact ⟨by rw [rcE_1 (rck_knd (by first | exact knd_d (by omega) | exact (knd_a (by omega)).trans (decide_eq_false (by omega)) | exact (knd_b (by omega)).trans (decide_eq_false (by omega)) | exact (knd_c (by omega)).trans (decide_eq_false (by omega))))], rfl⟩
            | exact ⟨by rw [rcE_0 (rck_ok (by omega) hrs (by first | exact (knd_a (by omega)).trans (decide_eq_true (by omega)) | exact (knd_b (by omega)).trans (decide_eq_true (by omega)) | exact (knd_c (by omega)).trans (decide_eq_true (by omega))))], rfl⟩
         ·try simp only [qB] at hc41
          refine B_skip (K_seq (B_seq (B_region ?_)))
          refine L_op (env' := uS2n75) rfl rfl (v_const (VVal.int .i64 0) (.inr rfl) rfl) rfl ?_
          refine L_nil (K_seq (B_ret ?_))
          refine E_app (.inr rfl) (vres_tmp rfl rfl) (by first | exact BaseOk.refl _ | exact BaseOk.set (BaseOk.refl _) _ rfl) (by first | rfl | simp [VVal.under, VVal.underL, *]) ?_
          first
            | (exfalso; omega)
            | exact ⟨by rw [rcE_1 (rck_fit (by first | assumption | omega))], rfl⟩
            | exact ⟨by rw [rcE_1 (rck_rise (rise_bad (k := k) (by omega) (by first | exact .inl (by assumption) | exact .inr (by assumption) | omega)))], rfl⟩
            | exact ⟨by rw [rcE_1 (rck_knd (by first | exact knd_d (by omega) | exact (knd_a (by omega)).trans (decide_eq_false (by omega)) | exact (knd_b (by omega)).trans (decide_eq_false (by omega)) | exact (knd_c (by omega)).trans (decide_eq_false (by omega))))], rfl⟩
            | exact ⟨by rw [rcE_0 (rck_ok (by omega) hrs (by first | exact (knd_a (by omega)).trans (decide_eq_true (by omega)) | exact (knd_b (by omega)).trans (decide_eq_true (by omega)) | exact (knd_c (by omega)).trans (decide_eq_true (by omega))))], rfl⟩
        ·try simp only [qB] at hg40
         refine L_off (env' := uS2n75) rfl rfl ?_
         refine L_off (env' := uS2n75) rfl rfl ?_
         refine L_off (env' := uS2n75) rfl rfl ?_
         refine L_off (env' := uS2n75) rfl rfl ?_
         refine L_off (env' := uS2n75) rfl rfl ?_
         refine L_off (env' := uS2n75) rfl rfl ?_
         refine L_op (env' := uS2n75) rfl rfl (v_pickFC (VVal.bool false) rfl rfl rfl) rfl ?_
         refine L_op (env' := uS2n75) rfl rfl (v_move (.inr rfl) rfl) rfl ?_
         refine L_nil (K_blk (K_seq (B_seq (B_seq (B_region ?_)))))
         refine L_op (env' := uS2n75) rfl rfl (v_move (.inl rfl) rfl) rfl ?_
         refine L_op (env' := uS2n75) rfl rfl (rfl) rfl ?_
         refine L_nil (K_seq ?_)
         refine B_true rfl rfl ?_
         refine B_seq (B_region ?_)
         refine L_op (env' := uS2n75) rfl rfl (v_const (VVal.int .i64 1) (.inr rfl) rfl) rfl ?_
         refine L_nil (K_seq (B_ret (K_seqR ?_)))
         refine E_app (.inr rfl) (vres_tmp rfl rfl) (by first | exact BaseOk.refl _ | exact BaseOk.set (BaseOk.refl _) _ rfl) (by first | rfl | simp [VVal.under, VVal.underL, *]) ?_
         first
           | (exfalso; omega)
           | exact ⟨by rw [rcE_1 (rck_fit (by first | assumption | omega))], rfl⟩
           | exact ⟨by rw [rcE_1 (rck_rise (rise_bad (k := k) (by omega) (by first | exact .inl (by assumption) | exact .inr (by assumption) | omega)))], rfl⟩
           | exact ⟨by rw [rcE_1 (rck_knd (by first | exact knd_d (by omega) | exact (knd_a (by omega)).trans (decide_eq_false (by omega)) | exact (knd_b (by omega)).trans (decide_eq_false (by omega)) | exact (knd_c (by omega)).trans (decide_eq_false (by omega))))], rfl⟩
           | exact ⟨by rw [rcE_0 (rck_ok (by omega) hrs (by first | exact (knd_a (by omega)).trans (decide_eq_true (by omega)) | exact (knd_b (by omega)).trans (decide_eq_true (by omega)) | exact (knd_c (by omega)).trans (decide_eq_true (by omega))))], rfl⟩
       ·try simp only [qB] at hc39
        refine B_skip (K_blk (K_seq (B_seq (B_seq (B_region ?_)))))
        refine L_op (env' := uS2n75) rfl rfl (v_move (.inl rfl) rfl) rfl ?_
        refine L_op (env' := uS2n75) rfl rfl (rfl) rfl ?_
        refine L_nil (K_seq ?_)
        refine B_true rfl rfl ?_
        refine B_seq (B_region ?_)
        refine L_op (env' := uS2n75) rfl rfl (v_const (VVal.int .i64 1) (.inr rfl) rfl) rfl ?_
        refine L_nil (K_seq (B_ret (K_seqR ?_)))
        refine E_app (.inr rfl) (vres_tmp rfl rfl) (by first | exact BaseOk.refl _ | exact BaseOk.set (BaseOk.refl _) _ rfl) (by first | rfl | simp [VVal.under, VVal.underL, *]) ?_
        first
          | (exfalso; omega)
          | exact ⟨by rw [rcE_1 (rck_fit (by first | assumption | omega))], rfl⟩
          | exact ⟨by rw [rcE_1 (rck_rise (rise_bad (k := k) (by omega) (by first | exact .inl (by assumption) | exact .inr (by assumption) | omega)))], rfl⟩
          | exact ⟨by rw [rcE_1 (rck_knd (by first | exact knd_d (by omega) | exact (knd_a (by omega)).trans (decide_eq_false (by omega)) | exact (knd_b (by omega)).trans (decide_eq_false (by omega)) | exact (knd_c (by omega)).trans (decide_eq_false (by omega))))], rfl⟩
          | exact ⟨by rw [rcE_0 (rck_ok (by omega) hrs (by first | exact (knd_a (by omega)).trans (decide_eq_true (by omega)) | exact (knd_b (by omega)).trans (decide_eq_true (by omega)) | exact (knd_c (by omega)).trans (decide_eq_true (by omega))))], rfl⟩
end Go.Proofs.Ytbngdhlmggdaaaa.VT
