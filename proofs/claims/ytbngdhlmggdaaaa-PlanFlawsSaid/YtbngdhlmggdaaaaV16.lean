/- THE LOGIC: changes of mind (blocks forgotten, slots forgotten, cells that nobody writes any more), ends of functions. -/
import Derived.Test.YtbngdhlmggdaaaaV15
set_option autoImplicit false
set_option linter.unusedVariables false
set_option linter.unusedSimpArgs false
namespace Go.V
open Go Go.RowKit

mutual
theorem VVal.under_mono {n m : Nat} (h : n ≤ m) : ∀ v : VVal, v.under n = true → v.under m = true
  | .ptr (some (_, _)), u => by simp only [VVal.under, decide_eq_true_eq] at u ⊢; omega
  | .slice (some (_, _)) _ _ _ _, u => by simp only [VVal.under, decide_eq_true_eq] at u ⊢; omega
  | .map (some _), u => by simp only [VVal.under, decide_eq_true_eq] at u ⊢; omega
  | .yield _, u => by simp only [VVal.under, decide_eq_true_eq] at u ⊢; omega
  | .func _ a c, u => by
    simp only [VVal.under, Bool.and_eq_true] at u ⊢
    exact ⟨VVal.underL_mono h a u.1, VVal.underL_mono h c u.2⟩
  | .iface _ v, u => by simp only [VVal.under] at u ⊢; exact VVal.under_mono h v u
  | .agg cs, u => by simp only [VVal.under] at u ⊢; exact VVal.underL_mono h cs u
  | .tuple cs, u => by simp only [VVal.under] at u ⊢; exact VVal.underL_mono h cs u
  | .fsl cs _ _ _, u => by simp only [VVal.under] at u ⊢; exact VVal.underL_mono h cs u
  | .fptr cs _, u => by simp only [VVal.under] at u ⊢; exact VVal.underL_mono h cs u
  | .undef, _ => rfl
  | .bool _, _ => rfl
  | .int _ _, _ => rfl
  | .str _, _ => rfl
  | .ptr none, _ => rfl
  | .slice none _ _ _ _, _ => rfl
  | .map none, _ => rfl
  | .nilFunc, _ => rfl
  | .nilIface, _ => rfl
theorem VVal.underL_mono {n m : Nat} (h : n ≤ m) : ∀ vs : List VVal, VVal.underL n vs = true → VVal.underL m vs = true
  | [], _ => rfl
  | v :: vs, u => by
    simp only [VVal.underL, Bool.and_eq_true] at u ⊢
    exact ⟨VVal.under_mono h v u.1, VVal.underL_mono h vs u.2⟩
end

theorem VVal.underL_all {n : Nat} : ∀ {vs : List VVal}, (∀ v, v ∈ vs → v.under n = true) → VVal.underL n vs = true
  | [], _ => rfl
  | v :: vs, h => by
    simp only [VVal.underL, Bool.and_eq_true]
    exact ⟨h v (List.mem_cons_self ..), underL_all fun u hu => h u (List.mem_cons_of_mem _ hu)⟩
theorem VVal.underL_mem {n : Nat} : ∀ {vs : List VVal}, VVal.underL n vs = true → ∀ v, v ∈ vs → v.under n = true
  | [], _, _, h => by cases h
  | u :: vs, h, v, hv => by
    simp only [VVal.underL, Bool.and_eq_true] at h
    rcases List.mem_cons.1 hv with rfl | hv
    · exact h.1
    · exact underL_mem h.2 v hv
theorem VVal.underL_map {α : Type} {n : Nat} {f : α → VVal} {l : List α} (h : ∀ a, (f a).under n = true) : VVal.underL n (l.map f) = true :=
  VVal.underL_all fun v hv => by obtain ⟨a, _, rfl⟩ := List.mem_map.1 hv; exact h a
theorem VVal.underL_app {n : Nat} {a b : List VVal} (ha : VVal.underL n a = true) (hb : VVal.underL n b = true) : VVal.underL n (a ++ b) = true :=
  VVal.underL_all fun v hv => by
    rcases List.mem_append.1 hv with h | h
    · exact VVal.underL_mem ha v h
    · exact VVal.underL_mem hb v h

theorem VBlk.under_mono {n m : Nat} (h : n ≤ m) (k : VBlk) (u : k.under n = true) : k.under m = true := by
  cases k with
  | dead => rfl
  | cells cs rw => exact VVal.underL_mono h cs u
  | map es =>
    simp only [VBlk.under, List.all_eq_true, Bool.and_eq_true] at u ⊢
    exact fun e he => ⟨VVal.under_mono h _ (u e he).1, VVal.under_mono h _ (u e he).2⟩
  | loop st p fn tmps ps as body => exact VVal.underL_mono h tmps u

section
variable {S : Sys} {H0 H : VHeap}

/-- what the blocks below m name lies below m -/
def LowOk (H0 H : VHeap) (m : Nat) : Prop := ∀ i, i < m → (i < H0.length ∧ H[i]? = H0[i]?) ∨ ∀ k, H[i]? = some k → k.under m = true

theorem LowOk.under {ι : Inj} {w : World} {m : Nat} (h : LowOk H0 H m) (hm : H0.length ≤ m) (hb : Base S H0 ι) (s : Sim S.w0 ι H w) : ∀ i k e, i < m → ι i = some e → H[i]? = some k → k.under m = true := by
  intro i k e hi he hk
  rcases h i hi with ⟨h1, h2⟩ | h1
  · obtain ⟨ι0, we, s0, e0⟩ := hb
    rw [h2] at hk
    rw [e0 i h1] at he
    exact VBlk.under_mono hm _ (s0.under he hk)
  · exact h1 k hk

/-- blocks are forgotten -/
theorem Gh.drop {vs : List VVal} (m : Nat) (hm : H0.length ≤ m) (hmH : m ≤ H.length) (hv : VVal.underL m vs = true) (hb : LowOk H0 H m) : Gh S H0 vs H vs (H.take m) := by
  refine fun _ => ⟨by simp; omega, fun w ι xs hB s r => ⟨ι.cut m, ⟨fun b hb => by rw [Inj.cut_m, if_pos (by omega)], fun _ _ h => h, rfl⟩, s.cut hmH (hb.under hm hB s), RelL.cut m _ _ hv r⟩⟩

/-- slots are forgotten -/
def weakL : List VVal → List VVal → Prop
  | [], [] => True
  | v :: vs, u :: us => (u = v ∨ u = .undef) ∧ weakL vs us
  | _, _ => False
theorem relL_weak {ι : Inj} : ∀ {vs us : List VVal} {xs : List Value}, weakL vs us → RelL ι vs xs → RelL ι us xs
  | [], [], _, _, r => r
  | v :: vs, u :: us, xs, h, r => by
    simp only [RelL] at r
    obtain ⟨y, ys, rfl, a, b⟩ := r
    refine .cons ?_ (relL_weak h.2 b)
    rcases h.1 with rfl | rfl
    · exact a
    · exact Rel.undef ι y
  | [], _ :: _, _, h, _ => h.elim
  | _ :: _, [], _, h, _ => h.elim
theorem Gh.weak {vs us : List VVal} (h : weakL vs us) : Gh S H0 vs H us H :=
  fun hl => ⟨hl, fun w ι xs hB s r => ⟨ι, Inj.ex_refl _ _, s, relL_weak h r⟩⟩

/-- slots forgotten, in one pass -/
def mclear : List Bool → VEnv → VEnv
  | true :: ms, _ :: vs => .undef :: mclear ms vs
  | false :: ms, v :: vs => v :: mclear ms vs
  | _, vs => vs
theorem weak_refl : ∀ vs : List VVal, weakL vs vs
  | [] => trivial
  | v :: vs => ⟨.inl rfl, weak_refl vs⟩
theorem weak_mclear : ∀ (ms : List Bool) (vs : List VVal), weakL vs (mclear ms vs)
  | true :: ms, _ :: vs => ⟨.inr rfl, weak_mclear ms vs⟩
  | false :: ms, v :: vs => ⟨.inl rfl, weak_mclear ms vs⟩
  | [], vs => by cases vs <;> exact weak_refl _
  | true :: ms, [] => trivial
  | false :: ms, [] => trivial
theorem Gh.clear {env env' : VEnv} (mask : List Bool) (he : mclear mask env = env') : Gh S H0 env H env' H := he ▸ Gh.weak (weak_mclear mask env)

/-- a block is given up -/
theorem Sim.bury {w0 w : World} {ι : Inj} (s : Sim w0 ι H w) (b : Nat) : Sim w0 ι (H.set b .dead) w := by
  have old : ∀ {d : Nat} {kd : VBlk}, (H.set b .dead)[d]? = some kd → kd ≠ .dead → H[d]? = some kd := by
    intro d kd hd hk
    rw [List.getElem?_set] at hd
    split at hd
    · split at hd
      · cases hd; exact absurd rfl hk
      · cases hd
    · exact hd
  have nd : ∀ {k : VBlk}, k.owns = true → k ≠ .dead := by rintro k hk rfl; simp [VBlk.owns] at hk
  refine ⟨s.below, s.frz, fun r arr c e k hz h g ho => s.fo r arr c e k hz h (old g (nd ho)) ho, fun c e h => by simpa using s.dom c e h, fun c e k h g => ?_, fun c c' e e' k k' h h' g g' o o' hr => s.inj c c' e e' k k' h h' (old g (nd o)) (old g' (nd o')) o o' hr⟩
  by_cases hd : k = .dead
  · subst hd; trivial
  · exact s.blk c e k h (old g hd)
theorem Gh.bury {vs : List VVal} (b : Nat) : Gh S H0 vs H vs (H.set b .dead) :=
  fun hl => ⟨by rw [List.length_set]; exact hl, fun w ι xs hB s r => ⟨ι, Inj.ex_refl _ _, s.bury b, r⟩⟩

/-- numbers that stand for nothing -/
theorem Gh.extend {vs : List VVal} (X : VHeap) : Gh S H0 vs H vs (H ++ X) :=
  fun hl => ⟨by simp; omega, fun w ι xs hB s r => ⟨ι, Inj.ex_refl _ _, s.extend X, r⟩⟩

/-- cells that nobody writes any more -/
theorem Sim.freeze {w0 w : World} {ι : Inj} (s : Sim w0 ι H w) {b : Nat} {e : Ent} {cs : List VVal} (h : ι b = some e) (g : H[b]? = some (.cells cs true)) :
    ∃ ι' arr xs, Inj.ex H.length ι ι' ∧ Sim w0 ι' (H.set b .dead) w ∧ ι'.z e.r = some arr ∧ RelL ι' cs xs ∧ ∀ (i : Nat) x, xs[i]? = some x → arr[e.sh + i]? = some x := by
  obtain ⟨arr, t, fr, cs', ha, hr, hc, hw⟩ := s.blk b e _ h g
  have hz : ∀ r a, ι.z r = some a → r ≠ e.r := fun r a hz hh => s.fo r a b e _ hz h g rfl hh.symm
  have hle : ι.le ⟨ι.m, fun r => if r = e.r then some arr else ι.z r, ι.df⟩ := ⟨fun _ _ h => h, fun r a h => by
    show (if r = e.r then some arr else ι.z r) = some a
    rw [if_neg (hz r a h)]; exact h⟩
  have s1 := s.bury b
  refine ⟨⟨ι.m, fun r => if r = e.r then some arr else ι.z r, ι.df⟩, arr, cs', ⟨fun _ _ => rfl, hle.2, rfl⟩, ?_, if_pos rfl, RelL.mono hle _ _ hr, hc⟩
  refine ⟨s.below, ⟨fun r a hz' => ?_, s.frz.dn, s.frz.dd⟩, fun r a c ec k hz' hc' hg ho => ?_, s1.dom, fun c ec k hc' hg => (s1.blk c ec k hc' hg).mono hle, s1.inj⟩
  · have hz' : (if r = e.r then some arr else ι.z r) = some a := hz'
    by_cases hr' : r = e.r
    · rw [if_pos hr'] at hz'; cases hz'; rw [hr']; exact ⟨t, fr, ha⟩
    · rw [if_neg hr'] at hz'; exact s.frz.fz r a hz'
  · have hz' : (if r = e.r then some arr else ι.z r) = some a := hz'
    by_cases hr' : r = e.r
    · subst hr'
      intro he
      have hcb : c ≠ b := by
        rintro rfl
        rw [List.getElem?_set_self (s.dom c e h)] at hg; cases hg; simp [VBlk.owns] at ho
      rw [List.getElem?_set_ne (Ne.symm hcb)] at hg
      exact hcb (s.inj c b ec e k _ hc' h hg g ho rfl he)
    · rw [if_neg hr'] at hz'
      exact s1.fo r a c ec k hz' hc' hg ho

/-- a slice to such cells -/
theorem Gh.freeze {vs vs' : List VVal} (i : Nat) {b off len cap es : Nat} {ex : Bool} {cs l : List VVal} (hv : vs[i]? = some (.slice (some (b, off)) len cap ex es)) (hg : H[b]? = some (.cells cs true)) (hl : cellsAt cs off (len * es) = some l) (hc : len ≤ cap)
    (he : vs.set i (.fsl l len es false) = vs') : Gh S H0 vs H vs' (H.set b .dead) := by
  subst he
  refine fun hl0 => ⟨by rw [List.length_set]; exact hl0, fun w ι xs hB s r => ?_⟩
  obtain ⟨x, hx, rx⟩ := r.get i _ hv
  simp only [Rel] at rx
  obtain ⟨e, c, h1, h2, h3, h4, rfl⟩ := rx
  obtain ⟨ι', arr, ys, e1, s1, z1, r1, c1⟩ := s.freeze h1 hg
  refine ⟨ι', Inj.ex_le e1 hl0, s1, ?_⟩
  have r2 := RelL.mono (s.le e1) _ _ r
  obtain ⟨k1, k2, k3⟩ := cellsAt_rel r1 hl
  have : xs = xs.set i (.slice (some ⟨e.r, e.sh + off, none⟩) len c) := (set_same hx).symm
  rw [this]
  refine r2.set i ?_
  simp only [Rel]
  refine ⟨_, c, _, rfl, by omega, (fun hq => by cases hq), (fun hq => by cases hq), k1, .inr ⟨e.r, e.sh + off, arr, rfl, z1, fun j y hy => ?_⟩⟩
  · rw [List.getElem?_take] at hy
    split at hy
    · rw [List.getElem?_drop] at hy
      rw [Nat.add_assoc]
      exact c1 _ _ hy
    · cases hy

theorem Gh.freezePtr {vs vs' : List VVal} (i : Nat) {b off : Nat} {cs : List VVal} (hv : vs[i]? = some (.ptr (some (b, off)))) (hg : H[b]? = some (.cells cs true)) (he : vs.set i (.fptr cs off) = vs') : Gh S H0 vs H vs' (H.set b .dead) := by
  subst he
  refine fun hl0 => ⟨by rw [List.length_set]; exact hl0, fun w ι xs hB s r => ?_⟩
  obtain ⟨x, hx, rx⟩ := r.get i _ hv
  simp only [Rel] at rx
  obtain ⟨e, h1, rfl⟩ := rx
  obtain ⟨ι', arr, ys, e1, s1, z1, r1, c1⟩ := s.freeze h1 hg
  refine ⟨ι', Inj.ex_le e1 hl0, s1, ?_⟩
  have r2 := RelL.mono (s.le e1) _ _ r
  have : xs = xs.set i (.pointer (some ⟨e.r, e.sh + off, none⟩)) := (set_same hx).symm
  rw [this]
  refine r2.set i ?_
  simp only [Rel]
  exact ⟨e.r, e.sh, arr, ys, rfl, z1, r1, c1⟩

/-- no slice is an empty one -/
theorem Rel.nilFsl {ι : Inj} {x : Value} {es es' : Nat} {ex : Bool} (h : Rel ι (.slice none 0 0 ex es) x) : Rel ι (.fsl [] 0 es' false) x := by
  simp only [Rel] at h ⊢
  obtain ⟨_, _, h⟩ := h
  cases ex with
  | true => simp at h; subst h; exact ⟨none, 0, [], rfl, Nat.le_refl _, (fun h => by cases h), fun _ => rfl, .nil, .inl trivial⟩
  | false => simp at h; obtain ⟨a, c, rfl⟩ := h; exact ⟨some a, c, [], rfl, Nat.zero_le _, by simp, by simp, .nil, .inl trivial⟩
theorem Gh.freezeNil {vs vs' : List VVal} (i : Nat) {es es' : Nat} {ex : Bool} (hv : vs[i]? = some (.slice none 0 0 ex es)) (he : vs.set i (.fsl [] 0 es' false) = vs') : Gh S H0 vs H vs' H := by
  subst he
  refine fun hl0 => ⟨hl0, fun w ι xs hB s r => ⟨ι, Inj.ex_refl _ _, s, ?_⟩⟩
  obtain ⟨x, hx, rx⟩ := r.get i _ hv
  have : xs = xs.set i x := (set_same hx).symm
  rw [this]
  exact r.set i (Rel.nilFsl rx)

/-- a frozen slice in one of an owned block's cells -/
theorem Gh.cell {vs : List VVal} (c j : Nat) {cs l cs2 : List VVal} {b off len cap es : Nat} {ex : Bool} (hc : H[c]? = some (.cells cs2 true)) (hj : cs2[j]? = some (.slice (some (b, off)) len cap ex es)) (hne : c ≠ b) (hg : H[b]? = some (.cells cs true)) (hl : cellsAt cs off (len * es) = some l) (hcap : len ≤ cap) :
    Gh S H0 vs H vs ((H.set b .dead).set c (.cells (cs2.set j (.fsl l len es false)) true)) := by
  refine fun hl0 => ⟨by simp; exact hl0, fun w ι xs hB s r => ?_⟩
  cases hm : ι c with
  | none =>
    refine ⟨ι, Inj.ex_refl _ _, ?_, r⟩
    have s1 := s.bury b
    have g1 : ∀ (d : Nat) e, ι d = some e → ∀ k, ((H.set b .dead).set c (.cells (cs2.set j (.fsl l len es false)) true))[d]? = some k → (H.set b .dead)[d]? = some k := by
      intro d e hd k hk
      have : d ≠ c := by rintro rfl; rw [hm] at hd; cases hd
      rwa [List.getElem?_set_ne (Ne.symm this)] at hk
    exact ⟨s1.below, s1.frz, fun r arr d e k hz h g ho => s1.fo r arr d e k hz h (g1 d e h k g) ho, fun d e h => by have := s1.dom d e h; simpa using this, fun d e k h g => s1.blk d e k h (g1 d e h k g), fun d d' e e' k k' h h' g g' o o' hr => s1.inj d d' e e' k k' h h' (g1 _ _ h _ g) (g1 _ _ h' _ g') o o' hr⟩
  | some ec =>
    obtain ⟨arr, t, fr, ys, a1, a2, a3, a4⟩ := s.blk c ec _ hm hc
    obtain ⟨y, hy, ry⟩ := a2.get j _ hj
    simp only [Rel] at ry
    obtain ⟨e, cc, h1, h2, h3, h4, rfl⟩ := ry
    obtain ⟨ι', farr, zs, e1, s1, z1, r1, c1⟩ := s.freeze h1 hg
    have hm' : ι' c = some ec := (e1.1 c (s.dom c ec hm)).trans hm
    have hc' : (H.set b .dead)[c]? = some (.cells cs2 true) := by rw [List.getElem?_set_ne (Ne.symm hne)]; exact hc
    refine ⟨ι', Inj.ex_le e1 hl0, ?_, RelL.mono (s.le e1) _ _ r⟩
    obtain ⟨k1, k2, k3⟩ := cellsAt_rel r1 hl
    refine s1.turn hm' hc' rfl _ s1.below (fun _ _ _ => rfl) ⟨arr, t, fr, ys, a1, ?_, a3, a4⟩ (.inl rfl)
    have r2 := RelL.mono (s.le e1) _ _ a2
    have : ys = ys.set j (.slice (some ⟨e.r, e.sh + off, none⟩) len cc) := (set_same hy).symm
    rw [this]
    refine r2.set j ?_
    simp only [Rel]
    refine ⟨_, cc, _, rfl, by omega, (fun hq => by cases hq), (fun hq => by cases hq), k1, .inr ⟨e.r, e.sh + off, farr, rfl, z1, fun j y hy => ?_⟩⟩
    · rw [List.getElem?_take] at hy
      split at hy
      · rw [List.getElem?_drop] at hy
        rw [Nat.add_assoc]
        exact c1 _ _ hy
      · cases hy

/-- a frozen pointer there -/
theorem Gh.cellPtr {vs : List VVal} (c j : Nat) {cs cs2 : List VVal} {b off : Nat} (hc : H[c]? = some (.cells cs2 true)) (hj : cs2[j]? = some (.ptr (some (b, off)))) (hne : c ≠ b) (hg : H[b]? = some (.cells cs true)) :
    Gh S H0 vs H vs ((H.set b .dead).set c (.cells (cs2.set j (.fptr cs off)) true)) := by
  refine fun hl0 => ⟨by simp; exact hl0, fun w ι xs hB s r => ?_⟩
  cases hm : ι c with
  | none =>
    refine ⟨ι, Inj.ex_refl _ _, ?_, r⟩
    have s1 := s.bury b
    have g1 : ∀ (d : Nat) e, ι d = some e → ∀ k, ((H.set b .dead).set c (.cells (cs2.set j (.fptr cs off)) true))[d]? = some k → (H.set b .dead)[d]? = some k := by
      intro d e hd k hk
      have : d ≠ c := by rintro rfl; rw [hm] at hd; cases hd
      rwa [List.getElem?_set_ne (Ne.symm this)] at hk
    exact ⟨s1.below, s1.frz, fun r arr d e k hz h g ho => s1.fo r arr d e k hz h (g1 d e h k g) ho, fun d e h => by have := s1.dom d e h; simpa using this, fun d e k h g => s1.blk d e k h (g1 d e h k g), fun d d' e e' k k' h h' g g' o o' hr => s1.inj d d' e e' k k' h h' (g1 _ _ h _ g) (g1 _ _ h' _ g') o o' hr⟩
  | some ec =>
    obtain ⟨arr, t, fr, ys, a1, a2, a3, a4⟩ := s.blk c ec _ hm hc
    obtain ⟨y, hy, ry⟩ := a2.get j _ hj
    simp only [Rel] at ry
    obtain ⟨e, h1, rfl⟩ := ry
    obtain ⟨ι', farr, zs, e1, s1, z1, r1, c1⟩ := s.freeze h1 hg
    have hm' : ι' c = some ec := (e1.1 c (s.dom c ec hm)).trans hm
    have hc' : (H.set b .dead)[c]? = some (.cells cs2 true) := by rw [List.getElem?_set_ne (Ne.symm hne)]; exact hc
    refine ⟨ι', Inj.ex_le e1 hl0, ?_, RelL.mono (s.le e1) _ _ r⟩
    refine s1.turn hm' hc' rfl _ s1.below (fun _ _ _ => rfl) ⟨arr, t, fr, ys, a1, ?_, a3, a4⟩ (.inl rfl)
    have r2 := RelL.mono (s.le e1) _ _ a2
    have : ys = ys.set j (.pointer (some ⟨e.r, e.sh + off, none⟩)) := (set_same hy).symm
    rw [this]
    refine r2.set j ?_
    simp only [Rel]
    exact ⟨e.r, e.sh, farr, zs, rfl, z1, r1, c1⟩

/-- an empty slice there -/
theorem Gh.cellNil {vs : List VVal} (c j : Nat) {cs2 : List VVal} {es es' : Nat} {ex : Bool} (hc : H[c]? = some (.cells cs2 true)) (hj : cs2[j]? = some (.slice none 0 0 ex es)) :
    Gh S H0 vs H vs (H.set c (.cells (cs2.set j (.fsl [] 0 es' false)) true)) := by
  refine fun hl0 => ⟨by simp; exact hl0, fun w ι xs hB s r => ?_⟩
  cases hm : ι c with
  | none =>
    refine ⟨ι, Inj.ex_refl _ _, ?_, r⟩
    have g1 : ∀ (d : Nat) e, ι d = some e → ∀ k, (H.set c (.cells (cs2.set j (.fsl [] 0 es' false)) true))[d]? = some k → H[d]? = some k := by
      intro d e hd k hk
      have : d ≠ c := by rintro rfl; rw [hm] at hd; cases hd
      rwa [List.getElem?_set_ne (Ne.symm this)] at hk
    exact ⟨s.below, s.frz, fun r arr d e k hz h g ho => s.fo r arr d e k hz h (g1 d e h k g) ho, fun d e h => by have := s.dom d e h; simpa using this, fun d e k h g => s.blk d e k h (g1 d e h k g), fun d d' e e' k k' h h' g g' o o' hr => s.inj d d' e e' k k' h h' (g1 _ _ h _ g) (g1 _ _ h' _ g') o o' hr⟩
  | some ec =>
    obtain ⟨arr, t, fr, ys, a1, a2, a3, a4⟩ := s.blk c ec _ hm hc
    obtain ⟨y, hy, ry⟩ := a2.get j _ hj
    refine ⟨ι, Inj.ex_refl _ _, s.turn hm hc rfl _ s.below (fun _ _ _ => rfl) ⟨arr, t, fr, ys, a1, ?_, a3, a4⟩ (.inl rfl), r⟩
    have : ys = ys.set j y := (set_same hy).symm
    rw [this]
    exact a2.set j (Rel.nilFsl ry)

/-! ### Ends of functions -/
/-- B lies where the caller's heap H lay: what is not as it was names nothing new -/
def BaseOk (H B : VHeap) : Prop := B.length = H.length ∧ ∀ i, i < H.length → B[i]? = H[i]? ∨ ∀ k, B[i]? = some k → k.under H.length = true
theorem BaseOk.refl (H : VHeap) : BaseOk H H := ⟨rfl, fun _ _ => .inl rfl⟩
theorem BaseOk.set {H B : VHeap} (h : BaseOk H B) (b : Nat) {k : VBlk} (hk : k.under H.length = true) : BaseOk H (B.set b k) := by
  refine ⟨by rw [List.length_set]; exact h.1, fun i hi => ?_⟩
  rw [List.getElem?_set]
  split
  · right
    intro k' hk'
    split at hk'
    · cases hk'; exact hk
    · cases hk'
  · exact h.2 i hi

theorem BaseOk.low {H B : VHeap} (h : BaseOk H B) (L : VHeap) : LowOk H (B ++ L) H.length := by
  intro i hi
  rw [List.getElem?_append_left (by rw [h.1]; exact hi)]
  rcases h.2 i hi with h1 | h1
  · exact .inl ⟨hi, h1⟩
  · exact .inr h1

theorem Gh.back {vs : List VVal} {B L : VHeap} (h : BaseOk H B) (hv : VVal.underL H.length vs = true) : Gh S H vs (B ++ L) vs B := by
  have := Gh.drop (S := S) (H0 := H) (H := B ++ L) (vs := vs) H.length (Nat.le_refl _) (by simp; have := h.1; omega) hv (h.low L)
  have e : (B ++ L).take H.length = B := by rw [← h.1]; exact List.take_left' rfl
  rw [e] at this; exact this

/-- all own blocks are forgotten -/
theorem E_app {fn : Func} {ex : Exit} {env : VEnv} {B L : VHeap} {v : VVal} {R : VVal → VHeap → Prop} (hx : ex = .normal ∨ ex = .ret) (hv : vresults S.C.T env (B ++ L) fn.results = some v) (hB : BaseOk H B) (hu : v.under H.length = true) (h : R v B) : fnK S fn H R ex env (B ++ L) :=
  ⟨hx, v, hv, v, B, Gh.back hB (by simp [VVal.underL, hu]), h⟩
/-- .. all stay -/
theorem E_keep {fn : Func} {ex : Exit} {env : VEnv} {G : VHeap} {v : VVal} {R : VVal → VHeap → Prop} (hx : ex = .normal ∨ ex = .ret) (hv : vresults S.C.T env G fn.results = some v) (h : R v G) : fnK S fn H R ex env G :=
  ⟨hx, v, hv, v, G, Gh.refl _ _ _ _, h⟩
/-- .. by a change of mind -/
theorem E_gh {fn : Func} {ex : Exit} {env : VEnv} {G G' : VHeap} {v v' : VVal} {R : VVal → VHeap → Prop} (hx : ex = .normal ∨ ex = .ret) (hv : vresults S.C.T env G fn.results = some v) (g : Gh S H [v] G [v'] G') (h : R v' G') : fnK S fn H R ex env G :=
  ⟨hx, v, hv, v', G', g, h⟩

/-- the answer is a slice of an own block: frozen -/
theorem Gh.fsl {B L : VHeap} {j off len cap es : Nat} {ex : Bool} {cs l : List VVal} (hB : BaseOk H B) (hg : L[j]? = some (.cells cs true)) (hl : cellsAt cs off (len * es) = some l) (hc : len ≤ cap) (hu : VVal.underL H.length l = true) :
    Gh S H [.slice (some (B.length + j, off)) len cap ex es] (B ++ L) [.fsl l len es false] B := by
  have hg' : (B ++ L)[B.length + j]? = some (.cells cs true) := by rw [List.getElem?_append_right (by omega)]; simpa using hg
  refine Gh.trans (Gh.freeze 0 rfl hg' hl hc rfl) ?_
  have e : (B ++ L).set (B.length + j) .dead = B ++ L.set j .dead := by rw [List.set_append_right _ _ (by omega)]; simp
  rw [e]
  exact Gh.back hB (by simp [VVal.underL, VVal.under, hu])

/-- an own block under the number behind the caller's -/
theorem Sim.pack {w0 w : World} {ι : Inj} {G : VHeap} (s : Sim w0 ι G w) {n b : Nat} {e : Ent} {k : VBlk} (h : ι b = some e) (g : G[b]? = some k) (hn : n ≤ b) (hu : ∀ i k e, i < n → ι i = some e → G[i]? = some k → k.under n = true) (hk : k.under n = true) :
    Sim w0 ((ι.cut n).ext n e) (G.take n ++ [k]) w ∧ Inj.ex n ι ((ι.cut n).ext n e) := by
  have hbl := s.dom b e h
  have hlen : (G.take n).length = n := by simp; omega
  have sc := s.cut (m := n) (by omega) hu
  have hex : Inj.ex n ι ((ι.cut n).ext n e) := ⟨fun c hc => by rw [Inj.ext_m, if_neg (by omega), Inj.cut_m, if_pos hc], fun _ _ h => h, rfl⟩
  have get : ∀ {c ec}, ((ι.cut n).ext n e) c = some ec → (c = n ∧ ec = e) ∨ (c < n ∧ (ι.cut n) c = some ec ∧ ι c = some ec) := by
    intro c ec hc
    rw [Inj.ext_m] at hc
    split at hc
    · cases hc; exact .inl ⟨‹_›, rfl⟩
    · have h1 := hc
      rw [Inj.cut_m] at hc
      split at hc
      · exact .inr ⟨‹_›, h1, hc⟩
      · cases hc
  have gl : ∀ {c : Nat} {kc : VBlk}, c < n → (G.take n ++ [k])[c]? = some kc → (G.take n)[c]? = some kc ∧ G[c]? = some kc := by
    intro c kc hc hg
    rw [List.getElem?_append_left (by omega)] at hg
    refine ⟨hg, ?_⟩
    rw [List.getElem?_take, if_pos hc] at hg; exact hg
  have gn : ∀ {kc : VBlk}, (G.take n ++ [k])[n]? = some kc → kc = k := by
    intro kc hg
    rw [List.getElem?_append_right (by omega), hlen] at hg
    simp at hg; exact hg.symm
  refine ⟨⟨s.below, ⟨s.frz.fz, s.frz.dn, s.frz.dd⟩, ?_, ?_, ?_, ?_⟩, hex⟩
  · intro r arr c ec kc hz hc hg ho
    rcases get hc with ⟨rfl, rfl⟩ | ⟨h1, h2, h3⟩
    · have := gn hg; subst this
      exact s.fo r arr b ec _ hz h g ho
    · exact s.fo r arr c ec kc hz h3 (gl h1 hg).2 ho
  · intro c ec hc
    rcases get hc with ⟨rfl, rfl⟩ | ⟨h1, h2, h3⟩
    · simp; omega
    · simp; omega
  · intro c ec kc hc hg
    have hle : (ι.cut n).le ((ι.cut n).ext n e) := by
      refine ⟨fun b' e' h' => ?_, fun _ _ h => h⟩
      have h1 := h'
      rw [Inj.cut_m] at h'
      split at h'
      · rw [Inj.ext_m, if_neg (by omega)]; exact h1
      · cases h'
    rcases get hc with ⟨rfl, rfl⟩ | ⟨h1, h2, h3⟩
    · have := gn hg; subst this
      exact (BRel.cut hk (s.blk b ec _ h g)).mono hle
    · exact (sc.blk c ec kc h2 (gl h1 hg).1).mono hle
  · intro c c' e1 e2 k1 k2 h1 h2 g1 g2 o1 o2 hr
    rcases get h1 with ⟨rfl, rfl⟩ | ⟨a1, a2, a3⟩ <;> rcases get h2 with ⟨rfl, rfl⟩ | ⟨b1, b2, b3⟩
    · rfl
    · have := gn g1; subst this
      have := s.inj b c' e1 e2 k1 k2 h b3 g (gl b1 g2).2 o1 o2 hr
      omega
    · have := gn g2; subst this
      have := s.inj c b e1 e2 k1 k2 a3 h (gl a1 g1).2 g o1 o2 hr
      omega
    · exact s.inj c c' e1 e2 k1 k2 a3 b3 (gl a1 g1).2 (gl b1 g2).2 o1 o2 hr

theorem Gh.pack {B L : VHeap} {j off len cap es : Nat} {ex : Bool} {k : VBlk} (hB : BaseOk H B) (hg : L[j]? = some k) (hu : k.under H.length = true) :
    Gh S H [.slice (some (B.length + j, off)) len cap ex es] (B ++ L) [.slice (some (B.length, off)) len cap ex es] (B ++ [k]) := by
  have hg' : (B ++ L)[B.length + j]? = some k := by rw [List.getElem?_append_right (by omega)]; simpa using hg
  have hBl := hB.1
  refine fun hl0 => ⟨by simp; omega, fun w ι xs hb s r => ?_⟩
  simp only [RelL] at r
  obtain ⟨x, xs', rfl, rx, rfl⟩ := r
  simp only [Rel] at rx
  obtain ⟨e, c, h1, h2, h3, h4, rfl⟩ := rx
  obtain ⟨s1, e1⟩ := s.pack (n := H.length) h1 hg' (by omega) ((hB.low L).under (Nat.le_refl _) hb s) hu
  have e2 : (B ++ L).take H.length = B := by rw [← hBl]; exact List.take_left' rfl
  rw [e2] at s1
  refine ⟨_, e1, s1, .one ?_⟩
  simp only [Rel]
  exact ⟨e, c, by rw [Inj.ext_m, if_pos hBl], h2, h3, h4, rfl⟩

theorem Gh.packPtr {B L : VHeap} {j off : Nat} {k : VBlk} (hB : BaseOk H B) (hg : L[j]? = some k) (hu : k.under H.length = true) :
    Gh S H [.ptr (some (B.length + j, off))] (B ++ L) [.ptr (some (B.length, off))] (B ++ [k]) := by
  have hg' : (B ++ L)[B.length + j]? = some k := by rw [List.getElem?_append_right (by omega)]; simpa using hg
  have hBl := hB.1
  refine fun hl0 => ⟨by simp; omega, fun w ι xs hb s r => ?_⟩
  simp only [RelL] at r
  obtain ⟨x, xs', rfl, rx, rfl⟩ := r
  simp only [Rel] at rx
  obtain ⟨e, h1, rfl⟩ := rx
  obtain ⟨s1, e1⟩ := s.pack (n := H.length) h1 hg' (by omega) ((hB.low L).under (Nat.le_refl _) hb s) hu
  have e2 : (B ++ L).take H.length = B := by rw [← hBl]; exact List.take_left' rfl
  rw [e2] at s1
  refine ⟨_, e1, s1, .one ?_⟩
  simp only [Rel]
  exact ⟨e, by rw [Inj.ext_m, if_pos hBl], rfl⟩
end
end Go.V
