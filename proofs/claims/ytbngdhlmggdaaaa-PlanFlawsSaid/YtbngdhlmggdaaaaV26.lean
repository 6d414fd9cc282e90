/- Slices that are cut, appended to in place, cleared; an empty slice, nil or not; lists that begin as an empty literal. (own work) -/
import Derived.Test.YtbngdhlmggdaaaaV25
set_option autoImplicit false
set_option linter.unusedVariables false
set_option linter.unusedSimpArgs false
set_option linter.unusedVariables false
namespace Go.V
open Go Go.RowKit
/-- a frozen slice of nothing: nil, or not -/
theorem F_split0 {S : Sys} {f : FuncId} {H : VHeap} {R : VVal → VHeap → Prop} {es : Nat} {ex : Bool} {rest : List VVal} (h1 : F S f (.slice none 0 0 true 0 :: rest) H R) (h2 : F S f (.slice none 0 0 false 0 :: rest) H R) : F S f (.fsl [] 0 es ex :: rest) H R := by
  intro n w ι args' s r
  obtain ⟨y, ys, e, r1, r2⟩ := r
  simp only [Rel] at r1
  obtain ⟨a, c, xs, rfl, hlc, hcx, hnone, _⟩ := r1
  cases a with
  | none =>
    have := hnone rfl
    subst this
    exact h1 n w ι args' s ⟨_, ys, e, by simp [Rel], r2⟩
  | some ad => exact h2 n w ι args' s ⟨_, ys, e, by simp [Rel], r2⟩
section
variable {T : TypeId → Option VTy} {ρ : Operand → VVal} {H : VHeap} {op : Op}
theorem cells_one {cs : List VVal} {off n : Nat} (h : off + n ≤ cs.length) : cellsAt cs off n = some ((cs.drop off).take n) := by
  unfold cellsAt; rw [if_pos h]
/-- x[lo:hi] of an own slice -/
theorem v_slLH {t e : TypeId} {x : Operand} {lo hi mx : Option Operand} {y z : VTy} {b off len cap l h m : Nat} {ex : Bool} (ho : op = .slice t x lo hi mx) (hy : T t = some y) (hd : y.desc = .slice e) (hz : T e = some z) (hs : z.size = 1) (hx : ρ x = .slice (some (b, off)) len cap ex 1)
    (hb : vbounds len cap (lo.map ρ) (hi.map ρ) (mx.map ρ) = some (l, h, m)) (hmx : (mx.isSome && hi.isNone) = false) (hc : len ≤ cap) (hl : l < m) : vop T ρ H op = some (.slice (some (b, off + l)) (h - l) (m - l) (ex || mx.isSome) 1, H) := by
  rw [ho]
  have h1 : ((mx.map ρ).isSome && (hi.map ρ).isNone) = false := by simpa using hmx
  simp only [vop, vslice, hy, hd, hz, hx, Option.map_some, hb, h1]
  rw [if_neg (by omega), if_pos ⟨hs, .inl hl⟩]
  simp
theorem vb_lo {len cap l : Nat} {kd : IntKind} (h : l ≤ len) (hc : len ≤ cap) : vbounds len cap (some (.int kd l)) none none = some (l, len, cap) := by
  unfold vbounds
  simp only
  rw [if_pos (by omega)]; rfl
theorem vb_hi {len cap h : Nat} {kd : IntKind} (hh : h ≤ cap) : vbounds len cap none (some (.int kd h)) none = some (0, h, cap) := by
  unfold vbounds
  simp only
  rw [if_pos (by omega)]; rfl
theorem vb_lh {len cap l h : Nat} {kd kd2 : IntKind} (hl : l ≤ h) (hh : h ≤ cap) : vbounds len cap (some (.int kd l)) (some (.int kd2 h)) none = some (l, h, cap) := by
  unfold vbounds
  simp only
  rw [if_pos (show (0 : Int) ≤ h ∧ (h : Int) ≤ cap by omega)]
  simp only [Int.toNat_natCast]
  rw [if_pos (by omega)]
theorem vb_lhm {len cap l h m : Nat} {kd kd2 kd3 : IntKind} (hl : l ≤ h) (hh : h ≤ m) (hm : m ≤ cap) : vbounds len cap (some (.int kd l)) (some (.int kd2 h)) (some (.int kd3 m)) = some (l, h, m) := by
  unfold vbounds
  simp only
  rw [if_pos (show (0 : Int) ≤ m ∧ (m : Int) ≤ cap by omega)]
  simp only [Int.toNat_natCast]
  rw [if_pos (show (0 : Int) ≤ h ∧ (h : Int) ≤ m by omega)]
  simp only [Int.toNat_natCast]
  rw [if_pos (by omega)]
/-- x[lo:]: what is behind, as a source -/
theorem v_slTail {t e : TypeId} {x lo : Operand} {y z : VTy} {b n l : Nat} {ex rw' : Bool} {cs : List VVal} {kd : IntKind} (ho : op = .slice t x (some lo) none none) (hy : T t = some y) (hd : y.desc = .slice e) (hz : T e = some z) (hs : z.size = 1) (hx : ρ x = .slice (some (b, 0)) n n ex 1) (hlo : ρ lo = .int kd (l : Nat)) (hl : l ≤ n)
    (hb : H[b]? = some (.cells cs rw')) (hcs : cs.length = n) : ∃ v G, vop T ρ H op = some (v, G) ∧ G = H ∧ srcLen v = some (n - l) ∧ srcCells H 1 (n - l) v = some (cs.drop l) := by
  have hbd : vbounds n n (some (ρ lo)) none none = some (l, n, n) := by rw [hlo]; exact vb_lo hl (Nat.le_refl _)
  by_cases h : l < n
  · have := v_slLH (H := H) (lo := some lo) (hi := none) (mx := none) ho hy hd hz hs hx hbd rfl (Nat.le_refl _) h
    refine ⟨_, _, this, rfl, rfl, ?_⟩
    unfold srcCells
    simp only [Nat.zero_add, hb, Nat.mul_one]
    rw [cells_one (by omega), List.take_of_length_le (by rw [List.length_drop]; omega)]
  · have hln : l = n := by omega
    subst hln
    have hd0 : cs.drop l = [] := List.drop_of_length_le (by omega)
    rw [ho]
    have hb2 : vbounds l l (some (ρ lo)) none none = some (l, l, l) := hbd
    simp only [vop, vslice, hy, hd, hz, hx, Option.map_some, Option.map_none, hb2, Option.isSome_none, Option.isNone_none, Bool.false_and]
    rw [if_neg (by omega)]
    by_cases h0 : l = 0
    · subst h0
      rw [if_pos ⟨hs, .inr ⟨rfl, rfl⟩⟩]
      refine ⟨_, _, rfl, rfl, rfl, ?_⟩
      unfold srcCells
      simp only [Nat.zero_add, hb, Nat.mul_one, Nat.sub_self, Nat.zero_mul]
      rw [cells_one (by omega)]; simp [hd0]
    · rw [if_neg (by omega), if_pos (by simp [hs])]
      simp only [Bool.or_false, Nat.sub_self]
      by_cases hex : ex = true
      · rw [if_pos hex]
        refine ⟨_, _, rfl, rfl, rfl, ?_⟩
        unfold srcCells
        simp only [hb, Nat.zero_mul]
        rw [cells_one (by omega), hd0]; simp
      · rw [if_neg hex]
        refine ⟨_, _, rfl, rfl, rfl, ?_⟩
        unfold srcCells; rw [hd0]
/-- an append in place -/
theorem v_appIn {s x : Operand} {ats : Array TypeId} {t u e : TypeId} {z : VTy} {du : TypeDesc} {cs fs : List VVal} {b n k c : Nat} {ex : Bool}
    (ho : op = .call { callee := .builtin .append, args := #[s, x], argTypes := ats }) (hat : ats = #[t, u]) (hz : velem T t = some (e, z)) (hu : (T u).map (·.desc) = some du) (hdu : isSeq du = true) (hs1 : z.size = 1)
    (hs : ρ s = .slice (some (b, 0)) n c ex 1) (hb : H[b]? = some (.cells cs true)) (hk : srcLen (ρ x) = some k) (hsrc : srcCells H 1 k (ρ x) = some fs) (hn : fs.length = k) (h1 : fs.all VVal.one = true)
    (hby : (n + k) * z.bytes ≤ 140737488355328 ∧ n + k ≤ 140737488355328) (hc : n + k ≤ c) (hl : n ≤ cs.length) : vop T ρ H op = some (.slice (some (b, 0)) (n + k) c ex 1, H.set b (.cells (splice cs n fs) true)) := by
  rw [ho, hat]
  simp only [vop, vbuiltin, List.map_cons, List.map_nil, vappend, hz, hs, hu, hk]
  rw [hs1, hsrc]
  simp only
  rw [if_pos ⟨by omega, h1, by omega, hby.1, hby.2, hdu⟩, if_pos trivial, hb]
  simp only
  rw [if_pos hc]
  by_cases h0 : k = 0
  · subst h0
    rw [if_pos rfl]
    have : fs = [] := List.eq_nil_of_length_eq_zero hn
    subst this
    have hsp : splice cs n [] = cs := by unfold splice; simp
    rw [hsp]
    have : H.set b (.cells cs true) = H := by
      apply List.ext_getElem?
      intro i
      rw [List.getElem?_set]
      by_cases e : b = i
      · subst e; rw [if_pos rfl, hb, if_pos (List.getElem?_eq_some_iff.1 hb).1]
      · rw [if_neg e]
    rw [this]; rfl
  · rw [if_neg h0, if_pos ⟨trivial, by omega⟩]; simp
theorem v_appO2 {s x : Operand} {ats : Array TypeId} {t u e : TypeId} {z : VTy} {du : TypeDesc} {L : VHeap} {cs fs : List VVal} {j n k : Nat} {ex ex2 : Bool}
    (ho : op = .call { callee := .builtin .append, args := #[s, x], argTypes := ats }) (hat : ats = #[t, u]) (hz : velem T t = some (e, z)) (hu : (T u).map (·.desc) = some du) (hdu : isSeq du = true)
    (hs : ρ s = .slice (some (H.length + j, 0)) n n ex z.size) (hj : L[j]? = some (.cells cs true)) (hcs : cs.length = n * z.size) (hx : ρ x = .fsl fs k z.size ex2) (hn : fs.length = k * z.size) (h1 : fs.all VVal.one = true) (hp : 0 < z.size)
    (hb : (n + k) * z.bytes ≤ 140737488355328 ∧ n + k ≤ 140737488355328) :
    ∃ v G, vop T ρ (H ++ L) op = some (v, G) ∧ ∃ Z i ex', G = H ++ Z ∧ v = .slice (some (H.length + i, 0)) (n + k) (n + k) ex' z.size ∧ Z[i]? = some (.cells (cs ++ fs) true) := by
  have hk' : srcLen (ρ x) = some k := by rw [hx]; rfl
  have hsrc : srcCells (H ++ L) z.size k (ρ x) = some fs := by
    rw [hx]
    show cellsAt fs 0 (k * z.size) = some fs
    unfold cellsAt; rw [if_pos (by omega), List.drop_zero, List.take_of_length_le (by omega)]
  have hca : cellsAt cs 0 (n * z.size) = some cs := by
    unfold cellsAt; rw [if_pos (by omega), List.drop_zero, List.take_of_length_le (by omega)]
  have start : ∀ r, (vop T ρ (H ++ L) op = some r ↔ (if n + k ≤ n then (if k = 0 then some (.slice (some (H.length + j, 0)) n n ex z.size, H ++ L) else if true = true ∧ 0 + n * z.size ≤ cs.length then some (.slice (some (H.length + j, 0)) (n + k) n ex z.size, (H ++ L).set (H.length + j) (.cells (splice cs (0 + n * z.size) fs) true)) else none)
      else if ex = true then some (.slice (some ((H ++ L).length, 0)) (n + k) (n + k) false z.size, (H ++ L) ++ [.cells (cs ++ fs) true]) else some (.slice (some ((H ++ L).length, 0)) (n + k) (n + k) false z.size, (H ++ L).set (H.length + j) .dead ++ [.cells (cs ++ fs) true])) = some r) := by
    intro r
    rw [ho, hat]
    simp only [vop, vbuiltin, List.map_cons, List.map_nil, vappend, hz, hs, hu, hk']
    rw [hsrc]
    simp only
    rw [if_pos ⟨hn, h1, hp, hb.1, hb.2, hdu⟩, if_pos trivial, get_app rfl (x := .cells cs true) hj]
    simp only [hca, if_true]
  by_cases h0 : k = 0
  · subst h0
    have hfs : fs = [] := List.eq_nil_of_length_eq_zero (by omega)
    subst hfs
    refine ⟨_, _, (start _).2 (by rw [if_pos (by omega), if_pos rfl]; rfl), L, j, ex, rfl, rfl, by rw [List.append_nil]; exact hj⟩
  · cases ex with
    | true => exact ⟨_, _, (start _).2 (by rw [if_neg (by omega), if_pos rfl]), L ++ [.cells (cs ++ fs) true], L.length, false, by rw [List.append_assoc], by rw [List.length_append], by simp⟩
    | false => exact ⟨_, _, (start _).2 (by rw [if_neg (by omega), if_neg (by simp)]), L.set j .dead ++ [.cells (cs ++ fs) true], L.length, false, by rw [set_app rfl, List.append_assoc], by rw [List.length_append], by
        rw [List.getElem?_append_right (by simp)]; simp⟩
/-- a slice cleared -/
theorem v_clear1 {x : Operand} {ats : Array TypeId} {t e : TypeId} {z : VTy} {b off n c : Nat} {ex : Bool} {cs : List VVal}
    (ho : op = .call { callee := .builtin .clear, args := #[x], argTypes := ats }) (hat : ats = #[t]) (hz : velem T t = some (e, z)) (hs1 : z.size = 1) (h1 : z.size = z.zero.length) (h2 : z.zero.all VVal.one = true) (hx : ρ x = .slice (some (b, off)) n c ex 1) (hb : H[b]? = some (.cells cs true)) (hl : off + n ≤ cs.length) :
    vop T ρ H op = some (.tuple [], H.set b (.cells (splice cs off (repeatCells z.zero n)) true)) := by
  have hlen : (repeatCells z.zero n).length = n := by
    have hz1 : z.zero.length = 1 := by omega
    clear hx hl
    induction n with
    | zero => rfl
    | succ n ih => rw [repeatCells, List.length_append, ih, hz1]; omega
  rw [ho, hat]
  simp only [vop, vbuiltin, List.map_cons, List.map_nil, vclear, hz, hx]
  rw [if_pos ⟨h1, by omega, h2⟩, if_pos hs1.symm]
  unfold vwrite
  simp only [hb]
  rw [if_pos (by rw [hlen]; omega)]
  rfl
end
/-- a list that grows, begun as an empty literal -/
def LVE (h es : Nat) (X : VHeap) (v : VVal) (cs : List VVal) (len : Nat) : Prop := LV h es X v cs len ∨ (len = 0 ∧ cs = [] ∧ ∃ b, v = .slice (some (h + b, 0)) 0 0 true es ∧ X[b]? = some (.cells [] true))
section
variable {h es : Nat} {X : VHeap} {v : VVal} {cs : List VVal} {len : Nat}
theorem LVE.init {b : Nat} (hb : X[b]? = some (.cells [] true)) : LVE h es X (.slice (some (h + b, 0)) 0 0 true es) [] 0 := .inr ⟨rfl, rfl, b, rfl, hb⟩
theorem LVE.frame {X' : VHeap} (l : LVE h es X v cs len) (hf : ∀ i, vidx v = some (h + i) → X'[i]? = X[i]?) : LVE h es X' v cs len := by
  rcases l with l | ⟨h0, h1, b, rfl, h2⟩
  · exact .inl (l.frame hf)
  · exact .inr ⟨h0, h1, b, rfl, by rw [hf b rfl]; exact h2⟩
theorem LVE.app (l : LVE h es X v cs len) (Y : VHeap) : LVE h es (X ++ Y) v cs len := by
  rcases l with l | ⟨h0, h1, b, rfl, h2⟩
  · exact .inl (l.app Y)
  · exact .inr ⟨h0, h1, b, rfl, get_append h2⟩
theorem LVE.ne {n : Nat} (l : LVE h es X v cs len) (hn : X.length ≤ n) : vidx v ≠ some (h + n) := by
  rcases l with l | ⟨h0, h1, b, rfl, h2⟩
  · exact l.ne hn
  · have := (List.getElem?_eq_some_iff.1 h2).1
    simp only [vidx, ne_eq, Option.some.injEq]; omega
theorem LVE.cells (l : LVE h es X v cs len) : v.cells = some [v] := by
  rcases l with l | ⟨_, _, b, rfl, _⟩
  · exact l.cells
  · rfl
theorem LVE.one (l : LVE h es X v cs len) : v.one = true := by
  rcases l with l | ⟨_, _, b, rfl, _⟩
  · exact l.one
  · rfl
end
section
variable {T : TypeId → Option VTy} {ρ : Operand → VVal} {H : VHeap} {op : Op}
theorem v_appXE {s x : Operand} {ats : Array TypeId} {t u e : TypeId} {z : VTy} {du : TypeDesc} {v : VVal} {Y : VHeap} {cs new : List VVal} {len k : Nat} {kx : Nat}
    (ho : op = .call { callee := .builtin .append, args := #[s, x], argTypes := ats }) (hat : ats = #[t, u]) (hz : velem T t = some (e, z)) (hu : (T u).map (·.desc) = some du) (hdu : isSeq du = true)
    (hs : ρ s = v) (hx : ρ x = .slice (some (H.length + Y.length, 0)) k kx true z.size) (l : LVE H.length z.size Y v cs len) (hn : new.length = k * z.size) (h1 : new.all VVal.one = true) (hp : 0 < z.size)
    (hb : (len + k) * z.bytes ≤ 140737488355328 ∧ len + k ≤ 140737488355328) (hk : 0 < k) :
    ∃ u G, vop T ρ (H ++ (Y ++ [.cells new true])) op = some (u, G) ∧ ∃ Y1, u = .slice (some (H.length + (Y.length + 1), 0)) (len + k) (len + k) false z.size ∧ G = H ++ (Y1 ++ [.cells new true, .cells (cs ++ new) true]) ∧ Y1.length = Y.length ∧ (∀ i, vidx v ≠ some (H.length + i) → Y1[i]? = Y[i]?) ∧
      LV H.length z.size (Y1 ++ [.cells new true, .cells (cs ++ new) true]) (.slice (some (H.length + (Y.length + 1), 0)) (len + k) (len + k) false z.size) (cs ++ new) (len + k) := by
  rcases l with l | ⟨rfl, rfl, b, hv, hg⟩
  · exact v_appX ho hat hz hu hdu hs hx l hn h1 hp hb hk
  · have hk' : srcLen (ρ x) = some k := by rw [hx]; rfl
    have hsrc : srcCells (H ++ (Y ++ [.cells new true])) z.size k (ρ x) = some new := by
      rw [hx]
      unfold srcCells
      simp only
      rw [get_app rfl (x := .cells new true) (by simp)]
      simp only
      unfold cellsAt; rw [if_pos (by omega), List.drop_zero, List.take_of_length_le (by omega)]
    refine ⟨.slice (some (H.length + (Y.length + 1), 0)) (0 + k) (0 + k) false z.size, H ++ (Y ++ [.cells new true, .cells ([] ++ new) true]), ?_, Y, rfl, rfl, rfl, fun _ _ => rfl, ?_⟩
    · rw [ho, hat]
      simp only [vop, vbuiltin, List.map_cons, List.map_nil, vappend, hz, hs, hv, hu, hk']
      rw [hsrc]
      simp only
      rw [if_pos ⟨hn, h1, hp, hb.1, hb.2, hdu⟩]
      rw [if_pos trivial, get_app rfl (x := .cells [] true) (get_append hg)]
      simp only
      rw [if_neg (by omega)]
      simp [cellsAt]
    · refine ⟨by simp; exact hn, .inr ⟨by omega, Y.length + 1, rfl, ?_⟩⟩
      rw [List.getElem?_append_right (by omega)]; simp
variable {S : Sys} {H0 : VHeap}
theorem Gh.freezeLVE {vs vs' : List VVal} {X : VHeap} {es : Nat} {v : VVal} {cs : List VVal} {len : Nat} (i : Nat) (l : LVE H.length es X v cs len) (hv : vs[i]? = some v) (he : vs.set i (.fsl cs len es false) = vs') :
    ∃ X', Gh S H0 vs (H ++ X) vs' (H ++ X') ∧ X'.length = X.length ∧ ∀ j, vidx v ≠ some (H.length + j) → X'[j]? = X[j]? := by
  rcases l with l | ⟨rfl, rfl, b, rfl, hg⟩
  · exact Gh.freezeLV i l hv he
  · refine ⟨X.set b .dead, Gh.freezeL i b hv hg (by simp [cellsAt]) (Nat.le_refl _) he, by simp, fun j hj => ?_⟩
    rw [List.getElem?_set_ne]
    rintro rfl
    exact hj rfl
theorem B_ghLVE {H : VHeap} {rd : Option Nat} {env env' : VEnv} {Q : Post} {X : VHeap} {c : Code} {es : Nat} {v : VVal} {cs : List VVal} {len : Nat} (i : Nat) (l : LVE H.length es X v cs len) (hv : env[i]? = some v) (he : env.set i (.fsl cs len es false) = env')
    (h : ∀ X', X'.length = X.length → (∀ j, vidx v ≠ some (H.length + j) → X'[j]? = X[j]?) → B S H0 rd c env' (H ++ X') Q) : B S H0 rd c env (H ++ X) Q := by
  obtain ⟨X', g, h1, h2⟩ := Gh.freezeLVE i l hv he
  exact B_gh g (h X' h1 h2)
end
end Go.V
