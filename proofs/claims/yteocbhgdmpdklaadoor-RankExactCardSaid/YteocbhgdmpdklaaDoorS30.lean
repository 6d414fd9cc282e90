/- pairs -/
import Derived.Test.YteocbhgdmpdklaaDoorS1
import Derived.Test.YteocbhgdmpdklaaDoorV22
set_option autoImplicit false
set_option linter.unusedVariables false
set_option linter.unusedSimpArgs false
set_option maxHeartbeats 4000000
set_option maxRecDepth 100000
namespace Go.Proofs.YteocbhgdmpdklaaDoor.VT
open Go Go.V


/-- pairs -/
abbrev enP (p : Int × Int) : List VVal := [iI p.1, iI p.2]
abbrev fzP (l : List (Int × Int)) : VVal := .fsl (l.flatMap enP) l.length 2 false
theorem fzP_under (n : Nat) (l : List (Int × Int)) : (fzP l).under n = true := by
  simp only [VVal.under]
  exact VVal.underL_all fun v hv => by
    obtain ⟨p, _, hp⟩ := List.mem_flatMap.1 hv
    simp only [enP, List.mem_cons, List.not_mem_nil, or_false] at hp
    rcases hp with rfl | rfl <;> rfl
theorem under_mapW (n : Nat) (l : List (BitVec 64)) : VVal.underL n (l.map iW) = true := VVal.underL_map fun _ => rfl
theorem under_mapI (n : Nat) (l : List Int) : VVal.underL n (l.map iI) = true := VVal.underL_map fun _ => rfl
theorem under_flatP (n : Nat) (l : List (Int × Int)) : VVal.underL n (l.flatMap enP) = true := fzP_under n l
theorem under_repW (n m : Nat) (w : BitVec 64) : VVal.underL n (List.replicate m (iW w)) = true := VVal.underL_all fun v hv => by rw [(List.mem_replicate.1 hv).2]; rfl
theorem pair_nat : ∀ (l : List (Int × Int)) (k : Nat), k < l.length → cellsAt (l.flatMap enP) (k * 2) 2 = some (enP (l.getD k (0, 0)))
  | [], k, h => by simp at h
  | p :: l, 0, _ => by simp [cellsAt, enP]
  | p :: l, k + 1, h => by
    have := pair_nat l k (by simpa using h)
    unfold cellsAt at this ⊢
    have e : (k + 1) * 2 = 2 + k * 2 := by omega
    rw [e, List.flatMap_cons]
    simp only [List.length_append, List.getD_cons_succ]
    split at this
    · rename_i h1
      rw [if_pos (by simp only [enP, List.length_cons, List.length_nil]; omega), ← List.drop_drop]
      exact this
    · cases this
theorem pair_at {l : List (Int × Int)} {n : Int} (h : 0 ≤ n ∧ n < l.length) : cellsAt (l.flatMap enP) (n.toNat * 2) 2 = some (enP (l.getD n.toNat (0, 0))) := pair_nat l _ (by omega)
theorem pair_get0 {p : Int × Int} : (enP p)[0]? = some (iI p.1) := rfl
theorem cellsAt_get {cs l : List VVal} {off n i : Nat} (h : cellsAt cs off n = some l) (hi : i < n) : cs[off + i]? = l[i]? := by
  unfold cellsAt at h
  split at h
  · cases h
    rw [List.getElem?_take, if_pos hi, List.getElem?_drop]
  · cases h
theorem pair_c0 {l : List (Int × Int)} {n : Int} (h : 0 ≤ n ∧ n < l.length) : (l.flatMap enP)[n.toNat * 2 + 0]? = some (iI (l.getD n.toNat (0, 0)).1) := cellsAt_get (pair_at h) (by omega)
theorem pair_c1 {l : List (Int × Int)} {n : Int} (h : 0 ≤ n ∧ n < l.length) : (l.flatMap enP)[n.toNat * 2 + 1]? = some (iI (l.getD n.toNat (0, 0)).2) := cellsAt_get (pair_at h) (by omega)
theorem flatP_len (l : List (Int × Int)) : (l.flatMap enP).length = l.length * 2 := by
  induction l with
  | nil => rfl
  | cons p l ih => rw [List.flatMap_cons, List.length_append, ih]; simp [enP]; omega
theorem flatP_one (l : List (Int × Int)) : (l.flatMap enP).all VVal.one = true := by
  rw [List.all_eq_true]
  intro v hv
  obtain ⟨p, _, hp⟩ := List.mem_flatMap.1 hv
  simp only [enP, List.mem_cons, List.not_mem_nil, or_false] at hp
  rcases hp with rfl | rfl <;> rfl
theorem flatP_all (l : List (Int × Int)) : cellsAt (l.flatMap enP) 0 (l.length * 2) = some (l.flatMap enP) := by
  unfold cellsAt; rw [if_pos (by rw [flatP_len]; omega), List.drop_zero, List.take_of_length_le (by rw [flatP_len]; omega)]
theorem LV.pair {h : Nat} {X : VHeap} {v : VVal} {l : List (Int × Int)} {p : Int × Int} (r : LV h 2 X v (l.flatMap enP ++ [iI p.1, iI p.2]) (l.length + 1)) : LV h 2 X v ((l ++ [p]).flatMap enP) (l ++ [p]).length := by
  rw [List.flatMap_append, List.length_append]; exact r
end Go.Proofs.YteocbhgdmpdklaaDoor.VT
