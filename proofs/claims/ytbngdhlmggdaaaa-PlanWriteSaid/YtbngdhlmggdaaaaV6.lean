/- Operations, fourth part: new blocks. -/
import Derived.Test.YtbngdhlmggdaaaaV5
set_option autoImplicit false
set_option linter.unusedVariables false
set_option linter.unusedSimpArgs false
namespace Go.V
open Go Go.RowKit
section
variable {P : Program} {T : TypeId → Option VTy}

theorem BRel.newCells {w0 w' : World} {ι' : Inj} {r : Nat} {cs : List VVal} {arr : Array Value} {t : TypeId} (hr : w0.heap.size ≤ r) (hc : RelL ι' cs arr.toList) (hw : w'.heap[r]? = some (.cells arr t)) :
    BRel w0 ι' w' ⟨r, 0, some arr.size⟩ (.cells cs true) :=
  ⟨arr, t, (0, 0), arr.toList, hw, hc, fun i v h => by simpa using h, by simp [hr]⟩

/-- the same of a row of which only the head is known -/
theorem BRel.newHead {w0 w' : World} {ι' : Inj} {r : Nat} {cs : List VVal} {arr : Array Value} {t : TypeId} {cs' : List Value} (hr : w0.heap.size ≤ r) (hc : RelL ι' cs cs') (hh : ∀ (i : Nat) (v : Value), cs'[i]? = some v → arr[i]? = some v) (hw : w'.heap[r]? = some (.cells arr t)) :
    BRel w0 ι' w' ⟨r, 0, some arr.size⟩ (.cells cs true) :=
  ⟨arr, t, (0, 0), cs', hw, hc, fun i v h => by simpa using hh i v h, by simp [hr]⟩

theorem repeat_get (zero : List VVal) : ∀ (n i : Nat), (repeatCells zero n)[i]? = if i < n * zero.length then zero[i % zero.length]? else none
  | 0, i => by simp [repeatCells]
  | n + 1, i => by
    simp only [repeatCells]
    by_cases h : i < zero.length
    · rw [List.getElem?_append_left h, if_pos (by rw [Nat.add_mul]; omega), Nat.mod_eq_of_lt h]
    · rw [List.getElem?_append_right (by omega), repeat_get zero n]
      have e : (i - zero.length) % zero.length = i % zero.length := by
        exact (Nat.mod_eq_sub_mod (by omega)).symm
      by_cases h2 : i < (n + 1) * zero.length
      · rw [if_pos (by rw [Nat.add_mul] at h2; omega), if_pos h2, e]
      · rw [if_neg (by rw [Nat.add_mul] at h2; omega), if_neg h2]

theorem repeat_length (zero : List VVal) : ∀ n, (repeatCells zero n).length = n * zero.length
  | 0 => by simp [repeatCells]
  | n + 1 => by simp [repeatCells, repeat_length zero n, Nat.add_mul, Nat.add_comm]

theorem repeat_rel {ι : Inj} {zero : List VVal} {zs : Array Value} (h : RelL ι zero zs.toList) (n size : Nat) (hs : zero.length = size) (hp : 0 < size) :
    RelL ι (repeatCells zero n) ((Array.range (n * size)).map (zs[· % zs.size]!)).toList := by
  have hz : zs.size = size := by have := h.length; simp at this; omega
  refine RelL.of_get ?_ fun i v x h1 h2 => ?_
  · rw [repeat_length]; simp [hs]
  · rw [repeat_get] at h1
    split at h1
    · rename_i hi
      rw [hs] at hi h1
      obtain ⟨y, hy, ry⟩ := h.get _ _ h1
      have hlt : i % size < zs.size := by rw [hz]; exact Nat.mod_lt _ hp
      simp only [Array.toList_map, Array.toList_range, List.getElem?_map, List.getElem?_range hi, Option.map_some, Option.some.injEq] at h2
      rw [hz] at h2
      have : zs[i % size]! = y := by
        have hy' : zs[i % size]? = some y := by simpa using hy
        simp [getElem!_def, hy']
      rw [this] at h2; subst h2; exact ry
    · cases h1

theorem buildSlice_parts {ι : Inj} {z : VTy} {len : Nat} {parts : List (Nat × VVal)} {parts' : List (Nat × Value)} {cs : List VVal} {zs : Array Value} (h : vfill (fun i => some (i * z.size, z.size)) (repeatCells z.zero len) parts = some cs)
    (hz : RelL ι z.zero zs.toList) (hs : z.size = z.zero.length) (hp : 0 < z.size) (h1 : parts.map (·.1) = parts'.map (·.1)) (h2 : RelL ι (parts.map (·.2)) (parts'.map (·.2))) :
    ∃ l', Instr.fill (fun i => some (i * z.size, z.size)) ((Array.range (len * z.size)).map (zs[· % zs.size]!)) parts' = some l' ∧ RelL ι cs l'.toList :=
  vfill_run (fun i p hp => hp) h (repeat_rel hz len z.size hs.symm hp) h1 h2

theorem velem_ok (hT : TOk P T) {t e : TypeId} {z : VTy} (h : velem T t = some (e, z)) : P.underlying t = some (.slice e) ∧ T e = some z := by
  unfold velem at h
  split at h
  · rename_i y hy
    split at h
    · rename_i e' hd
      simp only [Option.map_eq_some_iff, Prod.mk.injEq] at h
      obtain ⟨z', hz, rfl, rfl⟩ := h
      have := (hT _ _ hy).und
      rw [hd] at this
      exact ⟨this, hz⟩
    · cases h
  · cases h

/-- the cells of a zero value, as the model lays them into a row -/
theorem zero_cells {t : TypeId} {z : VTy} (h : TyOk P t z) : ∃ zv : Value, (∀ w : World, (zeroValue t).run P w = .ok zv w) ∧ ∀ ι, RelL ι z.zero zv.cells.toList := by
  obtain ⟨i, x, _, _, _, _, _, _, hz, rz, _⟩ := h.run_info
  exact ⟨x, hz, rz⟩

/-- EVERY NEW BLOCK. -/
theorem grow_run (hT : TOk P T) {ρ : Operand → VVal} {ρ' : Operand → Value} {o : Oper} {H H' : VHeap} {v : VVal}
    (h : vop T ρ H o.op = some (v, H')) (hc : clsOf T o.op = .grow) :
    ∃ k, H' = H ++ [k] ∧ k.owns = true ∧ ∀ (ι : Inj) (w : World), Ops ι ρ ρ' o.op → ∃ x obj lim, (execOp ρ' o).run P w = .ok (.value x) (w.alloc obj) ∧
      ∀ ι' : Inj, ι.le ι' → ι' H.length = some ⟨w.heap.size, 0, lim⟩ → Rel ι' v x ∧ ∀ w0 w' : World, w0.heap.size ≤ w.heap.size → w'.heap[w.heap.size]? = some obj → BRel w0 ι' w' ⟨w.heap.size, 0, lim⟩ k := by
  obtain ⟨dst, op, ty, pos, aft, gd⟩ := o
  simp only at h hc ⊢
  cases op <;> simp only [clsOf, reduceCtorEq] at hc
  case alloc t =>
    simp only [vop, Option.map_eq_some_iff, vnew, Prod.mk.injEq] at h
    obtain ⟨y, hy, rfl, rfl⟩ := h
    refine ⟨_, rfl, rfl, fun ι w hρ => ?_⟩
    obtain ⟨zv, hz, rz⟩ := zero_cells (hT _ _ hy)
    refine ⟨.pointer (some ⟨w.heap.size, 0, none⟩), .cells zv.cells t, some zv.cells.size, ?_, fun ι' hle hi => ⟨?_, fun w0 w' h0 hw => .newCells h0 (rz ι') hw⟩⟩
    · simp [execOp, Instr.alloc, hz, newVar, newRow]
    · simp only [Rel]; exact ⟨_, hi, rfl⟩
  case box t x =>
    simp only [vop, Option.map_eq_some_iff, vnew, Prod.mk.injEq] at h
    obtain ⟨cs, hcs, rfl, rfl⟩ := h
    refine ⟨_, rfl, rfl, fun ι w hρ => ?_⟩
    have rx := hρ x (by simp [Op.operands])
    refine ⟨.pointer (some ⟨w.heap.size, 0, none⟩), .cells (ρ' x).cells t, some (ρ' x).cells.size, ?_, fun ι' hle hi => ⟨?_, fun w0 w' h0 hw => .newCells h0 (cells_rel (Rel.mono hle _ _ rx) hcs) hw⟩⟩
    · simp [execOp, Instr.box, newVar, newRow]
    · simp only [Rel]; exact ⟨_, hi, rfl⟩
  case buildSlice t n parts =>
    simp only [vop, vbuildSlice] at h
    split at h
    · rename_i e z he
      obtain ⟨hu, hz⟩ := velem_ok hT he
      split at h
      · rename_i hcnd
        obtain ⟨hlim, hsz, hpos⟩ := hcnd
        simp only [Option.map_eq_some_iff, Prod.mk.injEq] at h
        obtain ⟨cs, hcs, rfl, rfl⟩ := h
        refine ⟨_, rfl, rfl, fun ι w hρ => ?_⟩
        obtain ⟨zv, hzv, rz⟩ := zero_cells (hT _ _ hz)
        have hsize := (hT _ _ hz).run_size
        obtain ⟨p1, p2⟩ := parts_rel (ι := ι) (ρ := ρ) (ρ' := ρ') parts (fun x hx => hρ x (by simpa [Op.operands] using hx))
        obtain ⟨l', hl', rl'⟩ := buildSlice_parts (zs := zv.cells) hcs (rz ι) hsz hpos p1 p2
        have hll : l'.size = n * z.size := by
          have h1 := rl'.length
          have h2 : cs.length = (repeatCells z.zero n).length := by
            have : ∀ (pl : Nat → Option (Nat × Nat)) (ps : List (Nat × VVal)) (a b : List VVal), vfill pl a ps = some b → b.length = a.length := by
              intro pl ps
              induction ps with
              | nil => intro a b hab; simp only [vfill, Option.some.injEq] at hab; rw [hab]
              | cons p ps ih =>
                intro a b hab
                simp only [vfill] at hab
                split at hab
                · split at hab
                  · rename_i hcc
                    rw [ih _ _ hab]; simp [splice]; omega
                  · cases hab
                · cases hab
            exact this _ _ _ _ hcs
          rw [repeat_length, ← hsz] at h2
          simp at h1; omega
        refine ⟨.slice (some ⟨w.heap.size, 0, none⟩) n n, .cells l' e, some l'.size, ?_, fun ι' hle hi => ⟨?_, fun w0 w' h0 hw => .newCells h0 (RelL.mono hle _ _ rl') hw⟩⟩
        · have hnz : ¬ (16777216 < n * z.size) := by omega
          simp only [execOp, Instr.buildSlice, Sem.run_bind, run_underlying hu, Result.andThen_ok, hsize]
          by_cases h0 : n * z.size = 0
          · have e0 : Array.range 0 = #[] := rfl
            rw [h0, e0] at hl'
            simp only [Array.map_empty] at hl'
            simp only [h0, e0, Array.map_empty]
            simp at hl'
            simp [hl', newRow]
          · simp only [Array.toList_map] at hl'
            simp [hnz, h0, hzv, hl', newRow]
        · simp only [Rel]; exact ⟨_, n, hi, Nat.le_refl _, fun _ => rfl, fun L hL => by cases hL; omega, rfl⟩
      · cases h
    · cases h
  case makeSlice t l c =>
    simp only [vop, vmakeSlice] at h
    split at h
    · rename_i e z l' c' he hl hcc
      obtain ⟨hu, hz⟩ := velem_ok hT he
      split at h
      · rename_i hcnd
        obtain ⟨c1, c2, c3, c4, hsz, hpos⟩ := hcnd
        simp only [Option.some.injEq, Prod.mk.injEq] at h
        obtain ⟨rfl, rfl⟩ := h
        refine ⟨_, rfl, rfl, fun ι w hρ => ?_⟩
        have rl := hρ l (by simp [Op.operands])
        have rc := hρ c (by simp [Op.operands])
        rw [hl] at rl; rw [hcc] at rc
        simp only [Rel] at rl rc
        obtain ⟨zv, hzv, rz⟩ := zero_cells (hT _ _ hz)
        obtain ⟨i, x, hi, hri, _, hib, _, hsize, _⟩ := (hT _ _ hz).run_info
        have wl : IntKind.i64.wrap l' = l' := by
          show (let m := l' % (2 ^ 64 : Int); if (true && decide (m ≥ (2 ^ 63 : Int))) = true then m - 2 ^ 64 else m) = l'
          have : l' % (2 ^ 64 : Int) = l' := Int.emod_eq_of_lt c1 (by omega)
          simp only [this]
          rw [if_neg (by simp; omega)]
        have wc : IntKind.i64.wrap c' = c' := by
          show (let m := c' % (2 ^ 64 : Int); if (true && decide (m ≥ (2 ^ 63 : Int))) = true then m - 2 ^ 64 else m) = c'
          have : c' % (2 ^ 64 : Int) = c' := Int.emod_eq_of_lt (by omega) (by omega)
          simp only [this]
          rw [if_neg (by simp; omega)]
        have rr := repeat_rel (rz ι) c'.toNat z.size hsz.symm hpos
        refine ⟨.slice (some ⟨w.heap.size, 0, none⟩) l'.toNat c'.toNat, .cells ((Array.range (c'.toNat * z.size)).map (zv.cells[· % zv.cells.size]!)) e, some (c'.toNat * z.size), ?_, fun ι' hle hi' => ⟨?_, fun w0 w' h0 hw => ?_⟩⟩
        · have b1 : ¬ (c' < 0) := by omega
          have b2 : ¬ ((281474976710656 : Int) < i.bytes * c') := by rw [hib, Int.mul_comm]; omega
          have b3 : ¬ (l' < 0) := by omega
          have b4 : ¬ (c' < l') := by omega
          simp only [execOp, Instr.makeSlice, Sem.run_bind, run_underlying hu, Result.andThen_ok, rl, rc, asInt, asIntOf, Sem.run_pure, hri, wl, wc]
          by_cases h0 : c'.toNat * z.size = 0
          · have e0 : Array.range 0 = #[] := rfl
            rw [h0, e0]
            simp [b1, b2, b3, b4, hsize, h0, newRow]
            rw [e0]; simp
          · simp [b1, b2, b3, b4, hsize, h0, newRow, hzv]
        · simp only [Rel]; exact ⟨_, c'.toNat, hi', Nat.le_refl _, fun _ => rfl, fun L hL => by cases hL; omega, rfl⟩
        · have := BRel.newCells (w' := w') (ι' := ι') (t := e) h0 (RelL.mono hle _ _ rr) hw
          simpa using this
      · cases h
    · cases h
  case makeMap t r =>
    cases r with
    | some r => simp only [clsOf, reduceCtorEq] at hc
    | none =>
      simp only [vop, Option.some.injEq, Prod.mk.injEq] at h
      obtain ⟨rfl, rfl⟩ := h
      refine ⟨_, rfl, rfl, fun ι w hρ => ⟨.map (some w.heap.size), .map #[] 0, none, ?_, fun ι' hle hi => ⟨?_, fun w0 w' h0 hw => ⟨#[], 0, hw, h0, by simp [MRel]⟩⟩⟩⟩
      · simp [execOp, Instr.makeMap]
      · simp only [Rel]; exact ⟨_, hi, rfl⟩
  case call c =>
    obtain ⟨callee, args, ats⟩ := c
    cases callee <;> (try simp only [clsOf, reduceCtorEq] at hc)
    rename_i b
    cases b <;> (try simp only [clsOf, reduceCtorEq] at hc)
  case convert =>
    exfalso
    split at hc
    · cases hc
    · split at hc <;> cases hc

end
end Go.V
