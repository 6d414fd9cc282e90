/- Certificates as bytes. -/
import Derived.Test.YtbngdhlmggdaaaaV29
import Derived.Test.YtbngdhlmggdaaaaP19
set_option autoImplicit false
set_option linter.unusedVariables false
set_option linter.unusedSimpArgs false
namespace Go.V
open Go Go.RowKit
/-- a number in so many bytes, the highest first -/
def be (w : BitVec 64) (n : Nat) : List UInt8 := (List.range n).map fun i => bW (w >>> (8 * (n - 1 - i)))
theorem be_len (w : BitVec 64) (n : Nat) : (be w n).length = n := by simp [be]
theorem be_at {w : BitVec 64} {n i : Nat} (h : i < n) : (be w n).getD i 0 = bW (w >>> (8 * (n - 1 - i))) := by
  unfold be; rw [List.getD_eq_getElem?_getD, List.getElem?_map, List.getElem?_range h]; rfl
theorem be_step {w : BitVec 64} {n m : Nat} (h1 : 0 < m) (h2 : m ≤ n) : (be w n).take (n - (m - 1)) = (be w n).take (n - m) ++ [bW (w >>> (8 * (m - 1)))] := by
  rw [show n - (m - 1) = n - m + 1 by omega, take_at (d := 0) (by rw [be_len]; omega), be_at (by omega), show n - 1 - (n - m) = m - 1 by omega]
theorem be_drop {w : BitVec 64} {n m : Nat} (h1 : 0 < m) (h2 : m ≤ n) : (be w n).drop (m - 1) = bW (w >>> (8 * (n - m))) :: (be w n).drop m := by
  rw [List.drop_eq_getElem_cons (by rw [be_len]; omega)]
  have h := be_at (w := w) (n := n) (i := m - 1) (by omega)
  rw [List.getD_eq_getElem?_getD, List.getElem?_eq_getElem (by rw [be_len]; omega)] at h
  simp only [Option.getD_some] at h
  rw [h, show n - 1 - (m - 1) = n - m by omega, show m - 1 + 1 = m by omega]
theorem bW_ofInt (n : Int) : bW (BitVec.ofInt 64 n) = bI n := by
  unfold bW bI
  apply UInt8.toNat_inj.1
  rw [UInt8.toNat_ofNat', UInt8.toNat_ofNat', BitVec.toNat_ofInt]
  have h1 : 0 ≤ n % 256 := Int.emod_nonneg _ (by decide)
  have h2 : 0 ≤ n % ((2 : Nat) ^ 64 : Nat) := Int.emod_nonneg _ (by decide)
  omega
theorem be_1 (n : Int) : be (BitVec.ofInt 64 n) 1 = [bI n] := by
  rw [← bW_ofInt]; simp [be]
/-- a step's bytes, a rule's, a certificate's -/
def stB (p : Pb) (us : List Int) (i : Nat) : List UInt8 := be (p.who.getD i 0) 8 ++ [bI (p.fixed.getD i 0 + 1), bI (us.getD i 0)]
def ruB (r : Rul) : List UInt8 := [bI r.kind] ++ be (BitVec.ofInt 64 r.k) 4 ++ [bI r.steps.length] ++ r.steps.map bI
def stsB (p : Pb) (us : List Int) (k : Nat) : List UInt8 := (List.range k).flatMap (stB p us)
def hdB (p : Pb) : List UInt8 := [80, 67, bI p.users, bI p.who.length]
def cB (p : Pb) (us : List Int) : List UInt8 := hdB p ++ stsB p us p.who.length ++ [bI p.rules.length] ++ p.rules.flatMap ruB
theorem stB_len (p : Pb) (us : List Int) (i : Nat) : (stB p us i).length = 10 := by unfold stB; rw [List.length_append, be_len]; rfl
theorem stsB_succ (p : Pb) (us : List Int) (k : Nat) : stsB p us (k + 1) = stsB p us k ++ stB p us k := by unfold stsB; rw [List.range_succ, List.flatMap_append]; simp
theorem stsB_len (p : Pb) (us : List Int) (k : Nat) : (stsB p us k).length = 10 * k := by
  induction k with
  | zero => rfl
  | succ k ih => rw [stsB_succ, List.length_append, ih, stB_len]; omega
theorem ruB_len (r : Rul) : (ruB r).length = 6 + r.steps.length := by
  unfold ruB; simp only [List.length_append, be_len, List.length_map, List.length_cons, List.length_nil]
theorem rusB_len {n : Int} : ∀ rs : List Rul, (∀ r, r ∈ rs → r.steps.length ≤ 12) → (rs.flatMap ruB).length ≤ 18 * rs.length
  | [], _ => by simp
  | r :: rs, h => by
    have h1 := h r (List.mem_cons_self ..)
    have h2 := rusB_len (n := n) rs (fun r hr => h r (List.mem_cons_of_mem _ hr))
    rw [List.flatMap_cons, List.length_append, ruB_len, List.length_cons]; omega
theorem rusB_succ {rs : List Rul} {m : Nat} {d : Rul} (h : m < rs.length) : (rs.take (m + 1)).flatMap ruB = (rs.take m).flatMap ruB ++ ruB (rs.getD m d) := by
  rw [take_at (d := d) h, List.flatMap_append]; simp
/-- what Write answers -/
def eW (p : Pb) (us : List Int) : Int := if pck p = 0 then (if flw p us = [] then 0 else 1) else pck p
def cW (p : Pb) (us : List Int) : List UInt8 := if eW p us = 0 then cB p us else []
theorem eW_1 {p : Pb} {us : List Int} (h : ¬ pck p = 0) : eW p us = pck p := if_neg h
theorem eW_2 {p : Pb} {us : List Int} (h : pck p = 0) (h2 : ¬ flw p us = []) : eW p us = 1 := by unfold eW; rw [if_pos h, if_neg h2]
theorem eW_0 {p : Pb} {us : List Int} (h : pck p = 0) (h2 : flw p us = []) : eW p us = 0 := by unfold eW; rw [if_pos h, if_pos h2]
theorem flw_0len {p : Pb} {us : List Int} (h : flw p us = []) : us.length = p.who.length := by
  unfold flw at h
  split at h
  · cases h
  · rename_i h2; exact Decidable.of_not_not h2
/-! bytes that grow behind a pointer -/
abbrev RB (h : Nat) (X : VHeap) (j : Nat) (v : VVal) (L : List UInt8) : Prop := RG h 1 X j v (L.map iB) L.length
theorem RB.push {h : Nat} {X : VHeap} {j : Nat} {v : VVal} {L : List UInt8} {b : UInt8} (r : RG h 1 X j v (L.map iB ++ [iB b]) (L.length + 1)) : RB h X j v (L ++ [b]) := by
  show RG _ _ _ _ _ _ _
  rw [List.map_append, List.length_append]; exact r
theorem RB.cast {h : Nat} {X : VHeap} {j : Nat} {v : VVal} {L L' : List UInt8} (r : RB h X j v L) (e : L = L') : RB h X j v L' := e ▸ r
theorem RG.app {b es : Nat} {X : VHeap} {j : Nat} {v : VVal} {cs : List VVal} {n : Nat} (r : RG b es X j v cs n) (Y : VHeap) : RG b es (X ++ Y) j v cs n := ⟨get_append r.c, r.l.app Y, r.n⟩
abbrev LB (h : Nat) (X : VHeap) (v : VVal) (L : List UInt8) : Prop := LV h 1 X v (L.map iB) L.length
theorem LB.cast {h : Nat} {X : VHeap} {v : VVal} {L L' : List UInt8} (r : LB h X v L) (e : L = L') : LB h X v L' := e ▸ r
theorem LB.push {h : Nat} {X : VHeap} {v : VVal} {L M : List UInt8} {n : Nat} (r : LV h 1 X v (L.map iB ++ M.map iB) (L.length + n)) (e : n = M.length) : LB h X v (L ++ M) := by
  subst e
  show LV _ _ _ _ _ _
  rw [List.map_append, List.length_append]; exact r
section
variable {T : TypeId → Option VTy} {ρ : Operand → VVal} {B : VHeap} {op : Op}
/-- an append of a list that nobody writes any more to a list that grows -/
theorem v_appXF {h : Nat} {s x : Operand} {ats : Array TypeId} {t u e : TypeId} {z : VTy} {du : TypeDesc} {v : VVal} {Y : VHeap} {cs new : List VVal} {len k : Nat} {ex : Bool}
    (ho : op = .call { callee := .builtin .append, args := #[s, x], argTypes := ats }) (hat : ats = #[t, u]) (hz : velem T t = some (e, z)) (hu : (T u).map (·.desc) = some du) (hdu : isSeq du = true)
    (hs : ρ s = v) (hx : ρ x = .fsl new k z.size ex) (hh : B.length = h) (l : LV h z.size Y v cs len) (hn : new.length = k * z.size) (h1 : new.all VVal.one = true) (hp : 0 < z.size)
    (hb : (len + k) * z.bytes ≤ 140737488355328 ∧ len + k ≤ 140737488355328) (hk : 0 < k) :
    ∃ u G, vop T ρ (B ++ Y) op = some (u, G) ∧ ∃ Y1, u = .slice (some (h + Y.length, 0)) (len + k) (len + k) false z.size ∧ G = B ++ (Y1 ++ [.cells (cs ++ new) true]) ∧ Y1.length = Y.length ∧ (∀ i, vidx v ≠ some (h + i) → Y1[i]? = Y[i]?) ∧
      LV h z.size (Y1 ++ [.cells (cs ++ new) true]) (.slice (some (h + Y.length, 0)) (len + k) (len + k) false z.size) (cs ++ new) (len + k) := by
  subst hh
  have hsrc : srcCells (B ++ Y) z.size k (ρ x) = some new := by
    rw [hx]
    show cellsAt new 0 (k * z.size) = some new
    unfold cellsAt; rw [if_pos (by omega), List.drop_zero, List.take_of_length_le (by omega)]
  have hlen : srcLen (ρ x) = some k := by rw [hx]; rfl
  have hlc : (cs ++ new).length = (len + k) * z.size := by rw [List.length_append, l.1, hn, Nat.add_mul]
  rcases l.2 with ⟨h0, rfl⟩ | ⟨h0, b, rfl, hbk⟩
  · subst h0
    have hcs : cs = [] := List.eq_nil_of_length_eq_zero (by rw [l.1]; omega)
    subst hcs
    refine ⟨.slice (some (B.length + Y.length, 0)) (0 + k) (0 + k) false z.size, B ++ (Y ++ [.cells ([] ++ new) true]), ?_, Y, rfl, rfl, rfl, fun _ _ => rfl, ?_⟩
    · rw [ho, hat]
      simp only [vop, vbuiltin, List.map_cons, List.map_nil, vappend, hs, hz, hlen, hsrc, hu]
      rw [if_pos ⟨hn, h1, hp, by simpa using hb.1, by simpa using hb.2, hdu⟩, if_neg (by simp), if_neg (by omega), if_neg (by decide)]
      simp
    · exact ⟨hlc, .inr ⟨by omega, Y.length, rfl, by simp⟩⟩
  · have hbl : b < Y.length := lt_of_get hbk
    have hg : (B ++ Y)[B.length + b]? = some (.cells cs true) := get_app rfl hbk
    have hold : cellsAt cs 0 (len * z.size) = some cs := by
      unfold cellsAt; rw [if_pos (by rw [l.1]; omega), List.drop_zero, List.take_of_length_le (by rw [l.1]; omega)]
    refine ⟨.slice (some (B.length + Y.length, 0)) (len + k) (len + k) false z.size, B ++ (Y.set b .dead ++ [.cells (cs ++ new) true]), ?_, Y.set b .dead, rfl, rfl, by simp, fun i hi => by rw [List.getElem?_set_ne (fun e => hi (by subst e; rfl))], ?_⟩
    · rw [ho, hat]
      simp only [vop, vbuiltin, List.map_cons, List.map_nil, vappend, hs, hz, hlen, hsrc, hu]
      rw [if_pos ⟨hn, h1, hp, hb.1, hb.2, hdu⟩]
      simp only [hg, if_true]
      rw [if_neg (by omega)]
      simp only [hold]
      rw [if_neg (by decide), set_app rfl]
      simp
    · exact ⟨hlc, .inr ⟨by omega, Y.length, rfl, by rw [List.getElem?_append_right (by simp)]; simp⟩⟩
theorem v_quo256 {t ty : TypeId} {x y : Operand} {a : BitVec 64} (ho : op = .binOp .quo t x y ty) (hx : ρ x = iW a) (hy : ρ y = .int .u64 256) : vop T ρ B op = some (iW (a >>> 8), B) := by
  rw [v_quo ho hx hy (by decide)]
  have h1 : Int.tdiv (a.toNat : Int) 256 = ((a >>> 8).toNat : Int) := by
    rw [BitVec.toNat_ushiftRight, Nat.shiftRight_eq_div_pow]; rfl
  show some (VVal.int .u64 _, B) = some (VVal.int .u64 _, B)
  rw [h1, wrap_wd]
end
end Go.V
