import Derived.Test.YtpekleeidllllaaDoorP14
import Derived.Test.YtpekleeidllllaaDoorP7
/- How many full matchings there are: row by row, and place by place. (own work) -/
set_option autoImplicit true
set_option linter.unusedSimpArgs false
set_option linter.unusedVariables false
namespace Go.V
open Go
theorem sum_add {α : Type} {f g : α → Nat} : ∀ {l : List α}, (l.map fun a => f a + g a).sum = (l.map f).sum + (l.map g).sum
  | [] => rfl
  | a :: l => by simp only [List.map_cons, List.sum_cons, sum_add (l := l)]; omega
theorem sum_zero {α : Type} {f : α → Nat} : ∀ {l : List α}, (∀ a, a ∈ l → f a = 0) → (l.map f).sum = 0
  | [], _ => rfl
  | a :: l, h => by simp only [List.map_cons, List.sum_cons, h a (List.mem_cons_self ..), sum_zero fun b hb => h b (List.mem_cons_of_mem _ hb)]
theorem sum_swap {α β : Type} {f : α → β → Nat} {m : List β} : ∀ {l : List α}, (l.map fun a => (m.map fun b => f a b).sum).sum = (m.map fun b => (l.map fun a => f a b).sum).sum
  | [] => by simp only [List.map_nil, List.sum_nil]; exact (sum_zero fun _ _ => rfl).symm
  | a :: l => by simp only [List.map_cons, List.sum_cons, sum_swap (l := l), sum_add]
/-- row by row -/
def cnT : List (BitVec 64) → BitVec 64 → Nat
  | [], _ => 1
  | w :: l, t => ((pl (w &&& ~~~t) 0).map fun u => cnT l (t ||| 1#64 <<< u)).sum
theorem cnT_mat : ∀ {l : List (BitVec 64)} {t : BitVec 64}, cnT l t ≠ 0 → Mat (msk l t)
  | [], _, _ => ⟨[], matU_nil.2 rfl⟩
  | w :: l, t, h => by
    apply Classical.byContradiction
    intro hn
    refine h (sum_zero fun u hu => ?_)
    apply Classical.byContradiction
    intro h0
    exact hn (mat_consT.2 ⟨u, (mem_pl.1 hu).2.2, cnT_mat h0⟩)
theorem cnT_none {l : List (BitVec 64)} (h : fullB l 0#64 = false) : cnT l 0#64 = 0 := by
  apply Classical.byContradiction
  intro h0
  have := fullB_iff.2 (cnT_mat h0)
  rw [h] at this; cases this
theorem msk_w2 {w s t : BitVec 64} : (w &&& ~~~s) &&& ~~~t = w &&& ~~~(s ||| t) := word_ext fun i hi => by
  simp only [BitVec.getLsbD_and, BitVec.getLsbD_not, BitVec.getLsbD_or, hi, decide_true, Bool.true_and, Bool.not_or, Bool.and_assoc]
theorem cnT_msk : ∀ {l : List (BitVec 64)} {s t : BitVec 64}, cnT (msk l s) t = cnT l (s ||| t)
  | [], _, _ => rfl
  | w :: l, s, t => by
    show cnT ((w &&& ~~~s) :: msk l s) t = _
    rw [cnT, cnT, msk_w2]
    simp only [cnT_msk, BitVec.or_assoc]
/-- the rows of a list of numbers, places below u -/
def cnI (rows : List (BitVec 64)) (u : Nat) : List Nat → BitVec 64 → Nat
  | [], _ => 1
  | i :: L, t => (((pl (rows.getD i 0 &&& ~~~t) 0).filter fun v => decide (v < u)).map fun v => cnI rows u L (t ||| 1#64 <<< v)).sum
theorem cI_64 {rows : List (BitVec 64)} : ∀ {L : List Nat} {t : BitVec 64}, cnI rows 64 L t = cnT (L.map fun i => rows.getD i 0) t
  | [], _ => rfl
  | i :: L, t => by
    rw [cnI, List.map_cons, cnT]
    rw [List.filter_eq_self.2 fun v hv => decide_eq_true (mem_pl.1 hv).2.1]
    simp only [cI_64]
/-- a place that is gone is as good as none -/
theorem cI_gone {rows : List (BitVec 64)} {u : Nat} (hu : u < 64) : ∀ {L : List Nat} {t t' : BitVec 64}, (∀ v, v < u → t'.getLsbD v = t.getLsbD v) → t'.getLsbD u = true → cnI rows (u + 1) L t' = cnI rows u L t
  | [], _, _, _, _ => rfl
  | i :: L, t, t', h, hu' => by
    rw [cnI, cnI]
    have e : (pl (rows.getD i 0 &&& ~~~t') 0).filter (fun v => decide (v < u + 1)) = (pl (rows.getD i 0 &&& ~~~t) 0).filter fun v => decide (v < u) := by
      unfold pl
      rw [List.filter_filter, List.filter_filter]
      apply List.filter_congr
      intro v hv
      have hv64 : v < 64 := by rw [List.mem_range'] at hv; omega
      rw [BitVec.getLsbD_and, BitVec.getLsbD_and, BitVec.getLsbD_not, BitVec.getLsbD_not]
      by_cases h1 : v < u
      · rw [h v h1, decide_eq_true h1, decide_eq_true (show v < u + 1 by omega)]
      · by_cases h2 : v = u
        · subst h2; rw [hu']; simp
        · rw [decide_eq_false h1, decide_eq_false (show ¬ v < u + 1 by omega)]; simp
    rw [e]
    congr 1
    apply List.map_congr_left
    intro v hv
    have hv := (List.mem_filter.1 hv)
    have hvu : v < u := by simpa using hv.2
    refine cI_gone hu (fun x hx => ?_) ?_
    · rw [BitVec.getLsbD_or, BitVec.getLsbD_or, h x hx]
    · rw [BitVec.getLsbD_or, hu']; rfl
theorem pl_split {w : BitVec 64} {u : Nat} (hu : u < 64) : (pl w 0).filter (fun v => decide (v < u + 1)) = (pl w 0).filter (fun v => decide (v < u)) ++ if w.getLsbD u = true then [u] else [] := by
  have e1 : pl w 0 = pl w 0 := rfl
  have hsp : (List.range' 0 64).filter w.getLsbD = (List.range' 0 u).filter w.getLsbD ++ (List.range' u (64 - u)).filter w.getLsbD := by
    have h : List.range' 0 u ++ List.range' (0 + u) (64 - u) = List.range' 0 64 := by
      rw [List.range'_append_1]; congr 1; omega
    rw [Nat.zero_add] at h
    rw [← h, List.filter_append]
  have hlo : ∀ n, u ≤ n → ((List.range' 0 u).filter w.getLsbD).filter (fun v => decide (v < n)) = (List.range' 0 u).filter w.getLsbD := fun n hn => List.filter_eq_self.2 fun v hv => decide_eq_true (by
    have := (List.mem_filter.1 hv).1
    rw [List.mem_range'] at this; omega)
  have hhi : ((List.range' u (64 - u)).filter w.getLsbD).filter (fun v => decide (v < u)) = [] := List.filter_eq_nil_iff.2 fun v hv => by
    have := (List.mem_filter.1 hv).1
    rw [List.mem_range'] at this; simp; omega
  have hhi1 : ((List.range' u (64 - u)).filter w.getLsbD).filter (fun v => decide (v < u + 1)) = if w.getLsbD u = true then [u] else [] := by
    rw [show 64 - u = (63 - u) + 1 by omega, List.range'_succ, List.filter_cons]
    have hrest : ((List.range' (u + 1) (63 - u)).filter w.getLsbD).filter (fun v => decide (v < u + 1)) = [] := List.filter_eq_nil_iff.2 fun v hv => by
      have := (List.mem_filter.1 hv).1
      rw [List.mem_range'] at this; simp; omega
    split
    · rw [List.filter_cons, if_pos (by simp), hrest]
    · exact hrest
  unfold pl
  rw [show 64 - 0 = 64 from rfl, hsp, List.filter_append, List.filter_append, hlo _ (by omega), hlo _ (Nat.le_refl _), hhi, hhi1, List.append_nil]
/-- one place more: none of the rows has it, or one -/
theorem cI_step {rows : List (BitVec 64)} {u : Nat} (hu : u < 64) : ∀ {L : List Nat} {t : BitVec 64}, L.Nodup → t.getLsbD u = false → cnI rows (u + 1) L t = cnI rows u L t + ((L.filter fun i => (rows.getD i 0).getLsbD u).map fun i => cnI rows u (L.erase i) t).sum
  | [], t, _, _ => rfl
  | i :: L, t, hn, ht => by
    have hn' := List.nodup_cons.1 hn
    have hbit : (rows.getD i 0 &&& ~~~t).getLsbD u = (rows.getD i 0).getLsbD u := by
      rw [BitVec.getLsbD_and, BitVec.getLsbD_not, ht]; simp [hu]
    have hstep : ∀ v, v ∈ (pl (rows.getD i 0 &&& ~~~t) 0).filter (fun v => decide (v < u)) → cnI rows (u + 1) L (t ||| 1#64 <<< v) = cnI rows u L (t ||| 1#64 <<< v) + ((L.filter fun i => (rows.getD i 0).getLsbD u).map fun j => cnI rows u (L.erase j) (t ||| 1#64 <<< v)).sum := fun v hv => by
      have hvu : v < u := by simpa using (List.mem_filter.1 hv).2
      exact cI_step hu hn'.2 (by rw [BitVec.getLsbD_or, ht, shl_bit]; simp; omega)
    have herase : ∀ j, j ∈ L.filter (fun i => (rows.getD i 0).getLsbD u) → cnI rows u ((i :: L).erase j) t = cnI rows u (i :: L.erase j) t := fun j hj => by
      have hji : ¬ i = j := fun e => hn'.1 (e ▸ (List.mem_filter.1 hj).1)
      rw [List.erase_cons, if_neg (by simpa using hji)]
    rw [cnI, pl_split hu, List.map_append, List.sum_append, List.map_congr_left hstep, sum_add, sum_swap, hbit]
    rw [List.filter_cons]
    by_cases hr : (rows.getD i 0).getLsbD u = true
    · have hg : cnI rows (u + 1) L (t ||| 1#64 <<< u) = cnI rows u L t := cI_gone hu (fun v hv => by rw [BitVec.getLsbD_or, shl_bit]; simp; omega) (by rw [BitVec.getLsbD_or, shl_bit]; simp [hu])
      simp only [if_pos hr, List.map_cons, List.map_nil, List.sum_cons, List.sum_nil, List.erase_cons_head, hg]
      rw [List.map_congr_left herase]
      simp only [cnI]
      omega
    · simp only [if_neg hr, List.map_nil, List.sum_nil]
      rw [List.map_congr_left herase]
      simp only [cnI]
      omega
/-- the numbers of a set -/
def idx (n s : Nat) : List Nat := (List.range n).filter s.testBit
theorem idx_nodup {n s : Nat} : (idx n s).Nodup := List.Nodup.sublist List.filter_sublist List.nodup_range
theorem idx_erase {n s i s' : Nat} (h : ∀ j, s'.testBit j = (s.testBit j && decide (j ≠ i))) : (idx n s).erase i = idx n s' := by
  rw [List.Nodup.erase_eq_filter idx_nodup]
  unfold idx
  rw [List.filter_filter]
  apply List.filter_congr
  intro j _
  rw [h j, Bool.and_comm]
  congr 1
  by_cases e : j = i
  · subst e; simp
  · simp [e]
/-- how many ways for a set of rows, places below u -/
def cS (rows : List (BitVec 64)) (u s : Nat) : Nat := cnI rows u (idx rows.length s) 0#64
/-- .. with place u, for the rows below k -/
def cP (rows : List (BitVec 64)) (u s : Nat) : Nat → Nat
  | 0 => cS rows u s
  | k + 1 => if s.testBit k = true ∧ (rows.getD k 0).getLsbD u = true then cP rows u s k + cS rows u (s &&& (2 ^ rows.length - 1 - 2 ^ k)) else cP rows u s k
end Go.V
