/- the reference's orders made: walks -/
import Derived.Test.YteocbhgdmpdklaaDoorS3
import Derived.Test.YteocbhgdmpdklaaDoorV22
set_option autoImplicit false
set_option linter.unusedVariables false
set_option linter.unusedSimpArgs false
set_option maxHeartbeats 4000000
set_option maxRecDepth 100000
namespace Go.Proofs.YteocbhgdmpdklaaDoor.VT
open Go Go.V

abbrev uS4n162 {a0 a1 a2 a3 a4 a5 a6 a7 a8 a9 a10 a11 a12 a13 a14 a15 a16 a17 a18 a19 a20 a21 a22 a23 a24 a25 a26 a27 a28 a29 a30 a31 a32 a33 a34 a35 a36 a37 a38 a39 a40 a41 a42 a43 a44 a45 a46 a47 a48 a49 a50 a51 a52 a53 a54 a55 a56 a57 a58 a59 a60 a61 a62 a63 a64 a65 a66 a67 a68 a69 a70 a71 a72 a73 a74 a75 a76 a77 a78 a79 a80 a81 a82 a83 a84 a85 a86 a87 a88 a89 a90 a91 a92 a93 a94 a95 a96 a97 a98 a99 a100 a101 a102 a103 a104 a105 a106 a107 a108 a109 a110 a111 a112 a113 a114 a115 a116 a117 a118 a119 a120 a121 a122 a123 a124 a125 a126 a127 a128 a129 a130 a131 a132 a133 a134 a135 a136 a137 a138 a139 a140 a141 a142 a143 a144 a145 a146 a147 a148 a149 a150 a151 a152 a153 a154 a155 a156 a157 a158 a159 a160 a161 : VVal} : VEnv := a0 :: a1 :: a2 :: a3 :: a4 :: a5 :: a6 :: a7 :: a8 :: a9 :: a10 :: a11 :: a12 :: a13 :: a14 :: a15 :: a16 :: a17 :: a18 :: a19 :: a20 :: a21 :: a22 :: a23 :: a24 :: a25 :: a26 :: a27 :: a28 :: a29 :: a30 :: a31 :: a32 :: a33 :: a34 :: a35 :: a36 :: a37 :: a38 :: a39 :: a40 :: a41 :: a42 :: a43 :: a44 :: a45 :: a46 :: a47 :: a48 :: a49 :: a50 :: a51 :: a52 :: a53 :: a54 :: a55 :: a56 :: a57 :: a58 :: a59 :: a60 :: a61 :: a62 :: a63 :: a64 :: a65 :: a66 :: a67 :: a68 :: a69 :: a70 :: a71 :: a72 :: a73 :: a74 :: a75 :: a76 :: a77 :: a78 :: a79 :: a80 :: a81 :: a82 :: a83 :: a84 :: a85 :: a86 :: a87 :: a88 :: a89 :: a90 :: a91 :: a92 :: a93 :: a94 :: a95 :: a96 :: a97 :: a98 :: a99 :: a100 :: a101 :: a102 :: a103 :: a104 :: a105 :: a106 :: a107 :: a108 :: a109 :: a110 :: a111 :: a112 :: a113 :: a114 :: a115 :: a116 :: a117 :: a118 :: a119 :: a120 :: a121 :: a122 :: a123 :: a124 :: a125 :: a126 :: a127 :: a128 :: a129 :: a130 :: a131 :: a132 :: a133 :: a134 :: a135 :: a136 :: a137 :: a138 :: a139 :: a140 :: a141 :: a142 :: a143 :: a144 :: a145 :: a146 :: a147 :: a148 :: a149 :: a150 :: a151 :: a152 :: a153 :: a154 :: a155 :: a156 :: a157 :: a158 :: a159 :: a160 :: a161 :: []

abbrev rowB (n : Nat) (R : Nat → Bool) : List VVal := (List.range n).map fun b => VVal.bool (R b)
abbrev rowV (n : Nat) (R : Nat → Bool) : VVal := .fsl (rowB n R) n 1 false
abbrev refV (n : Nat) (R : Nat → Nat → Bool) : VVal := .fptr [iI n, .fsl ((List.range n).map fun a => rowV n (R a)) n 1 false] 0
theorem rget {f : Nat → VVal} {n : Nat} {i : Int} (h : 0 ≤ i ∧ i < n) : ((List.range n).map f)[i.toNat * 1]? = some (f i.toNat) := by
  have : i.toNat < n := by omega
  simp [this]
theorem rget0 {f : Nat → VVal} {n : Nat} {i : Int} (h : 0 ≤ i ∧ i < n) : ((List.range n).map f)[0 + i.toNat * 1]? = some (f i.toNat) := by rw [Nat.zero_add]; exact rget h
theorem rows_under (k n : Nat) (R : Nat → Nat → Bool) : VVal.underL k ((List.range n).map fun a => rowV n (R a)) = true :=
  VVal.underL_map fun a => VVal.underL_map fun b => rfl
theorem ref_under (k n : Nat) (R : Nat → Nat → Bool) : (refV n R).under k = true := by simp [VVal.under, VVal.underL, rows_under]

def refNewV (n : Int) (l : List (Int × Int)) : VVal :=
  if n < 0 ∨ 64 < n ∨ l.all (inR n) = false then .tuple [.ptr none, iI 1]
  else if (List.range n.toNat).any (fun a => rch l n.toNat a a) = true then .tuple [.ptr none, iI 6]
  else .tuple [refV n.toNat (rch l n.toNat), iI 0]

/-- the reference's order as it is made: m rows so far, row i in block rid i -/
structure RefAt (h n m : Nat) (rid : Nat → Nat) (ov : VVal) (M : Nat → Nat → Bool) (X : VHeap) : Prop where
  s0 : X[0]? = some (.cells [iI n, ov] true)
  out : (m = 0 ∧ ov = .slice none 0 0 true 0) ∨ ∃ oid, ov = .slice (some (h + oid, 0)) m m false 1 ∧ oid ≠ 0 ∧ (∀ i, i < m → rid i ≠ oid) ∧ X[oid]? = some (.cells ((List.range m).map fun i => .slice (some (h + rid i, 0)) n n true 1) true) ∧ 0 < m
  sr : ∀ i, i < m → X[rid i]? = some (.cells (rowB n (M i)) true) ∧ rid i ≠ 0
  inj : ∀ i j, i < m → j < m → rid i = rid j → i = j

theorem RefAt.put {h n m : Nat} {rid : Nat → Nat} {ov : VVal} {M : Nat → Nat → Bool} {X : VHeap} (r : RefAt h n m rid ov M X) {a b : Nat} (ha : a < m) (hb : b < n) :
    RefAt h n m rid ov (fun i j => M i j || (decide (i = a) && decide (j = b))) (X.set (rid a) (.cells (splice (rowB n (M a)) (0 + b * 1) [.bool true]) true)) := by
  obtain ⟨hra, hr0⟩ := r.sr a ha
  have hlt : rid a < X.length := (List.getElem?_eq_some_iff.1 hra).1
  refine ⟨?_, ?_, fun i hi => ?_, r.inj⟩
  · rw [List.getElem?_set_ne hr0]; exact r.s0
  · rcases r.out with h1 | ⟨oid, h1, h2, h3, h4, h5⟩
    · exact .inl h1
    · exact .inr ⟨oid, h1, h2, h3, by rw [List.getElem?_set_ne (h3 a ha)]; exact h4, h5⟩
  · refine ⟨?_, (r.sr i hi).2⟩
    by_cases he : i = a
    · subst he
      rw [List.getElem?_set_self hlt]
      congr 2
      have hg : rowB n (M i) = ((List.range n).map (M i)).map VVal.bool := by simp [rowB]
      rw [hg, set_map0 VVal.bool _ b true (by simp; omega), rmap_set]
      simp only [rowB, List.map_map]
      refine List.map_congr_left fun j hj => ?_
      by_cases hj2 : j = b
      · subst hj2; simp
      · simp [hj2]
    · have hne : rid a ≠ rid i := fun e => he (r.inj a i ha hi e).symm
      rw [List.getElem?_set_ne hne, (r.sr i hi).1]
      simp [he]

theorem RefAt.congr {h n m : Nat} {rid : Nat → Nat} {ov : VVal} {M M' : Nat → Nat → Bool} {X : VHeap} (r : RefAt h n m rid ov M X) (e : ∀ i j, i < m → j < n → M i j = M' i j) : RefAt h n m rid ov M' X :=
  ⟨r.s0, r.out, fun i hi => ⟨by rw [(r.sr i hi).1]; congr 2; exact List.map_congr_left fun j hj => by rw [e i j hi (List.mem_range.1 hj)], (r.sr i hi).2⟩, r.inj⟩

theorem cells_all {l : List VVal} {m : Nat} (h : l.length = m) : cellsAt l 0 (m * 1) = some l := by
  subst h; unfold cellsAt; rw [if_pos (by simp), Nat.mul_one, List.drop_zero, List.take_of_length_le (Nat.le_refl _)]
/-- rows frozen one after the other -/
theorem Gh.rows {S : V.Sys} {H : VHeap} {n m : Nat} {rid : Nat → Nat} {ov : VVal} {M : Nat → Nat → Bool} {X : VHeap} (r : RefAt H.length n m rid ov M X) :
    ∃ X', (∀ vs, Gh S H vs (H ++ X) vs (H ++ X')) ∧ X'[0]? = some (.cells [iI n, .fsl ((List.range m).map fun a => rowV n (M a)) m 1 false] true) := by
  rcases r.out with ⟨rfl, rfl⟩ | ⟨oid, rfl, h2, h3, h4, _⟩
  · refine ⟨X.set 0 (.cells [iI n, .fsl [] 0 1 false] true), ?_, ?_⟩
    · exact fun vs => Gh.cellNilL 0 1 (es' := 1) r.s0 rfl
    · rw [List.getElem?_set_self (List.getElem?_eq_some_iff.1 r.s0).1]; rfl
  · have key : ∀ k, k ≤ m → ∃ Y, (∀ vs, Gh S H vs (H ++ X) vs (H ++ Y)) ∧ Y[0]? = X[0]? ∧ Y[oid]? = some (.cells ((List.range m).map fun i => if i < k then rowV n (M i) else .slice (some (H.length + rid i, 0)) n n true 1) true) ∧ ∀ i, k ≤ i → i < m → Y[rid i]? = X[rid i]? := by
      intro k
      induction k with
      | zero => intro _; exact ⟨X, fun vs => Gh.refl _ _ _ _, rfl, by rw [h4]; simp, fun _ _ _ => rfl⟩
      | succ k ih =>
        intro hk
        obtain ⟨Y, g, y0, yo, yr⟩ := ih (by omega)
        have hrk : Y[rid k]? = some (.cells (rowB n (M k)) true) := by rw [yr k (Nat.le_refl _) (by omega)]; exact (r.sr k (by omega)).1
        have g2 := fun vs => Gh.cellL (S := S) (H0 := H) (H := H) (vs := vs) (L := Y) oid k (rid k) (off := 0) (len := n) (cap := n) (es := 1) (ex := true) (l := rowB n (M k)) yo (by simp [show k < m from by omega]) (Ne.symm (h3 k (by omega))) hrk (cells_all (by simp [rowB])) (Nat.le_refl _)
        refine ⟨_, fun vs => Gh.trans (g vs) (g2 vs), ?_, ?_, fun i hi him => ?_⟩
        · rw [List.getElem?_set_ne h2, List.getElem?_set_ne (r.sr k (by omega)).2]; exact y0
        · have hlt : oid < (Y.set (rid k) VBlk.dead).length := by rw [List.length_set]; exact (List.getElem?_eq_some_iff.1 yo).1
          rw [List.getElem?_set_self hlt]
          congr 2
          rw [rmap_set]
          refine List.map_congr_left fun i hi => ?_
          by_cases h : i = k
          · subst h; simp
          · by_cases h' : i < k
            · have : i < k + 1 := by omega
              simp [h, h', this]
            · have : ¬ i < k + 1 := by omega
              simp [h, h', this]
        · rw [List.getElem?_set_ne (Ne.symm (h3 i him)), List.getElem?_set_ne (fun e => by have := r.inj k i (by omega) him e; omega)]
          exact yr i (by omega) him
    obtain ⟨Y, g, y0, yo, _⟩ := key m (Nat.le_refl _)
    rw [r.s0] at y0
    have g2 := fun vs => Gh.cellL (S := S) (H0 := H) (H := H) (vs := vs) (L := Y) 0 1 oid (off := 0) (len := m) (cap := m) (es := 1) (ex := false) (cs := (List.range m).map fun a => rowV n (M a)) (l := (List.range m).map fun a => rowV n (M a)) y0 rfl (Ne.symm h2) (by rw [yo]; congr 2; exact List.map_congr_left fun i hi => by rw [if_pos (List.mem_range.1 hi)]) (cells_all (by simp)) (Nat.le_refl _)
    refine ⟨_, fun vs => Gh.trans (g vs) (g2 vs), ?_⟩
    have hlt : 0 < (Y.set oid VBlk.dead).length := by rw [List.length_set]; exact (List.getElem?_eq_some_iff.1 y0).1
    rw [List.getElem?_set_self hlt]; rfl

theorem RefAt.outOf {h n m : Nat} {rid : Nat → Nat} {ov : VVal} {M : Nat → Nat → Bool} {X : VHeap} (r : RefAt h n m rid ov M X) (hm : 0 < m) : ∃ oid, ov = .slice (some (h + oid, 0)) m m false 1 ∧ X[oid]? = some (.cells ((List.range m).map fun i => .slice (some (h + rid i, 0)) n n true 1) true) := by
  rcases r.out with ⟨h1, _⟩ | ⟨oid, h1, _, _, h2, _⟩
  · omega
  · exact ⟨oid, h1, h2⟩
theorem RefAt.lv {h n m : Nat} {rid : Nat → Nat} {ov : VVal} {M : Nat → Nat → Bool} {X : VHeap} (r : RefAt h n m rid ov M X) : LV h 1 X ov ((List.range m).map fun i => .slice (some (h + rid i, 0)) n n true 1) m := by
  refine ⟨by simp, ?_⟩
  rcases r.out with h1 | ⟨oid, h1, _, _, h2, h3⟩
  · exact .inl h1
  · exact .inr ⟨h3, oid, h1, h2⟩
theorem rep_b (n : Nat) : repeatCells [VVal.bool false] n = rowB n fun _ => false := by
  have : ∀ n : Nat, repeatCells [VVal.bool false] n = List.replicate n (.bool false) := by
    intro n
    induction n with
    | zero => rfl
    | succ n ih => rw [repeatCells, ih, List.replicate_succ]; rfl
  rw [this, rowB, List.map_const', List.length_range]
theorem RefAt.none (h n : Nat) (M : Nat → Nat → Bool) : RefAt h n 0 (fun _ => 0) (.slice none 0 0 true 0) M [.cells [iI n, .slice none 0 0 true 0] true] :=
  ⟨rfl, .inl ⟨rfl, rfl⟩, fun i h => by omega, fun i j h => by omega⟩
abbrev rowK (n : Nat) : VBlk := .cells (repeatCells [VVal.bool false] n) true
theorem RefAt.grow {h n m : Nat} {rid : Nat → Nat} {ov : VVal} {X Y1 : VHeap} (r : RefAt h n m rid ov (fun _ _ => false) X) (hl : Y1.length = (X ++ [rowK n]).length) (hf : ∀ i, vidx ov ≠ some (h + i) → Y1[i]? = (X ++ [rowK n])[i]?) :
    RefAt h n (m + 1) (fun i => if i < m then rid i else X.length) (.slice (some (h + ((X ++ [rowK n]).length + 1), 0)) (m + 1) (m + 1) false 1) (fun _ _ => false)
      ((Y1 ++ [VBlk.cells [.slice (some (h + X.length, 0)) n n true 1] true, VBlk.cells (((List.range m).map fun i => .slice (some (h + rid i, 0)) n n true 1) ++ [.slice (some (h + X.length, 0)) n n true 1]) true]).set 0 (.cells [iI n, .slice (some (h + ((X ++ [rowK n]).length + 1), 0)) (m + 1) (m + 1) false 1] true)) := by
  have hX0 : 0 < X.length := (List.getElem?_eq_some_iff.1 r.s0).1
  simp only [List.length_append, List.length_singleton] at hl ⊢
  have hrl : ∀ i, i < m → rid i < X.length := fun i hi => (List.getElem?_eq_some_iff.1 (r.sr i hi).1).1
  have hrow : ∀ i, i < m → (Y1)[rid i]? = some (.cells (rowB n fun _ => false) true) := fun i hi => by
    rw [hf, List.getElem?_append_left (hrl i hi)]
    · exact (r.sr i hi).1
    · rcases r.out with ⟨_, e⟩ | ⟨oid, e, _, h3, _⟩
      · rw [e]; simp [vidx]
      · rw [e]; simp only [vidx, ne_eq, Option.some.injEq]; have := h3 i hi; omega
  have hnew : Y1[X.length]? = some (.cells (rowB n fun _ => false) true) := by
    rw [hf, List.getElem?_append_right (Nat.le_refl _), Nat.sub_self]
    · rw [← rep_b]; rfl
    · rcases r.out with ⟨_, e⟩ | ⟨oid, e, _, _, h4, _⟩
      · rw [e]; simp [vidx]
      · rw [e]; simp only [vidx, ne_eq, Option.some.injEq]; have := (List.getElem?_eq_some_iff.1 h4).1; omega
  refine ⟨?_, .inr ⟨X.length + 2, rfl, by omega, fun i hi => ?_, ?_, by omega⟩, fun i hi => ?_, fun i j hi hj e => ?_⟩
  · rw [List.getElem?_set_self (by simp)]
  · by_cases h1 : i < m
    · have := hrl i h1; simp only [h1, if_true]; omega
    · simp only [h1, if_false]; omega
  · rw [List.getElem?_set_ne (by omega), List.getElem?_append_right (by omega), hl, show X.length + 2 - (X.length + 1) = 1 from by omega]
    simp only [List.getElem?_cons_succ, List.getElem?_cons_zero]
    have e : ((List.range m).map fun i => VVal.slice (some (h + rid i, 0)) n n true 1) ++ [.slice (some (h + X.length, 0)) n n true 1] = (List.range (m + 1)).map fun i => VVal.slice (some (h + (if i < m then rid i else X.length), 0)) n n true 1 := by
      rw [List.range_succ, List.map_append]
      congr 1
      · exact List.map_congr_left fun i hi => by rw [if_pos (List.mem_range.1 hi)]
      · simp
    rw [e]
  · by_cases h1 : i < m
    · simp only [h1, if_true]
      have hr0 := (r.sr i h1).2
      refine ⟨?_, hr0⟩
      have := hrl i h1
      rw [List.getElem?_set_ne (Ne.symm hr0), List.getElem?_append_left (by omega)]
      exact hrow i h1
    · simp only [h1, if_false]
      refine ⟨?_, by omega⟩
      rw [List.getElem?_set_ne (by omega), List.getElem?_append_left (by omega)]
      exact hnew
  · by_cases h1 : i < m <;> by_cases h2 : j < m
    · simp only [h1, h2, if_true] at e; exact r.inj i j h1 h2 e
    · simp only [h1, h2, if_true, if_false] at e; have := hrl i h1; omega
    · simp only [h1, h2, if_true, if_false] at e; have := hrl j h2; omega
    · omega

/-- Warshall's way, place by place -/
def mixM (E : Nat → Nat → Bool) (k a b i j : Nat) : Bool := if i < a ∨ (i = a ∧ j < b) then rv E (k + 1) i j else rv E k i j
theorem mixM_0 {E : Nat → Nat → Bool} {k i j : Nat} : rv E k i j = mixM E k 0 0 i j := by simp [mixM]
theorem mixM_col {E : Nat → Nat → Bool} {k a b : Nat} : mixM E k a b a k = rv E k a k := by
  unfold mixM; split
  · exact rv_col E k a
  · rfl
theorem mixM_row {E : Nat → Nat → Bool} {k a b j : Nat} : mixM E k a b k j = rv E k k j := by
  unfold mixM; split
  · exact rv_row E k j
  · rfl
theorem mixM_no {E : Nat → Nat → Bool} {k a b i j : Nat} (h : (rv E k a k && rv E k k b) = false) : mixM E k a b i j = mixM E k a (b + 1) i j := by
  unfold mixM
  by_cases h1 : i = a ∧ j = b
  · obtain ⟨rfl, rfl⟩ := h1
    rw [if_neg (by omega), if_pos (by omega)]; simp [rv, h]
  · by_cases h2 : i < a ∨ (i = a ∧ j < b)
    · rw [if_pos h2, if_pos (by omega)]
    · rw [if_neg h2, if_neg (by omega)]
theorem mixM_yes {E : Nat → Nat → Bool} {k a b i j : Nat} (h : (rv E k a k && rv E k k b) = true) : (mixM E k a b i j || (decide (i = a) && decide (j = b))) = mixM E k a (b + 1) i j := by
  unfold mixM
  by_cases h1 : i = a ∧ j = b
  · obtain ⟨rfl, rfl⟩ := h1
    rw [if_neg (by omega), if_pos (by omega)]; simp [rv, h]
  · have h3 : (decide (i = a) && decide (j = b)) = false := by simp; omega
    rw [h3, Bool.or_false]
    by_cases h2 : i < a ∨ (i = a ∧ j < b)
    · rw [if_pos h2, if_pos (by omega)]
    · rw [if_neg h2, if_neg (by omega)]
theorem mixM_nextA {E : Nat → Nat → Bool} {k a m i j : Nat} (hj : j < m) : mixM E k a m i j = mixM E k (a + 1) 0 i j := by
  unfold mixM
  by_cases h2 : i < a ∨ i = a
  · rw [if_pos (by omega), if_pos (by omega)]
  · rw [if_neg (by omega), if_neg (by omega)]
theorem mixM_nextK {E : Nat → Nat → Bool} {k m i j : Nat} (hi : i < m) : mixM E k m 0 i j = rv E (k + 1) i j := by
  unfold mixM; rw [if_pos (by omega)]
theorem edg_take {l : List (Int × Int)} {k i j : Nat} {p : Int × Int} (hk : k < l.length) (hp : l.getD k (0, 0) = p) (h0 : 0 ≤ p.1 ∧ 0 ≤ p.2) : (edg (l.take k) i j || (decide (i = p.1.toNat) && decide (j = p.2.toNat))) = edg (l.take (k + 1)) i j := by
  rw [take_step hk, hp]
  unfold edg
  rw [List.any_append]
  simp only [List.any_cons, List.any_nil, Bool.or_false]
  congr 1
  rw [Bool.eq_iff_iff]
  simp
  omega
theorem ans1 {n : Int} {l : List (Int × Int)} {k : Nat} (hk : k < l.length) (h : ¬ inR n (l.getD k (0, 0)) = true) : refNewV n l = .tuple [.ptr none, iI 1] := by
  rw [refNewV, if_pos (.inr (.inr (all_false hk (by simpa using h))))]

theorem refNew_spec {x : SW} (H : VHeap) (n : Int) (pairs : List (Int × Int)) (hp : pairs.length < 9223372036854775807) : F (psys x) 52 [iI n, fzP pairs] H fun v G => v = refNewV n pairs ∧ G = H := by
  have hp2 : pairs.length ≤ 9223372036854775807 := Nat.le_of_lt hp
  refine F_body Tryd.func52 rfl uS4n162 rfl ?_
  refine B_seq ?_
  refine B_region ?_
  refine L_op (env' := uS4n162) rfl rfl (v_const (VVal.ptr none) (.inr rfl) rfl) rfl ?_
  refine L_op (env' := uS4n162) rfl rfl (v_const (VVal.int .i64 0) (.inr rfl) rfl) rfl ?_
  refine L_nil ?_
  refine K_seq ?_
  refine B_seq ?_
  refine B_seq ?_
  refine B_region ?_
  refine L_op (env' := uS4n162) rfl rfl (v_move (.inl rfl) rfl) rfl ?_
  refine L_op (env' := uS4n162) rfl rfl (rfl) rfl ?_
  refine L_op (env' := uS4n162) rfl rfl (v_move (.inl rfl) rfl) rfl ?_
  refine L_split 16 (env1 := uS4n162) (env2 := uS4n162) rfl rfl rfl (fun hg1 => ?_) (fun hg1 => ?_)
  · try simp only [decide_eq_true_eq, decide_eq_false_iff_not, Bool.not_eq_true', Bool.not_eq_false', bne_iff_ne, beq_iff_eq, Bool.and_eq_true, Bool.or_eq_true, Bool.not_eq_true, ge_iff_le, gt_iff_lt, Int.not_le, Int.not_lt, beq_eq_false_iff_ne, bne_eq_false_iff_eq, ne_eq, Decidable.not_not, wd_zero, wd_one, wd_inj] at hg1
    refine L_off (env' := uS4n162) rfl rfl ?_
    refine L_off (env' := uS4n162) rfl rfl ?_
    refine L_op (env' := uS4n162) rfl rfl (v_pickTC (VVal.bool true) rfl rfl rfl) rfl ?_
    refine L_nil ?_
    refine K_seq ?_
    refine B_true rfl rfl ?_
    refine B_seq ?_
    refine B_region ?_
    refine L_op (env' := uS4n162) rfl rfl (v_const (VVal.ptr none) (.inr rfl) rfl) rfl ?_
    refine L_op (env' := uS4n162) rfl rfl (v_const (VVal.int .i64 1) (.inr rfl) rfl) rfl ?_
    refine L_nil ?_
    refine K_seq ?_
    refine B_ret ?_
    refine K_seqR ?_
    refine E_app (.inr rfl) (vres_tmp2 rfl rfl rfl) (by first | exact BaseOk.refl _ | exact BaseOk.set (BaseOk.refl _) _ rfl) (by first | rfl | simp [VVal.underL, VVal.under, rows_under, *]) ?_
    exact ⟨by rw [refNewV, if_pos (.inl hg1)], rfl⟩
  · try simp only [decide_eq_true_eq, decide_eq_false_iff_not, Bool.not_eq_true', Bool.not_eq_false', bne_iff_ne, beq_iff_eq, Bool.and_eq_true, Bool.or_eq_true, Bool.not_eq_true, ge_iff_le, gt_iff_lt, Int.not_le, Int.not_lt, beq_eq_false_iff_ne, bne_eq_false_iff_eq, ne_eq, Decidable.not_not, wd_zero, wd_one, wd_inj] at hg1
    refine L_op (env' := uS4n162) rfl rfl (v_move (.inl rfl) rfl) rfl ?_
    refine L_op (env' := uS4n162) rfl rfl (rfl) rfl ?_
    refine L_op (env' := uS4n162) rfl rfl (v_pickF rfl rfl rfl) rfl ?_
    refine L_nil ?_
    refine K_seq ?_
    refine B_cond _ rfl (fun hc2 => ?_) (fun hc2 => ?_)
    · try simp only [decide_eq_true_eq, decide_eq_false_iff_not, Bool.not_eq_true', Bool.not_eq_false', bne_iff_ne, beq_iff_eq, Bool.and_eq_true, Bool.or_eq_true, Bool.not_eq_true, ge_iff_le, gt_iff_lt, Int.not_le, Int.not_lt, beq_eq_false_iff_ne, bne_eq_false_iff_eq, ne_eq, Decidable.not_not, wd_zero, wd_one, wd_inj] at hc2
      refine B_seq ?_
      refine B_region ?_
      refine L_op (env' := uS4n162) rfl rfl (v_const (VVal.ptr none) (.inr rfl) rfl) rfl ?_
      refine L_op (env' := uS4n162) rfl rfl (v_const (VVal.int .i64 1) (.inr rfl) rfl) rfl ?_
      refine L_nil ?_
      refine K_seq ?_
      refine B_ret ?_
      refine K_seqR ?_
      refine E_app (.inr rfl) (vres_tmp2 rfl rfl rfl) (by first | exact BaseOk.refl _ | exact BaseOk.set (BaseOk.refl _) _ rfl) (by first | rfl | simp [VVal.underL, VVal.under, rows_under, *]) ?_
      exact ⟨by rw [refNewV, if_pos (.inr (.inl hc2))], rfl⟩
    · try simp only [decide_eq_true_eq, decide_eq_false_iff_not, Bool.not_eq_true', Bool.not_eq_false', bne_iff_ne, beq_iff_eq, Bool.and_eq_true, Bool.or_eq_true, Bool.not_eq_true, ge_iff_le, gt_iff_lt, Int.not_le, Int.not_lt, beq_eq_false_iff_ne, bne_eq_false_iff_eq, ne_eq, Decidable.not_not, wd_zero, wd_one, wd_inj] at hc2
      obtain ⟨m, rfl⟩ : ∃ m : Nat, n = m := ⟨n.toNat, by omega⟩
      refine B_skip ?_
      refine K_seq ?_
      refine B_seq ?_
      refine B_seq ?_
      refine B_region ?_
      refine L_op (env' := uS4n162) rfl rfl (v_const (VVal.int .i64 0) (.inr rfl) rfl) rfl ?_
      refine L_nil ?_
      refine K_seq ?_
      refine B_block ?_
      refine B_clear (false :: false :: true :: true :: true :: true :: false :: true :: true :: true :: true :: true :: true :: true :: true :: true :: true :: true :: true :: true :: true :: true :: true :: true :: true :: true :: true :: true :: true :: true :: true :: true :: true :: true :: true :: true :: true :: true :: true :: true :: true :: true :: true :: true :: true :: true :: true :: true :: true :: true :: true :: true :: true :: true :: true :: true :: true :: true :: true :: true :: true :: true :: true :: true :: true :: true :: true :: true :: true :: true :: true :: true :: true :: true :: true :: true :: true :: true :: true :: true :: true :: true :: true :: true :: true :: true :: true :: true :: true :: true :: true :: true :: true :: true :: true :: true :: true :: true :: true :: true :: true :: true :: true :: true :: true :: true :: true :: true :: true :: true :: true :: true :: true :: true :: true :: true :: true :: true :: true :: true :: true :: true :: true :: true :: true :: true :: true :: true :: true :: true :: true :: true :: true :: true :: true :: true :: true :: true :: true :: true :: true :: true :: true :: true :: true :: true :: true :: true :: true :: true :: true :: true :: true :: true :: true :: true :: true :: true :: true :: true :: true :: true :: []) (env' := uS4n162) rfl ?_
      refine B_loopE (fun (k : Nat) => pairs.length - k) (fun (k : Nat) => [(6, iI (k : Nat))]) (fun (k : Nat) G => (k ≤ pairs.length ∧ ∀ p, p ∈ pairs.take k → inR m p = true) ∧ G = H ++ []) 0 rfl ?_ ?_
      · refine ⟨?_, rfl⟩
        exact ⟨Nat.zero_le _, fun p h => by simp at h⟩
      rintro k _ ⟨⟨hk, hin⟩, rfl⟩
      refine B_env (env' := uS4n162) rfl ?_
      refine B_seq ?_
      refine B_seq ?_
      refine B_region ?_
      refine L_op (env' := uS4n162) rfl rfl (v_move (.inl rfl) rfl) rfl ?_
      refine L_op (env' := uS4n162) rfl rfl (v_move (.inl rfl) rfl) rfl ?_
      refine L_op (env' := uS4n162) rfl rfl (rfl) rfl ?_
      refine L_op (env' := uS4n162) rfl rfl (rfl) rfl ?_
      refine L_nil ?_
      refine K_seq ?_
      refine B_cond _ rfl (fun hc3 => ?_) (fun hc3 => ?_)
      · try simp only [decide_eq_true_eq, decide_eq_false_iff_not, Bool.not_eq_true', Bool.not_eq_false', bne_iff_ne, beq_iff_eq, Bool.and_eq_true, Bool.or_eq_true, Bool.not_eq_true, ge_iff_le, gt_iff_lt, Int.not_le, Int.not_lt, beq_eq_false_iff_ne, bne_eq_false_iff_eq, ne_eq, Decidable.not_not, wd_zero, wd_one, wd_inj] at hc3
        refine B_skip ?_
        refine K_seq ?_
        refine B_seq ?_
        refine B_block ?_
        refine B_seq ?_
        refine B_region ?_
        refine L_op (env' := uS4n162) rfl rfl (v_move (.inl rfl) rfl) rfl ?_
        refine L_op (env' := uS4n162) rfl rfl (v_move (.inl rfl) rfl) rfl ?_
        refine L_op (env' := uS4n162) rfl rfl (by first | exact v_idxF rfl rfl rfl rfl rfl rfl rfl (by first | assumption | omega | (simp [*]; done) | (simp at *; omega)) | exact v_idx rfl rfl rfl rfl rfl rfl rfl (by first | assumption | omega | (simp [*]; done) | (simp at *; omega))) rfl ?_
        refine L_op (env' := uS4n162) rfl rfl (by first | exact v_idxFA rfl rfl rfl rfl rfl rfl (by first | assumption | omega | (simp [*]; done) | (simp at *; omega)) | exact v_idxA rfl rfl rfl rfl rfl rfl (by first | assumption | omega | (simp [*]; done) | (simp at *; omega))) rfl ?_
        refine L_op (env' := uS4n162) rfl rfl (by first | exact v_loadF rfl rfl rfl rfl (by first | exact pair_c0 (by omega) | exact pair_c1 (by omega) | rfl | assumption) | exact v_load rfl rfl rfl rfl (by first | exact get_app rfl rfl | exact get_out (by assumption) | assumption | (simp [*]; done)) (by first | exact pair_c0 (by omega) | exact pair_c1 (by omega) | rfl | assumption)) rfl ?_
        refine L_op (env' := uS4n162) rfl rfl (rfl) rfl ?_
        refine L_op (env' := uS4n162) rfl rfl (v_move (.inl rfl) rfl) rfl ?_
        refine L_split 32 (env1 := uS4n162) (env2 := uS4n162) rfl rfl rfl (fun hg4 => ?_) (fun hg4 => ?_)
        · try simp only [decide_eq_true_eq, decide_eq_false_iff_not, Bool.not_eq_true', Bool.not_eq_false', bne_iff_ne, beq_iff_eq, Bool.and_eq_true, Bool.or_eq_true, Bool.not_eq_true, ge_iff_le, gt_iff_lt, Int.not_le, Int.not_lt, beq_eq_false_iff_ne, bne_eq_false_iff_eq, ne_eq, Decidable.not_not, wd_zero, wd_one, wd_inj] at hg4
          refine L_off (env' := uS4n162) rfl rfl ?_
          refine L_off (env' := uS4n162) rfl rfl ?_
          refine L_off (env' := uS4n162) rfl rfl ?_
          refine L_off (env' := uS4n162) rfl rfl ?_
          refine L_off (env' := uS4n162) rfl rfl ?_
          refine L_off (env' := uS4n162) rfl rfl ?_
          refine L_off (env' := uS4n162) rfl rfl ?_
          refine L_op (env' := uS4n162) rfl rfl (v_pickTC (VVal.bool true) rfl rfl rfl) rfl ?_
          refine L_op (env' := uS4n162) rfl rfl (v_move (.inl rfl) rfl) rfl ?_
          refine L_off (env' := uS4n162) rfl rfl ?_
          refine L_off (env' := uS4n162) rfl rfl ?_
          refine L_off (env' := uS4n162) rfl rfl ?_
          refine L_off (env' := uS4n162) rfl rfl ?_
          refine L_off (env' := uS4n162) rfl rfl ?_
          refine L_off (env' := uS4n162) rfl rfl ?_
          refine L_op (env' := uS4n162) rfl rfl (v_pickTC (VVal.bool true) rfl rfl rfl) rfl ?_
          refine L_op (env' := uS4n162) rfl rfl (v_move (.inl rfl) rfl) rfl ?_
          refine L_off (env' := uS4n162) rfl rfl ?_
          refine L_off (env' := uS4n162) rfl rfl ?_
          refine L_off (env' := uS4n162) rfl rfl ?_
          refine L_off (env' := uS4n162) rfl rfl ?_
          refine L_off (env' := uS4n162) rfl rfl ?_
          refine L_off (env' := uS4n162) rfl rfl ?_
          refine L_off (env' := uS4n162) rfl rfl ?_
          refine L_op (env' := uS4n162) rfl rfl (v_pickTC (VVal.bool true) rfl rfl rfl) rfl ?_
          refine L_nil ?_
          refine K_seq ?_
          refine B_true rfl rfl ?_
          refine B_seq ?_
          refine B_region ?_
          refine L_op (env' := uS4n162) rfl rfl (v_const (VVal.ptr none) (.inr rfl) rfl) rfl ?_
          refine L_op (env' := uS4n162) rfl rfl (v_const (VVal.int .i64 1) (.inr rfl) rfl) rfl ?_
          refine L_nil ?_
          refine K_seq ?_
          refine B_ret ?_
          refine K_blkR ?_
          refine K_seqR ?_
          refine K_loopR ?_
          refine K_blkR ?_
          refine K_seqR ?_
          refine E_app (.inr rfl) (vres_tmp2 rfl rfl rfl) (by first | exact BaseOk.refl _ | exact BaseOk.set (BaseOk.refl _) _ rfl) (by first | rfl | simp [VVal.underL, VVal.under, rows_under, *]) ?_
          refine ⟨(ans1 (k := k) (by omega) ?_).symm, rfl⟩
          simp only [inR, Bool.and_eq_true, decide_eq_true_eq]
          simp only [Int.toNat_natCast] at *
          omega
        · try simp only [decide_eq_true_eq, decide_eq_false_iff_not, Bool.not_eq_true', Bool.not_eq_false', bne_iff_ne, beq_iff_eq, Bool.and_eq_true, Bool.or_eq_true, Bool.not_eq_true, ge_iff_le, gt_iff_lt, Int.not_le, Int.not_lt, beq_eq_false_iff_ne, bne_eq_false_iff_eq, ne_eq, Decidable.not_not, wd_zero, wd_one, wd_inj] at hg4
          refine L_op (env' := uS4n162) rfl rfl (v_move (.inl rfl) rfl) rfl ?_
          refine L_op (env' := uS4n162) rfl rfl (v_move (.inl rfl) rfl) rfl ?_
          refine L_op (env' := uS4n162) rfl rfl (by first | exact v_idxF rfl rfl rfl rfl rfl rfl rfl (by first | assumption | omega | (simp [*]; done) | (simp at *; omega)) | exact v_idx rfl rfl rfl rfl rfl rfl rfl (by first | assumption | omega | (simp [*]; done) | (simp at *; omega))) rfl ?_
          refine L_op (env' := uS4n162) rfl rfl (by first | exact v_idxFA rfl rfl rfl rfl rfl rfl (by first | assumption | omega | (simp [*]; done) | (simp at *; omega)) | exact v_idxA rfl rfl rfl rfl rfl rfl (by first | assumption | omega | (simp [*]; done) | (simp at *; omega))) rfl ?_
          refine L_op (env' := uS4n162) rfl rfl (by first | exact v_loadF rfl rfl rfl rfl (by first | exact pair_c0 (by omega) | exact pair_c1 (by omega) | rfl | assumption) | exact v_load rfl rfl rfl rfl (by first | exact get_app rfl rfl | exact get_out (by assumption) | assumption | (simp [*]; done)) (by first | exact pair_c0 (by omega) | exact pair_c1 (by omega) | rfl | assumption)) rfl ?_
          refine L_op (env' := uS4n162) rfl rfl (v_move (.inl rfl) rfl) rfl ?_
          refine L_op (env' := uS4n162) rfl rfl (rfl) rfl ?_
          refine L_op (env' := uS4n162) rfl rfl (v_pickF rfl rfl rfl) rfl ?_
          refine L_op (env' := uS4n162) rfl rfl (v_move (.inl rfl) rfl) rfl ?_
          refine L_split 41 (env1 := uS4n162) (env2 := uS4n162) rfl rfl rfl (fun hg5 => ?_) (fun hg5 => ?_)
          · try simp only [decide_eq_true_eq, decide_eq_false_iff_not, Bool.not_eq_true', Bool.not_eq_false', bne_iff_ne, beq_iff_eq, Bool.and_eq_true, Bool.or_eq_true, Bool.not_eq_true, ge_iff_le, gt_iff_lt, Int.not_le, Int.not_lt, beq_eq_false_iff_ne, bne_eq_false_iff_eq, ne_eq, Decidable.not_not, wd_zero, wd_one, wd_inj] at hg5
            refine L_off (env' := uS4n162) rfl rfl ?_
            refine L_off (env' := uS4n162) rfl rfl ?_
            refine L_off (env' := uS4n162) rfl rfl ?_
            refine L_off (env' := uS4n162) rfl rfl ?_
            refine L_off (env' := uS4n162) rfl rfl ?_
            refine L_off (env' := uS4n162) rfl rfl ?_
            refine L_op (env' := uS4n162) rfl rfl (v_pickTC (VVal.bool true) rfl rfl rfl) rfl ?_
            refine L_op (env' := uS4n162) rfl rfl (v_move (.inl rfl) rfl) rfl ?_
            refine L_off (env' := uS4n162) rfl rfl ?_
            refine L_off (env' := uS4n162) rfl rfl ?_
            refine L_off (env' := uS4n162) rfl rfl ?_
            refine L_off (env' := uS4n162) rfl rfl ?_
            refine L_off (env' := uS4n162) rfl rfl ?_
            refine L_off (env' := uS4n162) rfl rfl ?_
            refine L_off (env' := uS4n162) rfl rfl ?_
            refine L_op (env' := uS4n162) rfl rfl (v_pickTC (VVal.bool true) rfl rfl rfl) rfl ?_
            refine L_nil ?_
            refine K_seq ?_
            refine B_true rfl rfl ?_
            refine B_seq ?_
            refine B_region ?_
            refine L_op (env' := uS4n162) rfl rfl (v_const (VVal.ptr none) (.inr rfl) rfl) rfl ?_
            refine L_op (env' := uS4n162) rfl rfl (v_const (VVal.int .i64 1) (.inr rfl) rfl) rfl ?_
            refine L_nil ?_
            refine K_seq ?_
            refine B_ret ?_
            refine K_blkR ?_
            refine K_seqR ?_
            refine K_loopR ?_
            refine K_blkR ?_
            refine K_seqR ?_
            refine E_app (.inr rfl) (vres_tmp2 rfl rfl rfl) (by first | exact BaseOk.refl _ | exact BaseOk.set (BaseOk.refl _) _ rfl) (by first | rfl | simp [VVal.underL, VVal.under, rows_under, *]) ?_
            refine ⟨(ans1 (k := k) (by omega) ?_).symm, rfl⟩
            simp only [inR, Bool.and_eq_true, decide_eq_true_eq]
            simp only [Int.toNat_natCast] at *
            omega
          · try simp only [decide_eq_true_eq, decide_eq_false_iff_not, Bool.not_eq_true', Bool.not_eq_false', bne_iff_ne, beq_iff_eq, Bool.and_eq_true, Bool.or_eq_true, Bool.not_eq_true, ge_iff_le, gt_iff_lt, Int.not_le, Int.not_lt, beq_eq_false_iff_ne, bne_eq_false_iff_eq, ne_eq, Decidable.not_not, wd_zero, wd_one, wd_inj] at hg5
            refine L_op (env' := uS4n162) rfl rfl (v_move (.inl rfl) rfl) rfl ?_
            refine L_op (env' := uS4n162) rfl rfl (v_move (.inl rfl) rfl) rfl ?_
            refine L_op (env' := uS4n162) rfl rfl (by first | exact v_idxF rfl rfl rfl rfl rfl rfl rfl (by first | assumption | omega | (simp [*]; done) | (simp at *; omega)) | exact v_idx rfl rfl rfl rfl rfl rfl rfl (by first | assumption | omega | (simp [*]; done) | (simp at *; omega))) rfl ?_
            refine L_op (env' := uS4n162) rfl rfl (by first | exact v_idxFA rfl rfl rfl rfl rfl rfl (by first | assumption | omega | (simp [*]; done) | (simp at *; omega)) | exact v_idxA rfl rfl rfl rfl rfl rfl (by first | assumption | omega | (simp [*]; done) | (simp at *; omega))) rfl ?_
            refine L_op (env' := uS4n162) rfl rfl (by first | exact v_loadF rfl rfl rfl rfl (by first | exact pair_c0 (by omega) | exact pair_c1 (by omega) | rfl | assumption) | exact v_load rfl rfl rfl rfl (by first | exact get_app rfl rfl | exact get_out (by assumption) | assumption | (simp [*]; done)) (by first | exact pair_c0 (by omega) | exact pair_c1 (by omega) | rfl | assumption)) rfl ?_
            refine L_op (env' := uS4n162) rfl rfl (rfl) rfl ?_
            refine L_op (env' := uS4n162) rfl rfl (v_pickF rfl rfl rfl) rfl ?_
            refine L_op (env' := uS4n162) rfl rfl (v_move (.inl rfl) rfl) rfl ?_
            refine L_split 49 (env1 := uS4n162) (env2 := uS4n162) rfl rfl rfl (fun hg6 => ?_) (fun hg6 => ?_)
            · try simp only [decide_eq_true_eq, decide_eq_false_iff_not, Bool.not_eq_true', Bool.not_eq_false', bne_iff_ne, beq_iff_eq, Bool.and_eq_true, Bool.or_eq_true, Bool.not_eq_true, ge_iff_le, gt_iff_lt, Int.not_le, Int.not_lt, beq_eq_false_iff_ne, bne_eq_false_iff_eq, ne_eq, Decidable.not_not, wd_zero, wd_one, wd_inj] at hg6
              refine L_off (env' := uS4n162) rfl rfl ?_
              refine L_off (env' := uS4n162) rfl rfl ?_
              refine L_off (env' := uS4n162) rfl rfl ?_
              refine L_off (env' := uS4n162) rfl rfl ?_
              refine L_off (env' := uS4n162) rfl rfl ?_
              refine L_off (env' := uS4n162) rfl rfl ?_
              refine L_off (env' := uS4n162) rfl rfl ?_
              refine L_op (env' := uS4n162) rfl rfl (v_pickTC (VVal.bool true) rfl rfl rfl) rfl ?_
              refine L_nil ?_
              refine K_seq ?_
              refine B_true rfl rfl ?_
              refine B_seq ?_
              refine B_region ?_
              refine L_op (env' := uS4n162) rfl rfl (v_const (VVal.ptr none) (.inr rfl) rfl) rfl ?_
              refine L_op (env' := uS4n162) rfl rfl (v_const (VVal.int .i64 1) (.inr rfl) rfl) rfl ?_
              refine L_nil ?_
              refine K_seq ?_
              refine B_ret ?_
              refine K_blkR ?_
              refine K_seqR ?_
              refine K_loopR ?_
              refine K_blkR ?_
              refine K_seqR ?_
              refine E_app (.inr rfl) (vres_tmp2 rfl rfl rfl) (by first | exact BaseOk.refl _ | exact BaseOk.set (BaseOk.refl _) _ rfl) (by first | rfl | simp [VVal.underL, VVal.under, rows_under, *]) ?_
              refine ⟨(ans1 (k := k) (by omega) ?_).symm, rfl⟩
              simp only [inR, Bool.and_eq_true, decide_eq_true_eq]
              simp only [Int.toNat_natCast] at *
              omega
            · try simp only [decide_eq_true_eq, decide_eq_false_iff_not, Bool.not_eq_true', Bool.not_eq_false', bne_iff_ne, beq_iff_eq, Bool.and_eq_true, Bool.or_eq_true, Bool.not_eq_true, ge_iff_le, gt_iff_lt, Int.not_le, Int.not_lt, beq_eq_false_iff_ne, bne_eq_false_iff_eq, ne_eq, Decidable.not_not, wd_zero, wd_one, wd_inj] at hg6
              refine L_op (env' := uS4n162) rfl rfl (v_move (.inl rfl) rfl) rfl ?_
              refine L_op (env' := uS4n162) rfl rfl (v_move (.inl rfl) rfl) rfl ?_
              refine L_op (env' := uS4n162) rfl rfl (by first | exact v_idxF rfl rfl rfl rfl rfl rfl rfl (by first | assumption | omega | (simp [*]; done) | (simp at *; omega)) | exact v_idx rfl rfl rfl rfl rfl rfl rfl (by first | assumption | omega | (simp [*]; done) | (simp at *; omega))) rfl ?_
              refine L_op (env' := uS4n162) rfl rfl (by first | exact v_idxFA rfl rfl rfl rfl rfl rfl (by first | assumption | omega | (simp [*]; done) | (simp at *; omega)) | exact v_idxA rfl rfl rfl rfl rfl rfl (by first | assumption | omega | (simp [*]; done) | (simp at *; omega))) rfl ?_
              refine L_op (env' := uS4n162) rfl rfl (by first | exact v_loadF rfl rfl rfl rfl (by first | exact pair_c0 (by omega) | exact pair_c1 (by omega) | rfl | assumption) | exact v_load rfl rfl rfl rfl (by first | exact get_app rfl rfl | exact get_out (by assumption) | assumption | (simp [*]; done)) (by first | exact pair_c0 (by omega) | exact pair_c1 (by omega) | rfl | assumption)) rfl ?_
              refine L_op (env' := uS4n162) rfl rfl (v_move (.inl rfl) rfl) rfl ?_
              refine L_op (env' := uS4n162) rfl rfl (rfl) rfl ?_
              refine L_op (env' := uS4n162) rfl rfl (v_pickF rfl rfl rfl) rfl ?_
              refine L_nil ?_
              refine K_seq ?_
              refine B_cond _ rfl (fun hc7 => ?_) (fun hc7 => ?_)
              · try simp only [decide_eq_true_eq, decide_eq_false_iff_not, Bool.not_eq_true', Bool.not_eq_false', bne_iff_ne, beq_iff_eq, Bool.and_eq_true, Bool.or_eq_true, Bool.not_eq_true, ge_iff_le, gt_iff_lt, Int.not_le, Int.not_lt, beq_eq_false_iff_ne, bne_eq_false_iff_eq, ne_eq, Decidable.not_not, wd_zero, wd_one, wd_inj] at hc7
                refine B_seq ?_
                refine B_region ?_
                refine L_op (env' := uS4n162) rfl rfl (v_const (VVal.ptr none) (.inr rfl) rfl) rfl ?_
                refine L_op (env' := uS4n162) rfl rfl (v_const (VVal.int .i64 1) (.inr rfl) rfl) rfl ?_
                refine L_nil ?_
                refine K_seq ?_
                refine B_ret ?_
                refine K_blkR ?_
                refine K_seqR ?_
                refine K_loopR ?_
                refine K_blkR ?_
                refine K_seqR ?_
                refine E_app (.inr rfl) (vres_tmp2 rfl rfl rfl) (by first | exact BaseOk.refl _ | exact BaseOk.set (BaseOk.refl _) _ rfl) (by first | rfl | simp [VVal.underL, VVal.under, rows_under, *]) ?_
                refine ⟨(ans1 (k := k) (by omega) ?_).symm, rfl⟩
                simp only [inR, Bool.and_eq_true, decide_eq_true_eq]
                simp only [Int.toNat_natCast] at *
                omega
              · try simp only [decide_eq_true_eq, decide_eq_false_iff_not, Bool.not_eq_true', Bool.not_eq_false', bne_iff_ne, beq_iff_eq, Bool.and_eq_true, Bool.or_eq_true, Bool.not_eq_true, ge_iff_le, gt_iff_lt, Int.not_le, Int.not_lt, beq_eq_false_iff_ne, bne_eq_false_iff_eq, ne_eq, Decidable.not_not, wd_zero, wd_one, wd_inj] at hc7
                refine B_skip ?_
                refine K_blk ?_
                refine K_seq ?_
                refine B_region ?_
                refine L_op (env' := uS4n162) rfl rfl (v_move (.inl rfl) rfl) rfl ?_
                refine L_op (env' := uS4n162) rfl rfl (v_addI rfl rfl rfl (by first | assumption | omega | (simp [*]; done) | (simp at *; omega))) rfl ?_
                refine L_op (env' := uS4n162) rfl rfl (v_move (.inr rfl) rfl) rfl ?_
                refine L_nil ?_
                have hR : inR m (pairs.getD k (0, 0)) = true := by
                  simp only [inR, Bool.and_eq_true, decide_eq_true_eq]; simp only [Int.toNat_natCast] at *; omega
                refine K_loop (false :: false :: true :: true :: true :: true :: false :: true :: true :: true :: true :: true :: true :: true :: true :: true :: true :: true :: true :: true :: true :: true :: true :: true :: true :: true :: true :: true :: true :: true :: true :: true :: true :: true :: true :: true :: true :: true :: true :: true :: true :: true :: true :: true :: true :: true :: true :: true :: true :: true :: true :: true :: true :: true :: true :: true :: true :: true :: true :: true :: true :: true :: true :: true :: true :: true :: true :: true :: true :: true :: true :: true :: true :: true :: true :: true :: true :: true :: true :: true :: true :: true :: true :: true :: true :: true :: true :: true :: true :: true :: true :: true :: true :: true :: true :: true :: true :: true :: true :: true :: true :: true :: true :: true :: true :: true :: true :: true :: true :: true :: true :: true :: true :: true :: true :: true :: true :: true :: true :: true :: true :: true :: true :: true :: true :: true :: true :: true :: true :: true :: true :: true :: true :: true :: true :: true :: true :: true :: true :: true :: true :: true :: true :: true :: true :: true :: true :: true :: true :: true :: true :: true :: true :: true :: true :: true :: true :: true :: true :: true :: true :: true :: []) (env' := uS4n162) rfl ⟨k + 1, ?_, rfl, ?_⟩
                · first | omega | (simp only []; omega)
                · exact ⟨⟨by omega, take_all hin (by omega) hR⟩, rfl⟩
      · try simp only [decide_eq_true_eq, decide_eq_false_iff_not, Bool.not_eq_true', Bool.not_eq_false', bne_iff_ne, beq_iff_eq, Bool.and_eq_true, Bool.or_eq_true, Bool.not_eq_true, ge_iff_le, gt_iff_lt, Int.not_le, Int.not_lt, beq_eq_false_iff_ne, bne_eq_false_iff_eq, ne_eq, Decidable.not_not, wd_zero, wd_one, wd_inj] at hc3
        refine B_exit ?_
        refine K_seqX ?_
        refine K_loopX ?_
        refine K_blkX ?_
        refine K_seq ?_
        refine B_seq ?_
        refine B_region ?_
        refine L_op (env' := uS4n162) rfl rfl (v_move (.inl rfl) rfl) rfl ?_
        refine L_op (env' := uS4n162) rfl rfl (rfl) rfl ?_
        refine L_op (env' := uS4n162) rfl rfl (v_boxT rfl rfl rfl) rfl ?_
        refine L_op (env' := uS4n162) rfl rfl (v_move (.inr rfl) rfl) rfl ?_
        refine L_nil ?_
        refine K_seq ?_
        refine B_seq ?_
        refine B_seq ?_
        refine B_region ?_
        refine L_op (env' := uS4n162) rfl rfl (v_const (VVal.int .i64 0) (.inr rfl) rfl) rfl ?_
        refine L_nil ?_
        refine K_seq ?_
        refine B_block ?_
        refine B_clear (false :: false :: true :: true :: true :: true :: true :: false :: false :: true :: true :: true :: true :: true :: true :: true :: true :: true :: true :: true :: true :: true :: true :: true :: true :: true :: true :: true :: true :: true :: true :: true :: true :: true :: true :: true :: true :: true :: true :: true :: true :: true :: true :: true :: true :: true :: true :: true :: true :: true :: true :: true :: true :: true :: true :: true :: true :: true :: true :: true :: true :: true :: true :: true :: true :: true :: true :: true :: true :: true :: true :: true :: true :: true :: true :: true :: true :: true :: true :: true :: true :: true :: true :: true :: true :: true :: true :: true :: true :: true :: true :: true :: true :: true :: true :: true :: true :: true :: true :: true :: true :: true :: true :: true :: true :: true :: true :: true :: true :: true :: true :: true :: true :: true :: true :: true :: true :: true :: true :: true :: true :: true :: true :: true :: true :: true :: true :: true :: true :: true :: true :: true :: true :: true :: true :: true :: true :: true :: true :: true :: true :: true :: true :: true :: true :: true :: true :: true :: true :: true :: true :: true :: true :: true :: true :: true :: true :: true :: true :: true :: true :: true :: []) (env' := uS4n162) rfl ?_
        have hk2 : k = pairs.length := by omega
        subst hk2
        rw [List.take_length] at hin
        refine B_loopE (fun (i : Nat) => m - i) (fun (i : Nat) => [(8, iI (i : Nat))]) (fun (i : Nat) G => (i ≤ m) ∧ ∃ X rid ov, G = H ++ X ∧ RefAt H.length m i rid ov (fun _ _ => false) X) 0 rfl ?_ ?_
        · refine ⟨?_, ⟨_, _, _, rfl, RefAt.none _ _ _⟩⟩
          exact Nat.zero_le _
        rintro i _ ⟨hi, ⟨X, rid, ov, rfl, hr⟩⟩
        refine B_env (env' := uS4n162) rfl ?_
        have hov : vidx ov ≠ some (H.length + 0) := by
          rcases hr.out with ⟨_, e⟩ | ⟨oid, e, h2, _⟩
          · rw [e]; simp [vidx]
          · rw [e]; simp only [vidx, ne_eq, Option.some.injEq]; omega
        refine B_seq ?_
        refine B_seq ?_
        refine B_region ?_
        refine L_op (env' := uS4n162) rfl rfl (v_move (.inl rfl) rfl) rfl ?_
        refine L_op (env' := uS4n162) rfl rfl (v_move (.inl rfl) rfl) rfl ?_
        refine L_op (env' := uS4n162) rfl rfl (rfl) rfl ?_
        refine L_nil ?_
        refine K_seq ?_
        refine B_cond _ rfl (fun hc8 => ?_) (fun hc8 => ?_)
        · try simp only [decide_eq_true_eq, decide_eq_false_iff_not, Bool.not_eq_true', Bool.not_eq_false', bne_iff_ne, beq_iff_eq, Bool.and_eq_true, Bool.or_eq_true, Bool.not_eq_true, ge_iff_le, gt_iff_lt, Int.not_le, Int.not_lt, beq_eq_false_iff_ne, bne_eq_false_iff_eq, ne_eq, Decidable.not_not, wd_zero, wd_one, wd_inj] at hc8
          refine B_skip ?_
          refine K_seq ?_
          refine B_seq ?_
          refine B_block ?_
          refine B_draw [0, 1, 2, 3, 4, 5, 6, 7, 8, 9, 10, 11] #[0, 0, 2, 6, 14, 0, 32, 96, 254, 511, 1023, 2047] (by kernel_rfl) (by kernel_rfl) (by kernel_rfl) ?_
          refine O_op (env' := uS4n162) (c := .calm) rfl rfl rfl (v_move (.inl rfl) rfl) rfl rfl rfl ?_
          refine O_op (env' := uS4n162) (c := .calm) rfl rfl rfl (v_move (.inl rfl) rfl) rfl rfl rfl ?_
          refine O_op (env' := uS4n162) (c := .calm) rfl rfl rfl (rfl) rfl rfl rfl ?_
          refine O_op (env' := uS4n162) (c := .calm) rfl rfl rfl (rfl) rfl rfl rfl ?_
          refine O_op (env' := uS4n162) (c := .look) rfl rfl rfl (by first | exact v_loadF rfl rfl rfl rfl (by first | exact pair_c0 (by omega) | exact pair_c1 (by omega) | rfl | assumption) | exact v_load rfl rfl rfl rfl (by exact get_app rfl hr.s0) (by first | exact pair_c0 (by omega) | exact pair_c1 (by omega) | rfl | assumption)) rfl rfl rfl ?_
          refine O_op (env' := uS4n162) (c := .calm) rfl rfl rfl (v_move (.inl rfl) rfl) rfl rfl rfl ?_
          refine O_op (env' := uS4n162) (c := .grow) rfl rfl rfl (v_makeSlice rfl rfl rfl rfl rfl (by decide) (by exact ⟨by omega, by omega, by show (m : Int) * ((1 : Nat) : Int) ≤ _; omega, by omega⟩)) rfl rfl rfl ?_
          refine O_op (env' := uS4n162) (c := .grow) rfl rfl rfl (v_buildSlice rfl rfl (by decide) rfl) rfl rfl rfl ?_
          have hX0 : 0 < X.length := (List.getElem?_eq_some_iff.1 hr.s0).1
          refine O_opX .turn rfl rfl rfl (v_appX rfl rfl rfl rfl rfl rfl rfl (LV.app hr.lv [_]) rfl rfl (by decide) (by show (i + 1) * 24 ≤ _ ∧ i + 1 ≤ _; omega) (by decide)) rfl rfl ?_
          rintro _ _ ⟨Y1, rfl, rfl, hY1, hY2, hY3⟩
          refine O_env (env' := uS4n162) rfl ?_
          refine O_op (env' := uS4n162) (c := .calm) rfl rfl rfl (rfl) rfl rfl rfl ?_
          refine O_op (env' := uS4n162) (c := .calm) rfl rfl rfl (rfl) rfl rfl rfl ?_
          have hb0 : ∀ Z, (Y1 ++ Z)[0]? = some (.cells [iI (m : Nat), ov] true) := fun Z => by
            rw [List.getElem?_append_left (by rw [hY1]; simp), hY2 0 hov, List.getElem?_append_left hX0]; exact hr.s0
          refine O_op (env' := uS4n162) (c := .turn) rfl rfl rfl (v_storeT rfl rfl rfl rfl rfl rfl rfl (by exact get_app (j := 0) rfl (hb0 _)) (by first | exact Nat.le_of_ble_eq_true rfl | (simp only [List.length_map, List.length_cons, List.length_nil]; omega) | omega | (simp; done) | (simp; omega)) (by first | exact set_app rfl | exact set_out (lt_of_get (by assumption)) | rfl)) rfl rfl rfl ?_
          refine O_nil [] (by kernel_rfl) (trivial) ?_
          refine K_blk ?_
          refine K_seq ?_
          refine B_region ?_
          refine L_op (env' := uS4n162) rfl rfl (v_move (.inl rfl) rfl) rfl ?_
          refine L_op (env' := uS4n162) rfl rfl (v_addI rfl rfl rfl (by first | assumption | omega | (simp [*]; done) | (simp at *; omega))) rfl ?_
          refine L_op (env' := uS4n162) rfl rfl (v_move (.inr rfl) rfl) rfl ?_
          refine L_nil ?_
          refine K_loop (false :: false :: true :: true :: true :: true :: true :: false :: false :: true :: true :: true :: true :: true :: true :: true :: true :: true :: true :: true :: true :: true :: true :: true :: true :: true :: true :: true :: true :: true :: true :: true :: true :: true :: true :: true :: true :: true :: true :: true :: true :: true :: true :: true :: true :: true :: true :: true :: true :: true :: true :: true :: true :: true :: true :: true :: true :: true :: true :: true :: true :: true :: true :: true :: true :: true :: true :: true :: true :: true :: true :: true :: true :: true :: true :: true :: true :: true :: true :: true :: true :: true :: true :: true :: true :: true :: true :: true :: true :: true :: true :: true :: true :: true :: true :: true :: true :: true :: true :: true :: true :: true :: true :: true :: true :: true :: true :: true :: true :: true :: true :: true :: true :: true :: true :: true :: true :: true :: true :: true :: true :: true :: true :: true :: true :: true :: true :: true :: true :: true :: true :: true :: true :: true :: true :: true :: true :: true :: true :: true :: true :: true :: true :: true :: true :: true :: true :: true :: true :: true :: true :: true :: true :: true :: true :: true :: true :: true :: true :: true :: true :: true :: []) (env' := uS4n162) rfl ⟨i + 1, ?_, rfl, ?_⟩
          · first | omega | (simp only []; omega)
          · exact ⟨by omega, _, _, _, rfl, hr.grow hY1 hY2⟩
        · try simp only [decide_eq_true_eq, decide_eq_false_iff_not, Bool.not_eq_true', Bool.not_eq_false', bne_iff_ne, beq_iff_eq, Bool.and_eq_true, Bool.or_eq_true, Bool.not_eq_true, ge_iff_le, gt_iff_lt, Int.not_le, Int.not_lt, beq_eq_false_iff_ne, bne_eq_false_iff_eq, ne_eq, Decidable.not_not, wd_zero, wd_one, wd_inj] at hc8
          refine B_exit ?_
          refine K_seqX ?_
          refine K_loopX ?_
          refine K_blkX ?_
          refine K_seq ?_
          refine B_seq ?_
          refine B_seq ?_
          refine B_region ?_
          refine L_op (env' := uS4n162) rfl rfl (v_const (VVal.int .i64 0) (.inr rfl) rfl) rfl ?_
          refine L_nil ?_
          refine K_seq ?_
          refine B_block ?_
          refine B_clear (false :: false :: true :: true :: true :: true :: true :: false :: true :: false :: true :: true :: true :: true :: true :: true :: true :: true :: true :: true :: true :: true :: true :: true :: true :: true :: true :: true :: true :: true :: true :: true :: true :: true :: true :: true :: true :: true :: true :: true :: true :: true :: true :: true :: true :: true :: true :: true :: true :: true :: true :: true :: true :: true :: true :: true :: true :: true :: true :: true :: true :: true :: true :: true :: true :: true :: true :: true :: true :: true :: true :: true :: true :: true :: true :: true :: true :: true :: true :: true :: true :: true :: true :: true :: true :: true :: true :: true :: true :: true :: true :: true :: true :: true :: true :: true :: true :: true :: true :: true :: true :: true :: true :: true :: true :: true :: true :: true :: true :: true :: true :: true :: true :: true :: true :: true :: true :: true :: true :: true :: true :: true :: true :: true :: true :: true :: true :: true :: true :: true :: true :: true :: true :: true :: true :: true :: true :: true :: true :: true :: true :: true :: true :: true :: true :: true :: true :: true :: true :: true :: true :: true :: true :: true :: true :: true :: true :: true :: true :: true :: true :: true :: []) (env' := uS4n162) rfl ?_
          have hi2 : m = i := by omega
          subst hi2
          refine B_loopE (fun (j : Nat) => pairs.length - j) (fun (j : Nat) => [(9, iI (j : Nat))]) (fun (j : Nat) G => (j ≤ pairs.length) ∧ ∃ X, G = H ++ X ∧ RefAt H.length m m rid ov (edg (pairs.take j)) X) 0 rfl ?_ ?_
          · refine ⟨?_, ⟨_, rfl, hr.congr fun i j _ _ => by simp [edg]⟩⟩
            exact Nat.zero_le _
          rintro j _ ⟨hj, ⟨X, rfl, hr⟩⟩
          refine B_env (env' := uS4n162) rfl ?_
          refine B_seq ?_
          refine B_seq ?_
          refine B_region ?_
          refine L_op (env' := uS4n162) rfl rfl (v_move (.inl rfl) rfl) rfl ?_
          refine L_op (env' := uS4n162) rfl rfl (v_move (.inl rfl) rfl) rfl ?_
          refine L_op (env' := uS4n162) rfl rfl (rfl) rfl ?_
          refine L_op (env' := uS4n162) rfl rfl (rfl) rfl ?_
          refine L_nil ?_
          refine K_seq ?_
          refine B_cond _ rfl (fun hc9 => ?_) (fun hc9 => ?_)
          · try simp only [decide_eq_true_eq, decide_eq_false_iff_not, Bool.not_eq_true', Bool.not_eq_false', bne_iff_ne, beq_iff_eq, Bool.and_eq_true, Bool.or_eq_true, Bool.not_eq_true, ge_iff_le, gt_iff_lt, Int.not_le, Int.not_lt, beq_eq_false_iff_ne, bne_eq_false_iff_eq, ne_eq, Decidable.not_not, wd_zero, wd_one, wd_inj] at hc9
            refine B_skip ?_
            refine K_seq ?_
            refine B_seq ?_
            refine B_block ?_
            refine B_draw [0, 1, 2, 3, 4, 5, 6, 7, 8, 9, 10, 11, 12, 13, 14, 15, 16, 17] #[0, 1, 3, 7, 0, 0, 48, 112, 240, 511, 1023, 0, 0, 6144, 14336, 30720, 65535, 131071] (by kernel_rfl) (by kernel_rfl) (by kernel_rfl) ?_
            obtain ⟨oid, rfl, hoc⟩ := hr.outOf (by have := hin (pairs.getD j (0, 0)) (by rw [List.getD_eq_getElem?_getD, List.getElem?_eq_getElem (by omega)]; exact List.getElem_mem _); simp only [inR, Bool.and_eq_true, decide_eq_true_eq] at this; omega)
            have hR := hin (pairs.getD (j : Int).toNat (0, 0)) (by rw [Int.toNat_natCast, List.getD_eq_getElem?_getD, List.getElem?_eq_getElem (by omega)]; exact List.getElem_mem _)
            simp only [inR, Bool.and_eq_true, decide_eq_true_eq] at hR
            refine O_op (env' := uS4n162) (c := .calm) rfl rfl rfl (v_move (.inl rfl) rfl) rfl rfl rfl ?_
            refine O_op (env' := uS4n162) (c := .calm) rfl rfl rfl (rfl) rfl rfl rfl ?_
            refine O_op (env' := uS4n162) (c := .calm) rfl rfl rfl (rfl) rfl rfl rfl ?_
            refine O_op (env' := uS4n162) (c := .look) rfl rfl rfl (by first | exact v_loadF rfl rfl rfl rfl (by first | exact pair_c0 (by omega) | exact pair_c1 (by omega) | rfl | assumption) | exact v_load rfl rfl rfl rfl (by exact get_app rfl hr.s0) (by first | exact pair_c0 (by omega) | exact pair_c1 (by omega) | rfl | assumption)) rfl rfl rfl ?_
            refine O_op (env' := uS4n162) (c := .calm) rfl rfl rfl (v_move (.inl rfl) rfl) rfl rfl rfl ?_
            refine O_op (env' := uS4n162) (c := .calm) rfl rfl rfl (v_move (.inl rfl) rfl) rfl rfl rfl ?_
            refine O_op (env' := uS4n162) (c := .calm) rfl rfl rfl (by first | exact v_idxF rfl rfl rfl rfl rfl rfl rfl (by first | assumption | omega | (simp [*]; done) | (simp at *; omega)) | exact v_idx rfl rfl rfl rfl rfl rfl rfl (by first | assumption | omega | (simp [*]; done) | (simp at *; omega))) rfl rfl rfl ?_
            refine O_op (env' := uS4n162) (c := .calm) rfl rfl rfl (by first | exact v_idxFA rfl rfl rfl rfl rfl rfl (by first | assumption | omega | (simp [*]; done) | (simp at *; omega)) | exact v_idxA rfl rfl rfl rfl rfl rfl (by first | assumption | omega | (simp [*]; done) | (simp at *; omega))) rfl rfl rfl ?_
            refine O_op (env' := uS4n162) (c := .look) rfl rfl rfl (by first | exact v_loadF rfl rfl rfl rfl (by first | exact pair_c0 (by omega) | exact pair_c1 (by omega) | rfl | assumption) | exact v_load rfl rfl rfl rfl (by first | exact get_app rfl rfl | exact get_out (by assumption) | assumption | (simp [*]; done)) (by first | exact pair_c0 (by omega) | exact pair_c1 (by omega) | rfl | assumption)) rfl rfl rfl ?_
            refine O_op (env' := uS4n162) (c := .calm) rfl rfl rfl (by first | exact v_idxF rfl rfl rfl rfl rfl rfl rfl (by first | assumption | omega | (simp [*]; done) | (simp at *; omega)) | exact v_idx rfl rfl rfl rfl rfl rfl rfl (by first | assumption | omega | (simp [*]; done) | (simp at *; omega))) rfl rfl rfl ?_
            refine O_op (env' := uS4n162) (c := .look) rfl rfl rfl (by first | exact v_loadF rfl rfl rfl rfl (by exact rget0 (by omega)) | exact v_load rfl rfl rfl rfl (by exact get_app rfl hoc) (by exact rget0 (by omega))) rfl rfl rfl ?_
            refine O_op (env' := uS4n162) (c := .calm) rfl rfl rfl (v_move (.inl rfl) rfl) rfl rfl rfl ?_
            refine O_op (env' := uS4n162) (c := .calm) rfl rfl rfl (v_move (.inl rfl) rfl) rfl rfl rfl ?_
            refine O_op (env' := uS4n162) (c := .calm) rfl rfl rfl (by first | exact v_idxF rfl rfl rfl rfl rfl rfl rfl (by first | assumption | omega | (simp [*]; done) | (simp at *; omega)) | exact v_idx rfl rfl rfl rfl rfl rfl rfl (by first | assumption | omega | (simp [*]; done) | (simp at *; omega))) rfl rfl rfl ?_
            refine O_op (env' := uS4n162) (c := .calm) rfl rfl rfl (by first | exact v_idxFA rfl rfl rfl rfl rfl rfl (by first | assumption | omega | (simp [*]; done) | (simp at *; omega)) | exact v_idxA rfl rfl rfl rfl rfl rfl (by first | assumption | omega | (simp [*]; done) | (simp at *; omega))) rfl rfl rfl ?_
            refine O_op (env' := uS4n162) (c := .look) rfl rfl rfl (by first | exact v_loadF rfl rfl rfl rfl (by first | exact pair_c0 (by omega) | exact pair_c1 (by omega) | rfl | assumption) | exact v_load rfl rfl rfl rfl (by first | exact get_app rfl rfl | exact get_out (by assumption) | assumption | (simp [*]; done)) (by first | exact pair_c0 (by omega) | exact pair_c1 (by omega) | rfl | assumption)) rfl rfl rfl ?_
            refine O_op (env' := uS4n162) (c := .calm) rfl rfl rfl (by first | exact v_idxF rfl rfl rfl rfl rfl rfl rfl (by first | assumption | omega | (simp [*]; done) | (simp at *; omega)) | exact v_idx rfl rfl rfl rfl rfl rfl rfl (by first | assumption | omega | (simp [*]; done) | (simp at *; omega))) rfl rfl rfl ?_
            refine O_op (env' := uS4n162) (c := .turn) rfl rfl rfl (v_storeC (VVal.bool true) rfl rfl rfl rfl rfl rfl rfl (by exact get_app rfl (hr.sr _ (by omega)).1) (by show 0 + _ * 1 + 1 ≤ ((List.range _).map _).length; rw [List.length_map, List.length_range]; omega) (by first | exact set_app rfl | exact set_out (lt_of_get (by assumption)) | rfl)) rfl rfl rfl ?_
            refine O_nil [] (by kernel_rfl) (trivial) ?_
            refine K_blk ?_
            refine K_seq ?_
            refine B_region ?_
            refine L_op (env' := uS4n162) rfl rfl (v_move (.inl rfl) rfl) rfl ?_
            refine L_op (env' := uS4n162) rfl rfl (v_addI rfl rfl rfl (by first | assumption | omega | (simp [*]; done) | (simp at *; omega))) rfl ?_
            refine L_op (env' := uS4n162) rfl rfl (v_move (.inr rfl) rfl) rfl ?_
            refine L_nil ?_
            refine K_loop (false :: false :: true :: true :: true :: true :: true :: false :: true :: false :: true :: true :: true :: true :: true :: true :: true :: true :: true :: true :: true :: true :: true :: true :: true :: true :: true :: true :: true :: true :: true :: true :: true :: true :: true :: true :: true :: true :: true :: true :: true :: true :: true :: true :: true :: true :: true :: true :: true :: true :: true :: true :: true :: true :: true :: true :: true :: true :: true :: true :: true :: true :: true :: true :: true :: true :: true :: true :: true :: true :: true :: true :: true :: true :: true :: true :: true :: true :: true :: true :: true :: true :: true :: true :: true :: true :: true :: true :: true :: true :: true :: true :: true :: true :: true :: true :: true :: true :: true :: true :: true :: true :: true :: true :: true :: true :: true :: true :: true :: true :: true :: true :: true :: true :: true :: true :: true :: true :: true :: true :: true :: true :: true :: true :: true :: true :: true :: true :: true :: true :: true :: true :: true :: true :: true :: true :: true :: true :: true :: true :: true :: true :: true :: true :: true :: true :: true :: true :: true :: true :: true :: true :: true :: true :: true :: true :: true :: true :: true :: true :: true :: true :: []) (env' := uS4n162) rfl ⟨j + 1, ?_, rfl, ?_⟩
            · first | omega | (simp only []; omega)
            · exact ⟨by omega, _, rfl, (hr.put (by omega) (by omega)).congr fun i j2 _ _ => edg_take (by omega) rfl ⟨by omega, by omega⟩⟩
          · try simp only [decide_eq_true_eq, decide_eq_false_iff_not, Bool.not_eq_true', Bool.not_eq_false', bne_iff_ne, beq_iff_eq, Bool.and_eq_true, Bool.or_eq_true, Bool.not_eq_true, ge_iff_le, gt_iff_lt, Int.not_le, Int.not_lt, beq_eq_false_iff_ne, bne_eq_false_iff_eq, ne_eq, Decidable.not_not, wd_zero, wd_one, wd_inj] at hc9
            refine B_exit ?_
            refine K_seqX ?_
            refine K_loopX ?_
            refine K_blkX ?_
            refine K_seq ?_
            refine B_seq ?_
            refine B_seq ?_
            refine B_region ?_
            refine L_op (env' := uS4n162) rfl rfl (v_const (VVal.int .i64 0) (.inr rfl) rfl) rfl ?_
            refine L_nil ?_
            refine K_seq ?_
            refine B_block ?_
            refine B_clear (false :: true :: true :: true :: true :: true :: true :: false :: true :: true :: false :: true :: true :: true :: true :: true :: true :: true :: true :: true :: true :: true :: true :: true :: true :: true :: true :: true :: true :: true :: true :: true :: true :: true :: true :: true :: true :: true :: true :: true :: true :: true :: true :: true :: true :: true :: true :: true :: true :: true :: true :: true :: true :: true :: true :: true :: true :: true :: true :: true :: true :: true :: true :: true :: true :: true :: true :: true :: true :: true :: true :: true :: true :: true :: true :: true :: true :: true :: true :: true :: true :: true :: true :: true :: true :: true :: true :: true :: true :: true :: true :: true :: true :: true :: true :: true :: true :: true :: true :: true :: true :: true :: true :: true :: true :: true :: true :: true :: true :: true :: true :: true :: true :: true :: true :: true :: true :: true :: true :: true :: true :: true :: true :: true :: true :: true :: true :: true :: true :: true :: true :: true :: true :: true :: true :: true :: true :: true :: true :: true :: true :: true :: true :: true :: true :: true :: true :: true :: true :: true :: true :: true :: true :: true :: true :: true :: true :: true :: true :: true :: true :: true :: []) (env' := uS4n162) rfl ?_
            refine B_loopE (fun (q : Nat) => m - q) (fun (q : Nat) => [(10, iI (q : Nat))]) (fun (q : Nat) G => (q ≤ m) ∧ ∃ X, G = H ++ X ∧ RefAt H.length m m rid ov (rv (edg pairs) q) X) 0 rfl ?_ ?_
            · refine ⟨?_, ⟨_, rfl, hr.congr fun i j2 _ _ => by rw [show j = pairs.length from by omega, List.take_length]; rfl⟩⟩
              exact Nat.zero_le _
            rintro q _ ⟨hq, ⟨X, rfl, hr⟩⟩
            refine B_env (env' := uS4n162) rfl ?_
            refine B_seq ?_
            refine B_seq ?_
            refine B_region ?_
            refine L_op (env' := uS4n162) rfl rfl (v_move (.inl rfl) rfl) rfl ?_
            refine L_op (env' := uS4n162) rfl rfl (v_move (.inl rfl) rfl) rfl ?_
            refine L_op (env' := uS4n162) rfl rfl (rfl) rfl ?_
            refine L_nil ?_
            refine K_seq ?_
            refine B_cond _ rfl (fun hc10 => ?_) (fun hc10 => ?_)
            · try simp only [decide_eq_true_eq, decide_eq_false_iff_not, Bool.not_eq_true', Bool.not_eq_false', bne_iff_ne, beq_iff_eq, Bool.and_eq_true, Bool.or_eq_true, Bool.not_eq_true, ge_iff_le, gt_iff_lt, Int.not_le, Int.not_lt, beq_eq_false_iff_ne, bne_eq_false_iff_eq, ne_eq, Decidable.not_not, wd_zero, wd_one, wd_inj] at hc10
              refine B_skip ?_
              refine K_seq ?_
              refine B_seq ?_
              refine B_block ?_
              refine B_seq ?_
              refine B_region ?_
              refine L_op (env' := uS4n162) rfl rfl (v_const (VVal.int .i64 0) (.inr rfl) rfl) rfl ?_
              refine L_nil ?_
              refine K_seq ?_
              refine B_block ?_
              refine B_clear (false :: true :: true :: true :: true :: true :: true :: false :: true :: true :: false :: false :: true :: true :: true :: true :: true :: true :: true :: true :: true :: true :: true :: true :: true :: true :: true :: true :: true :: true :: true :: true :: true :: true :: true :: true :: true :: true :: true :: true :: true :: true :: true :: true :: true :: true :: true :: true :: true :: true :: true :: true :: true :: true :: true :: true :: true :: true :: true :: true :: true :: true :: true :: true :: true :: true :: true :: true :: true :: true :: true :: true :: true :: true :: true :: true :: true :: true :: true :: true :: true :: true :: true :: true :: true :: true :: true :: true :: true :: true :: true :: true :: true :: true :: true :: true :: true :: true :: true :: true :: true :: true :: true :: true :: true :: true :: true :: true :: true :: true :: true :: true :: true :: true :: true :: true :: true :: true :: true :: true :: true :: true :: true :: true :: true :: true :: true :: true :: true :: true :: true :: true :: true :: true :: true :: true :: true :: true :: true :: true :: true :: true :: true :: true :: true :: true :: true :: true :: true :: true :: true :: true :: true :: true :: true :: true :: true :: true :: true :: true :: true :: true :: []) (env' := uS4n162) rfl ?_
              refine B_loopE (fun (a : Nat) => m - a) (fun (a : Nat) => [(11, iI (a : Nat))]) (fun (a : Nat) G => (a ≤ m) ∧ ∃ X, G = H ++ X ∧ RefAt H.length m m rid ov (mixM (edg pairs) q a 0) X) 0 rfl ?_ ?_
              · refine ⟨?_, ⟨_, rfl, hr.congr fun i j2 _ _ => mixM_0⟩⟩
                exact Nat.zero_le _
              rintro a _ ⟨ha, ⟨X, rfl, hr⟩⟩
              refine B_env (env' := uS4n162) rfl ?_
              refine B_seq ?_
              refine B_seq ?_
              refine B_region ?_
              refine L_op (env' := uS4n162) rfl rfl (v_move (.inl rfl) rfl) rfl ?_
              refine L_op (env' := uS4n162) rfl rfl (v_move (.inl rfl) rfl) rfl ?_
              refine L_op (env' := uS4n162) rfl rfl (rfl) rfl ?_
              refine L_nil ?_
              refine K_seq ?_
              refine B_cond _ rfl (fun hc11 => ?_) (fun hc11 => ?_)
              · try simp only [decide_eq_true_eq, decide_eq_false_iff_not, Bool.not_eq_true', Bool.not_eq_false', bne_iff_ne, beq_iff_eq, Bool.and_eq_true, Bool.or_eq_true, Bool.not_eq_true, ge_iff_le, gt_iff_lt, Int.not_le, Int.not_lt, beq_eq_false_iff_ne, bne_eq_false_iff_eq, ne_eq, Decidable.not_not, wd_zero, wd_one, wd_inj] at hc11
                refine B_skip ?_
                refine K_seq ?_
                refine B_seq ?_
                refine B_block ?_
                refine B_seq ?_
                refine B_region ?_
                refine L_op (env' := uS4n162) rfl rfl (v_const (VVal.int .i64 0) (.inr rfl) rfl) rfl ?_
                refine L_nil ?_
                refine K_seq ?_
                refine B_block ?_
                refine B_clear (false :: true :: true :: true :: true :: true :: true :: false :: true :: true :: false :: false :: false :: true :: true :: true :: true :: true :: true :: true :: true :: true :: true :: true :: true :: true :: true :: true :: true :: true :: true :: true :: true :: true :: true :: true :: true :: true :: true :: true :: true :: true :: true :: true :: true :: true :: true :: true :: true :: true :: true :: true :: true :: true :: true :: true :: true :: true :: true :: true :: true :: true :: true :: true :: true :: true :: true :: true :: true :: true :: true :: true :: true :: true :: true :: true :: true :: true :: true :: true :: true :: true :: true :: true :: true :: true :: true :: true :: true :: true :: true :: true :: true :: true :: true :: true :: true :: true :: true :: true :: true :: true :: true :: true :: true :: true :: true :: true :: true :: true :: true :: true :: true :: true :: true :: true :: true :: true :: true :: true :: true :: true :: true :: true :: true :: true :: true :: true :: true :: true :: true :: true :: true :: true :: true :: true :: true :: true :: true :: true :: true :: true :: true :: true :: true :: true :: true :: true :: true :: true :: true :: true :: true :: true :: true :: true :: true :: true :: true :: true :: true :: true :: []) (env' := uS4n162) rfl ?_
                refine B_loopE (fun (b : Nat) => m - b) (fun (b : Nat) => [(12, iI (b : Nat))]) (fun (b : Nat) G => (b ≤ m) ∧ ∃ X, G = H ++ X ∧ RefAt H.length m m rid ov (mixM (edg pairs) q a b) X) 0 rfl ?_ ?_
                · refine ⟨?_, ⟨_, rfl, hr⟩⟩
                  exact Nat.zero_le _
                rintro b _ ⟨hb, ⟨X, rfl, hr⟩⟩
                refine B_env (env' := uS4n162) rfl ?_
                obtain ⟨oid, rfl, hoc⟩ := hr.outOf (by omega)
                refine B_seq ?_
                refine B_seq ?_
                refine B_region ?_
                refine L_op (env' := uS4n162) rfl rfl (v_move (.inl rfl) rfl) rfl ?_
                refine L_op (env' := uS4n162) rfl rfl (v_move (.inl rfl) rfl) rfl ?_
                refine L_op (env' := uS4n162) rfl rfl (rfl) rfl ?_
                refine L_nil ?_
                refine K_seq ?_
                refine B_cond _ rfl (fun hc12 => ?_) (fun hc12 => ?_)
                · try simp only [decide_eq_true_eq, decide_eq_false_iff_not, Bool.not_eq_true', Bool.not_eq_false', bne_iff_ne, beq_iff_eq, Bool.and_eq_true, Bool.or_eq_true, Bool.not_eq_true, ge_iff_le, gt_iff_lt, Int.not_le, Int.not_lt, beq_eq_false_iff_ne, bne_eq_false_iff_eq, ne_eq, Decidable.not_not, wd_zero, wd_one, wd_inj] at hc12
                  refine B_skip ?_
                  refine K_seq ?_
                  refine B_seq ?_
                  refine B_block ?_
                  refine B_seq ?_
                  refine B_region ?_
                  refine L_op (env' := uS4n162) rfl rfl (v_move (.inl rfl) rfl) rfl ?_
                  refine L_op (env' := uS4n162) rfl rfl (rfl) rfl ?_
                  refine L_op (env' := uS4n162) rfl rfl (rfl) rfl ?_
                  refine L_op (env' := uS4n162) rfl rfl (by first | exact v_loadF rfl rfl rfl rfl (by first | exact pair_c0 (by omega) | exact pair_c1 (by omega) | rfl | assumption) | exact v_load rfl rfl rfl rfl (by exact get_app rfl hr.s0) (by first | exact pair_c0 (by omega) | exact pair_c1 (by omega) | rfl | assumption)) rfl ?_
                  refine L_op (env' := uS4n162) rfl rfl (v_move (.inl rfl) rfl) rfl ?_
                  refine L_op (env' := uS4n162) rfl rfl (by first | exact v_idxF rfl rfl rfl rfl rfl rfl rfl (by first | assumption | omega | (simp [*]; done) | (simp at *; omega)) | exact v_idx rfl rfl rfl rfl rfl rfl rfl (by first | assumption | omega | (simp [*]; done) | (simp at *; omega))) rfl ?_
                  refine L_op (env' := uS4n162) rfl rfl (by first | exact v_loadF rfl rfl rfl rfl (by exact rget0 (by omega)) | exact v_load rfl rfl rfl rfl (by exact get_app rfl hoc) (by exact rget0 (by omega))) rfl ?_
                  refine L_op (env' := uS4n162) rfl rfl (v_move (.inl rfl) rfl) rfl ?_
                  refine L_op (env' := uS4n162) rfl rfl (by first | exact v_idxF rfl rfl rfl rfl rfl rfl rfl (by first | assumption | omega | (simp [*]; done) | (simp at *; omega)) | exact v_idx rfl rfl rfl rfl rfl rfl rfl (by first | assumption | omega | (simp [*]; done) | (simp at *; omega))) rfl ?_
                  refine L_op (env' := uS4n162) rfl rfl (by first | exact v_loadF rfl rfl rfl rfl (by exact rget0 (by omega)) | exact v_load rfl rfl rfl rfl (by exact get_app rfl (hr.sr _ (by omega)).1) (by exact rget0 (by omega))) rfl ?_
                  refine L_op (env' := uS4n162) rfl rfl (v_move (.inl rfl) rfl) rfl ?_
                  refine L_split 125 (env1 := uS4n162) (env2 := uS4n162) rfl rfl rfl (fun hg13 => ?_) (fun hg13 => ?_)
                  · try simp only [decide_eq_true_eq, decide_eq_false_iff_not, Bool.not_eq_true', Bool.not_eq_false', bne_iff_ne, beq_iff_eq, Bool.and_eq_true, Bool.or_eq_true, Bool.not_eq_true, ge_iff_le, gt_iff_lt, Int.not_le, Int.not_lt, beq_eq_false_iff_ne, bne_eq_false_iff_eq, ne_eq, Decidable.not_not, wd_zero, wd_one, wd_inj] at hg13
                    refine L_op (env' := uS4n162) rfl rfl (v_move (.inl rfl) rfl) rfl ?_
                    refine L_op (env' := uS4n162) rfl rfl (rfl) rfl ?_
                    refine L_op (env' := uS4n162) rfl rfl (rfl) rfl ?_
                    refine L_op (env' := uS4n162) rfl rfl (by first | exact v_loadF rfl rfl rfl rfl (by first | exact pair_c0 (by omega) | exact pair_c1 (by omega) | rfl | assumption) | exact v_load rfl rfl rfl rfl (by exact get_app rfl hr.s0) (by first | exact pair_c0 (by omega) | exact pair_c1 (by omega) | rfl | assumption)) rfl ?_
                    refine L_op (env' := uS4n162) rfl rfl (v_move (.inl rfl) rfl) rfl ?_
                    refine L_op (env' := uS4n162) rfl rfl (by first | exact v_idxF rfl rfl rfl rfl rfl rfl rfl (by first | assumption | omega | (simp [*]; done) | (simp at *; omega)) | exact v_idx rfl rfl rfl rfl rfl rfl rfl (by first | assumption | omega | (simp [*]; done) | (simp at *; omega))) rfl ?_
                    refine L_op (env' := uS4n162) rfl rfl (by first | exact v_loadF rfl rfl rfl rfl (by exact rget0 (by omega)) | exact v_load rfl rfl rfl rfl (by exact get_app rfl hoc) (by exact rget0 (by omega))) rfl ?_
                    refine L_op (env' := uS4n162) rfl rfl (v_move (.inl rfl) rfl) rfl ?_
                    refine L_op (env' := uS4n162) rfl rfl (by first | exact v_idxF rfl rfl rfl rfl rfl rfl rfl (by first | assumption | omega | (simp [*]; done) | (simp at *; omega)) | exact v_idx rfl rfl rfl rfl rfl rfl rfl (by first | assumption | omega | (simp [*]; done) | (simp at *; omega))) rfl ?_
                    refine L_op (env' := uS4n162) rfl rfl (by first | exact v_loadF rfl rfl rfl rfl (by exact rget0 (by omega)) | exact v_load rfl rfl rfl rfl (by exact get_app rfl (hr.sr _ (by omega)).1) (by exact rget0 (by omega))) rfl ?_
                    refine L_op (env' := uS4n162) rfl rfl (v_pickT rfl rfl rfl) rfl ?_
                    refine L_nil ?_
                    refine K_seq ?_
                    refine B_cond _ rfl (fun hc14 => ?_) (fun hc14 => ?_)
                    · try simp only [decide_eq_true_eq, decide_eq_false_iff_not, Bool.not_eq_true', Bool.not_eq_false', bne_iff_ne, beq_iff_eq, Bool.and_eq_true, Bool.or_eq_true, Bool.not_eq_true, ge_iff_le, gt_iff_lt, Int.not_le, Int.not_lt, beq_eq_false_iff_ne, bne_eq_false_iff_eq, ne_eq, Decidable.not_not, wd_zero, wd_one, wd_inj] at hc14
                      refine B_region ?_
                      refine L_op (env' := uS4n162) rfl rfl (v_move (.inl rfl) rfl) rfl ?_
                      refine L_op (env' := uS4n162) rfl rfl (rfl) rfl ?_
                      refine L_op (env' := uS4n162) rfl rfl (rfl) rfl ?_
                      refine L_op (env' := uS4n162) rfl rfl (by first | exact v_loadF rfl rfl rfl rfl (by first | exact pair_c0 (by omega) | exact pair_c1 (by omega) | rfl | assumption) | exact v_load rfl rfl rfl rfl (by exact get_app rfl hr.s0) (by first | exact pair_c0 (by omega) | exact pair_c1 (by omega) | rfl | assumption)) rfl ?_
                      refine L_op (env' := uS4n162) rfl rfl (v_move (.inl rfl) rfl) rfl ?_
                      refine L_op (env' := uS4n162) rfl rfl (by first | exact v_idxF rfl rfl rfl rfl rfl rfl rfl (by first | assumption | omega | (simp [*]; done) | (simp at *; omega)) | exact v_idx rfl rfl rfl rfl rfl rfl rfl (by first | assumption | omega | (simp [*]; done) | (simp at *; omega))) rfl ?_
                      refine L_op (env' := uS4n162) rfl rfl (by first | exact v_loadF rfl rfl rfl rfl (by exact rget0 (by omega)) | exact v_load rfl rfl rfl rfl (by exact get_app rfl hoc) (by exact rget0 (by omega))) rfl ?_
                      refine L_op (env' := uS4n162) rfl rfl (v_move (.inl rfl) rfl) rfl ?_
                      refine L_op (env' := uS4n162) rfl rfl (by first | exact v_idxF rfl rfl rfl rfl rfl rfl rfl (by first | assumption | omega | (simp [*]; done) | (simp at *; omega)) | exact v_idx rfl rfl rfl rfl rfl rfl rfl (by first | assumption | omega | (simp [*]; done) | (simp at *; omega))) rfl ?_
                      refine L_op (env' := uS4n162) rfl rfl (v_storeC (VVal.bool true) rfl rfl rfl rfl rfl rfl rfl (by exact get_app rfl (hr.sr _ (by omega)).1) (by show 0 + _ * 1 + 1 ≤ ((List.range _).map _).length; rw [List.length_map, List.length_range]; omega) (by first | exact set_app rfl | exact set_out (lt_of_get (by assumption)) | rfl)) rfl ?_
                      refine L_nil ?_
                      refine K_blk ?_
                      refine K_seq ?_
                      refine B_region ?_
                      refine L_op (env' := uS4n162) rfl rfl (v_move (.inl rfl) rfl) rfl ?_
                      refine L_op (env' := uS4n162) rfl rfl (v_addI rfl rfl rfl (by first | assumption | omega | (simp [*]; done) | (simp at *; omega))) rfl ?_
                      refine L_op (env' := uS4n162) rfl rfl (v_move (.inr rfl) rfl) rfl ?_
                      refine L_nil ?_
                      refine K_loop (false :: true :: true :: true :: true :: true :: true :: false :: true :: true :: false :: false :: false :: true :: true :: true :: true :: true :: true :: true :: true :: true :: true :: true :: true :: true :: true :: true :: true :: true :: true :: true :: true :: true :: true :: true :: true :: true :: true :: true :: true :: true :: true :: true :: true :: true :: true :: true :: true :: true :: true :: true :: true :: true :: true :: true :: true :: true :: true :: true :: true :: true :: true :: true :: true :: true :: true :: true :: true :: true :: true :: true :: true :: true :: true :: true :: true :: true :: true :: true :: true :: true :: true :: true :: true :: true :: true :: true :: true :: true :: true :: true :: true :: true :: true :: true :: true :: true :: true :: true :: true :: true :: true :: true :: true :: true :: true :: true :: true :: true :: true :: true :: true :: true :: true :: true :: true :: true :: true :: true :: true :: true :: true :: true :: true :: true :: true :: true :: true :: true :: true :: true :: true :: true :: true :: true :: true :: true :: true :: true :: true :: true :: true :: true :: true :: true :: true :: true :: true :: true :: true :: true :: true :: true :: true :: true :: true :: true :: true :: true :: true :: true :: []) (env' := uS4n162) rfl ⟨b + 1, ?_, rfl, ?_⟩
                      · first | omega | (simp only []; omega)
                      · first | exact ⟨by omega, _, rfl, (hr.put (by omega) (by omega)).congr fun i j2 _ _ => mixM_yes (by simp only [Int.toNat_natCast, mixM_col, mixM_row] at *; simp [*])⟩ | exact ⟨by omega, _, rfl, hr.congr fun i j2 _ _ => mixM_no (by simp only [Int.toNat_natCast, mixM_col, mixM_row] at *; simp [*])⟩
                    · try simp only [decide_eq_true_eq, decide_eq_false_iff_not, Bool.not_eq_true', Bool.not_eq_false', bne_iff_ne, beq_iff_eq, Bool.and_eq_true, Bool.or_eq_true, Bool.not_eq_true, ge_iff_le, gt_iff_lt, Int.not_le, Int.not_lt, beq_eq_false_iff_ne, bne_eq_false_iff_eq, ne_eq, Decidable.not_not, wd_zero, wd_one, wd_inj] at hc14
                      refine B_skip ?_
                      refine K_blk ?_
                      refine K_seq ?_
                      refine B_region ?_
                      refine L_op (env' := uS4n162) rfl rfl (v_move (.inl rfl) rfl) rfl ?_
                      refine L_op (env' := uS4n162) rfl rfl (v_addI rfl rfl rfl (by first | assumption | omega | (simp [*]; done) | (simp at *; omega))) rfl ?_
                      refine L_op (env' := uS4n162) rfl rfl (v_move (.inr rfl) rfl) rfl ?_
                      refine L_nil ?_
                      refine K_loop (false :: true :: true :: true :: true :: true :: true :: false :: true :: true :: false :: false :: false :: true :: true :: true :: true :: true :: true :: true :: true :: true :: true :: true :: true :: true :: true :: true :: true :: true :: true :: true :: true :: true :: true :: true :: true :: true :: true :: true :: true :: true :: true :: true :: true :: true :: true :: true :: true :: true :: true :: true :: true :: true :: true :: true :: true :: true :: true :: true :: true :: true :: true :: true :: true :: true :: true :: true :: true :: true :: true :: true :: true :: true :: true :: true :: true :: true :: true :: true :: true :: true :: true :: true :: true :: true :: true :: true :: true :: true :: true :: true :: true :: true :: true :: true :: true :: true :: true :: true :: true :: true :: true :: true :: true :: true :: true :: true :: true :: true :: true :: true :: true :: true :: true :: true :: true :: true :: true :: true :: true :: true :: true :: true :: true :: true :: true :: true :: true :: true :: true :: true :: true :: true :: true :: true :: true :: true :: true :: true :: true :: true :: true :: true :: true :: true :: true :: true :: true :: true :: true :: true :: true :: true :: true :: true :: true :: true :: true :: true :: true :: true :: []) (env' := uS4n162) rfl ⟨b + 1, ?_, rfl, ?_⟩
                      · first | omega | (simp only []; omega)
                      · first | exact ⟨by omega, _, rfl, (hr.put (by omega) (by omega)).congr fun i j2 _ _ => mixM_yes (by simp only [Int.toNat_natCast, mixM_col, mixM_row] at *; simp [*])⟩ | exact ⟨by omega, _, rfl, hr.congr fun i j2 _ _ => mixM_no (by simp only [Int.toNat_natCast, mixM_col, mixM_row] at *; simp [*])⟩
                  · try simp only [decide_eq_true_eq, decide_eq_false_iff_not, Bool.not_eq_true', Bool.not_eq_false', bne_iff_ne, beq_iff_eq, Bool.and_eq_true, Bool.or_eq_true, Bool.not_eq_true, ge_iff_le, gt_iff_lt, Int.not_le, Int.not_lt, beq_eq_false_iff_ne, bne_eq_false_iff_eq, ne_eq, Decidable.not_not, wd_zero, wd_one, wd_inj] at hg13
                    refine L_off (env' := uS4n162) rfl rfl ?_
                    refine L_off (env' := uS4n162) rfl rfl ?_
                    refine L_off (env' := uS4n162) rfl rfl ?_
                    refine L_off (env' := uS4n162) rfl rfl ?_
                    refine L_off (env' := uS4n162) rfl rfl ?_
                    refine L_off (env' := uS4n162) rfl rfl ?_
                    refine L_off (env' := uS4n162) rfl rfl ?_
                    refine L_off (env' := uS4n162) rfl rfl ?_
                    refine L_off (env' := uS4n162) rfl rfl ?_
                    refine L_off (env' := uS4n162) rfl rfl ?_
                    refine L_op (env' := uS4n162) rfl rfl (v_pickFC (VVal.bool false) rfl rfl rfl) rfl ?_
                    refine L_nil ?_
                    refine K_seq ?_
                    refine B_false rfl rfl ?_
                    refine B_skip ?_
                    refine K_blk ?_
                    refine K_seq ?_
                    refine B_region ?_
                    refine L_op (env' := uS4n162) rfl rfl (v_move (.inl rfl) rfl) rfl ?_
                    refine L_op (env' := uS4n162) rfl rfl (v_addI rfl rfl rfl (by first | assumption | omega | (simp [*]; done) | (simp at *; omega))) rfl ?_
                    refine L_op (env' := uS4n162) rfl rfl (v_move (.inr rfl) rfl) rfl ?_
                    refine L_nil ?_
                    refine K_loop (false :: true :: true :: true :: true :: true :: true :: false :: true :: true :: false :: false :: false :: true :: true :: true :: true :: true :: true :: true :: true :: true :: true :: true :: true :: true :: true :: true :: true :: true :: true :: true :: true :: true :: true :: true :: true :: true :: true :: true :: true :: true :: true :: true :: true :: true :: true :: true :: true :: true :: true :: true :: true :: true :: true :: true :: true :: true :: true :: true :: true :: true :: true :: true :: true :: true :: true :: true :: true :: true :: true :: true :: true :: true :: true :: true :: true :: true :: true :: true :: true :: true :: true :: true :: true :: true :: true :: true :: true :: true :: true :: true :: true :: true :: true :: true :: true :: true :: true :: true :: true :: true :: true :: true :: true :: true :: true :: true :: true :: true :: true :: true :: true :: true :: true :: true :: true :: true :: true :: true :: true :: true :: true :: true :: true :: true :: true :: true :: true :: true :: true :: true :: true :: true :: true :: true :: true :: true :: true :: true :: true :: true :: true :: true :: true :: true :: true :: true :: true :: true :: true :: true :: true :: true :: true :: true :: true :: true :: true :: true :: true :: true :: []) (env' := uS4n162) rfl ⟨b + 1, ?_, rfl, ?_⟩
                    · first | omega | (simp only []; omega)
                    · first | exact ⟨by omega, _, rfl, (hr.put (by omega) (by omega)).congr fun i j2 _ _ => mixM_yes (by simp only [Int.toNat_natCast, mixM_col, mixM_row] at *; simp [*])⟩ | exact ⟨by omega, _, rfl, hr.congr fun i j2 _ _ => mixM_no (by simp only [Int.toNat_natCast, mixM_col, mixM_row] at *; simp [*])⟩
                · try simp only [decide_eq_true_eq, decide_eq_false_iff_not, Bool.not_eq_true', Bool.not_eq_false', bne_iff_ne, beq_iff_eq, Bool.and_eq_true, Bool.or_eq_true, Bool.not_eq_true, ge_iff_le, gt_iff_lt, Int.not_le, Int.not_lt, beq_eq_false_iff_ne, bne_eq_false_iff_eq, ne_eq, Decidable.not_not, wd_zero, wd_one, wd_inj] at hc12
                  refine B_exit ?_
                  refine K_seqX ?_
                  refine K_loopX ?_
                  refine K_blkX ?_
                  refine K_blk ?_
                  refine K_seq ?_
                  refine B_region ?_
                  refine L_op (env' := uS4n162) rfl rfl (v_move (.inl rfl) rfl) rfl ?_
                  refine L_op (env' := uS4n162) rfl rfl (v_addI rfl rfl rfl (by first | assumption | omega | (simp [*]; done) | (simp at *; omega))) rfl ?_
                  refine L_op (env' := uS4n162) rfl rfl (v_move (.inr rfl) rfl) rfl ?_
                  refine L_nil ?_
                  refine K_loop (false :: true :: true :: true :: true :: true :: true :: false :: true :: true :: false :: false :: true :: true :: true :: true :: true :: true :: true :: true :: true :: true :: true :: true :: true :: true :: true :: true :: true :: true :: true :: true :: true :: true :: true :: true :: true :: true :: true :: true :: true :: true :: true :: true :: true :: true :: true :: true :: true :: true :: true :: true :: true :: true :: true :: true :: true :: true :: true :: true :: true :: true :: true :: true :: true :: true :: true :: true :: true :: true :: true :: true :: true :: true :: true :: true :: true :: true :: true :: true :: true :: true :: true :: true :: true :: true :: true :: true :: true :: true :: true :: true :: true :: true :: true :: true :: true :: true :: true :: true :: true :: true :: true :: true :: true :: true :: true :: true :: true :: true :: true :: true :: true :: true :: true :: true :: true :: true :: true :: true :: true :: true :: true :: true :: true :: true :: true :: true :: true :: true :: true :: true :: true :: true :: true :: true :: true :: true :: true :: true :: true :: true :: true :: true :: true :: true :: true :: true :: true :: true :: true :: true :: true :: true :: true :: true :: true :: true :: true :: true :: true :: true :: []) (env' := uS4n162) rfl ⟨a + 1, ?_, rfl, ?_⟩
                  · first | omega | (simp only []; omega)
                  · exact ⟨by omega, _, rfl, hr.congr fun i j2 _ hj2 => by rw [show b = m from by omega]; exact mixM_nextA hj2⟩
              · try simp only [decide_eq_true_eq, decide_eq_false_iff_not, Bool.not_eq_true', Bool.not_eq_false', bne_iff_ne, beq_iff_eq, Bool.and_eq_true, Bool.or_eq_true, Bool.not_eq_true, ge_iff_le, gt_iff_lt, Int.not_le, Int.not_lt, beq_eq_false_iff_ne, bne_eq_false_iff_eq, ne_eq, Decidable.not_not, wd_zero, wd_one, wd_inj] at hc11
                refine B_exit ?_
                refine K_seqX ?_
                refine K_loopX ?_
                refine K_blkX ?_
                refine K_blk ?_
                refine K_seq ?_
                refine B_region ?_
                refine L_op (env' := uS4n162) rfl rfl (v_move (.inl rfl) rfl) rfl ?_
                refine L_op (env' := uS4n162) rfl rfl (v_addI rfl rfl rfl (by first | assumption | omega | (simp [*]; done) | (simp at *; omega))) rfl ?_
                refine L_op (env' := uS4n162) rfl rfl (v_move (.inr rfl) rfl) rfl ?_
                refine L_nil ?_
                refine K_loop (false :: true :: true :: true :: true :: true :: true :: false :: true :: true :: false :: true :: true :: true :: true :: true :: true :: true :: true :: true :: true :: true :: true :: true :: true :: true :: true :: true :: true :: true :: true :: true :: true :: true :: true :: true :: true :: true :: true :: true :: true :: true :: true :: true :: true :: true :: true :: true :: true :: true :: true :: true :: true :: true :: true :: true :: true :: true :: true :: true :: true :: true :: true :: true :: true :: true :: true :: true :: true :: true :: true :: true :: true :: true :: true :: true :: true :: true :: true :: true :: true :: true :: true :: true :: true :: true :: true :: true :: true :: true :: true :: true :: true :: true :: true :: true :: true :: true :: true :: true :: true :: true :: true :: true :: true :: true :: true :: true :: true :: true :: true :: true :: true :: true :: true :: true :: true :: true :: true :: true :: true :: true :: true :: true :: true :: true :: true :: true :: true :: true :: true :: true :: true :: true :: true :: true :: true :: true :: true :: true :: true :: true :: true :: true :: true :: true :: true :: true :: true :: true :: true :: true :: true :: true :: true :: true :: true :: true :: true :: true :: true :: true :: []) (env' := uS4n162) rfl ⟨q + 1, ?_, rfl, ?_⟩
                · first | omega | (simp only []; omega)
                · exact ⟨by omega, _, rfl, hr.congr fun i j2 hi _ => by rw [show a = m from by omega]; exact mixM_nextK hi⟩
            · try simp only [decide_eq_true_eq, decide_eq_false_iff_not, Bool.not_eq_true', Bool.not_eq_false', bne_iff_ne, beq_iff_eq, Bool.and_eq_true, Bool.or_eq_true, Bool.not_eq_true, ge_iff_le, gt_iff_lt, Int.not_le, Int.not_lt, beq_eq_false_iff_ne, bne_eq_false_iff_eq, ne_eq, Decidable.not_not, wd_zero, wd_one, wd_inj] at hc10
              refine B_exit ?_
              refine K_seqX ?_
              refine K_loopX ?_
              refine K_blkX ?_
              refine K_seq ?_
              refine B_seq ?_
              refine B_seq ?_
              refine B_region ?_
              refine L_op (env' := uS4n162) rfl rfl (v_const (VVal.int .i64 0) (.inr rfl) rfl) rfl ?_
              refine L_nil ?_
              refine K_seq ?_
              refine B_block ?_
              refine B_clear (false :: true :: true :: true :: true :: true :: true :: false :: true :: true :: true :: true :: true :: false :: true :: true :: true :: true :: true :: true :: true :: true :: true :: true :: true :: true :: true :: true :: true :: true :: true :: true :: true :: true :: true :: true :: true :: true :: true :: true :: true :: true :: true :: true :: true :: true :: true :: true :: true :: true :: true :: true :: true :: true :: true :: true :: true :: true :: true :: true :: true :: true :: true :: true :: true :: true :: true :: true :: true :: true :: true :: true :: true :: true :: true :: true :: true :: true :: true :: true :: true :: true :: true :: true :: true :: true :: true :: true :: true :: true :: true :: true :: true :: true :: true :: true :: true :: true :: true :: true :: true :: true :: true :: true :: true :: true :: true :: true :: true :: true :: true :: true :: true :: true :: true :: true :: true :: true :: true :: true :: true :: true :: true :: true :: true :: true :: true :: true :: true :: true :: true :: true :: true :: true :: true :: true :: true :: true :: true :: true :: true :: true :: true :: true :: true :: true :: true :: true :: true :: true :: true :: true :: true :: true :: true :: true :: true :: true :: true :: true :: true :: true :: []) (env' := uS4n162) rfl ?_
              refine B_loopE (fun (d : Nat) => m - d) (fun (d : Nat) => [(13, iI (d : Nat))]) (fun (d : Nat) G => (d ≤ m ∧ ∀ i, i < d → rch pairs m i i = false) ∧ ∃ X, G = H ++ X ∧ RefAt H.length m m rid ov (rch pairs m) X) 0 rfl ?_ ?_
              · refine ⟨?_, ⟨_, rfl, hr.congr fun i j2 _ _ => by rw [show q = m from by omega]; rfl⟩⟩
                exact ⟨Nat.zero_le _, fun i h => by omega⟩
              rintro d _ ⟨⟨hd, hac⟩, ⟨X, rfl, hr⟩⟩
              refine B_env (env' := uS4n162) rfl ?_
              refine B_seq ?_
              refine B_seq ?_
              refine B_region ?_
              refine L_op (env' := uS4n162) rfl rfl (v_move (.inl rfl) rfl) rfl ?_
              refine L_op (env' := uS4n162) rfl rfl (v_move (.inl rfl) rfl) rfl ?_
              refine L_op (env' := uS4n162) rfl rfl (rfl) rfl ?_
              refine L_nil ?_
              refine K_seq ?_
              refine B_cond _ rfl (fun hc15 => ?_) (fun hc15 => ?_)
              · try simp only [decide_eq_true_eq, decide_eq_false_iff_not, Bool.not_eq_true', Bool.not_eq_false', bne_iff_ne, beq_iff_eq, Bool.and_eq_true, Bool.or_eq_true, Bool.not_eq_true, ge_iff_le, gt_iff_lt, Int.not_le, Int.not_lt, beq_eq_false_iff_ne, bne_eq_false_iff_eq, ne_eq, Decidable.not_not, wd_zero, wd_one, wd_inj] at hc15
                refine B_skip ?_
                refine K_seq ?_
                refine B_seq ?_
                refine B_block ?_
                refine B_seq ?_
                refine B_region ?_
                obtain ⟨oid, ho, hoc⟩ := hr.outOf (by omega)
                subst ho
                refine L_op (env' := uS4n162) rfl rfl (v_move (.inl rfl) rfl) rfl ?_
                refine L_op (env' := uS4n162) rfl rfl (rfl) rfl ?_
                refine L_op (env' := uS4n162) rfl rfl (rfl) rfl ?_
                refine L_op (env' := uS4n162) rfl rfl (by first | exact v_loadF rfl rfl rfl rfl (by first | exact pair_c0 (by omega) | exact pair_c1 (by omega) | rfl | assumption) | exact v_load rfl rfl rfl rfl (by exact get_app rfl hr.s0) (by first | exact pair_c0 (by omega) | exact pair_c1 (by omega) | rfl | assumption)) rfl ?_
                refine L_op (env' := uS4n162) rfl rfl (v_move (.inl rfl) rfl) rfl ?_
                refine L_op (env' := uS4n162) rfl rfl (by first | exact v_idxF rfl rfl rfl rfl rfl rfl rfl (by first | assumption | omega | (simp [*]; done) | (simp at *; omega)) | exact v_idx rfl rfl rfl rfl rfl rfl rfl (by first | assumption | omega | (simp [*]; done) | (simp at *; omega))) rfl ?_
                refine L_op (env' := uS4n162) rfl rfl (by first | exact v_loadF rfl rfl rfl rfl (by exact rget0 (by omega)) | exact v_load rfl rfl rfl rfl (by exact get_app rfl hoc) (by exact rget0 (by omega))) rfl ?_
                refine L_op (env' := uS4n162) rfl rfl (v_move (.inl rfl) rfl) rfl ?_
                refine L_op (env' := uS4n162) rfl rfl (by first | exact v_idxF rfl rfl rfl rfl rfl rfl rfl (by first | assumption | omega | (simp [*]; done) | (simp at *; omega)) | exact v_idx rfl rfl rfl rfl rfl rfl rfl (by first | assumption | omega | (simp [*]; done) | (simp at *; omega))) rfl ?_
                refine L_op (env' := uS4n162) rfl rfl (by first | exact v_loadF rfl rfl rfl rfl (by exact rget0 (by omega)) | exact v_load rfl rfl rfl rfl (by exact get_app rfl (hr.sr _ (by omega)).1) (by exact rget0 (by omega))) rfl ?_
                refine L_nil ?_
                refine K_seq ?_
                refine B_cond _ rfl (fun hc16 => ?_) (fun hc16 => ?_)
                · try simp only [decide_eq_true_eq, decide_eq_false_iff_not, Bool.not_eq_true', Bool.not_eq_false', bne_iff_ne, beq_iff_eq, Bool.and_eq_true, Bool.or_eq_true, Bool.not_eq_true, ge_iff_le, gt_iff_lt, Int.not_le, Int.not_lt, beq_eq_false_iff_ne, bne_eq_false_iff_eq, ne_eq, Decidable.not_not, wd_zero, wd_one, wd_inj] at hc16
                  refine B_seq ?_
                  refine B_region ?_
                  refine L_op (env' := uS4n162) rfl rfl (v_const (VVal.ptr none) (.inr rfl) rfl) rfl ?_
                  refine L_op (env' := uS4n162) rfl rfl (v_const (VVal.int .i64 6) (.inr rfl) rfl) rfl ?_
                  refine L_nil ?_
                  refine K_seq ?_
                  refine B_ret ?_
                  refine K_blkR ?_
                  refine K_seqR ?_
                  refine K_loopR ?_
                  refine K_blkR ?_
                  refine K_seqR ?_
                  refine E_app (.inr rfl) (vres_tmp2 rfl rfl rfl) (by first | exact BaseOk.refl _ | exact BaseOk.set (BaseOk.refl _) _ rfl) (by first | rfl | simp [VVal.underL, VVal.under, rows_under, *]) ?_
                  have hcy : (List.range (m : Int).toNat).any (fun a => rch pairs (m : Int).toNat a a) = true := List.any_eq_true.2 ⟨d, List.mem_range.2 (by show d < m; omega), hc16⟩
                  have hall : pairs.all (inR (m : Int)) = true := List.all_eq_true.2 hin
                  exact ⟨by rw [refNewV, if_neg (by rw [hall]; simp; omega), if_pos hcy], rfl⟩
                · try simp only [decide_eq_true_eq, decide_eq_false_iff_not, Bool.not_eq_true', Bool.not_eq_false', bne_iff_ne, beq_iff_eq, Bool.and_eq_true, Bool.or_eq_true, Bool.not_eq_true, ge_iff_le, gt_iff_lt, Int.not_le, Int.not_lt, beq_eq_false_iff_ne, bne_eq_false_iff_eq, ne_eq, Decidable.not_not, wd_zero, wd_one, wd_inj] at hc16
                  refine B_skip ?_
                  refine K_blk ?_
                  refine K_seq ?_
                  refine B_region ?_
                  refine L_op (env' := uS4n162) rfl rfl (v_move (.inl rfl) rfl) rfl ?_
                  refine L_op (env' := uS4n162) rfl rfl (v_addI rfl rfl rfl (by first | assumption | omega | (simp [*]; done) | (simp at *; omega))) rfl ?_
                  refine L_op (env' := uS4n162) rfl rfl (v_move (.inr rfl) rfl) rfl ?_
                  refine L_nil ?_
                  refine K_loop (false :: true :: true :: true :: true :: true :: true :: false :: true :: true :: true :: true :: true :: false :: true :: true :: true :: true :: true :: true :: true :: true :: true :: true :: true :: true :: true :: true :: true :: true :: true :: true :: true :: true :: true :: true :: true :: true :: true :: true :: true :: true :: true :: true :: true :: true :: true :: true :: true :: true :: true :: true :: true :: true :: true :: true :: true :: true :: true :: true :: true :: true :: true :: true :: true :: true :: true :: true :: true :: true :: true :: true :: true :: true :: true :: true :: true :: true :: true :: true :: true :: true :: true :: true :: true :: true :: true :: true :: true :: true :: true :: true :: true :: true :: true :: true :: true :: true :: true :: true :: true :: true :: true :: true :: true :: true :: true :: true :: true :: true :: true :: true :: true :: true :: true :: true :: true :: true :: true :: true :: true :: true :: true :: true :: true :: true :: true :: true :: true :: true :: true :: true :: true :: true :: true :: true :: true :: true :: true :: true :: true :: true :: true :: true :: true :: true :: true :: true :: true :: true :: true :: true :: true :: true :: true :: true :: true :: true :: true :: true :: true :: true :: []) (env' := uS4n162) rfl ⟨d + 1, ?_, rfl, ?_⟩
                  · first | omega | (simp only []; omega)
                  · exact ⟨⟨by omega, fun i hi => by by_cases h : i < d; (exact hac i h); (have h2 : d = i := by omega); subst h2; exact hc16⟩, _, rfl, hr⟩
              · try simp only [decide_eq_true_eq, decide_eq_false_iff_not, Bool.not_eq_true', Bool.not_eq_false', bne_iff_ne, beq_iff_eq, Bool.and_eq_true, Bool.or_eq_true, Bool.not_eq_true, ge_iff_le, gt_iff_lt, Int.not_le, Int.not_lt, beq_eq_false_iff_ne, bne_eq_false_iff_eq, ne_eq, Decidable.not_not, wd_zero, wd_one, wd_inj] at hc15
                refine B_exit ?_
                refine K_seqX ?_
                refine K_loopX ?_
                refine K_blkX ?_
                refine K_seq ?_
                refine B_seq ?_
                refine B_region ?_
                refine L_op (env' := uS4n162) rfl rfl (v_move (.inl rfl) rfl) rfl ?_
                refine L_op (env' := uS4n162) rfl rfl (v_move (.inr rfl) rfl) rfl ?_
                refine L_op (env' := uS4n162) rfl rfl (v_const (VVal.int .i64 0) (.inr rfl) rfl) rfl ?_
                refine L_nil ?_
                refine K_seq ?_
                obtain ⟨X2, g2, hx2⟩ := Gh.rows (S := psys x) hr
                refine B_gh (Gh.trans (g2 _) (Gh.freezePtrL 4 0 rfl hx2 rfl)) ?_
                refine B_ret ?_
                refine E_app (.inr rfl) (vres_tmp2 rfl rfl rfl) (by first | exact BaseOk.refl _ | exact BaseOk.set (BaseOk.refl _) _ rfl) (by first | rfl | simp [VVal.underL, VVal.under, rows_under, *]) ?_
                have hall : pairs.all (inR (m : Int)) = true := List.all_eq_true.2 hin
                have hcy : ¬ (List.range (m : Int).toNat).any (fun a => rch pairs (m : Int).toNat a a) = true := by
                  rw [List.any_eq_true]
                  rintro ⟨i, hi, h⟩
                  have hi : i < m := List.mem_range.1 hi
                  have h : rch pairs m i i = true := h
                  rw [hac i (by omega)] at h; cases h
                exact ⟨by rw [refNewV, if_neg (by rw [hall]; simp; omega), if_neg hcy]; rfl, rfl⟩
end Go.Proofs.YteocbhgdmpdklaaDoor.VT
