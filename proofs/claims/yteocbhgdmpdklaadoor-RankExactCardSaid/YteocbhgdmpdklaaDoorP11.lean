import Derived.Test.YteocbhgdmpdklaaDoorP4
/- How many bits a word has: adding up by bytes. (own work) -/
set_option autoImplicit true
set_option maxHeartbeats 4000000
set_option linter.unusedSimpArgs false
set_option linter.unusedVariables false
namespace Go.V
open Go
def Wd : List Nat → Nat
  | [] => 0
  | a :: l => a + 256 * Wd l
theorem and_cons (x y : Nat) : x &&& y = (x % 256 &&& y % 256) + 256 * (x / 256 &&& y / 256) := by
  have h := Nat.div_add_mod (x &&& y) 256
  have h1 : (x &&& y) % 2 ^ 8 = x % 2 ^ 8 &&& y % 2 ^ 8 := Nat.and_mod_two_pow
  have h2 : (x &&& y) / 2 ^ 8 = x / 2 ^ 8 &&& y / 2 ^ 8 := Nat.and_div_two_pow
  rw [show (2 : Nat) ^ 8 = 256 from rfl] at h1 h2
  rw [h1, h2] at h
  omega
theorem and_low {y m n : Nat} (h : m < 2 ^ n) : y &&& m = (y % 2 ^ n) &&& m := by
  have h1 : (y &&& m) % 2 ^ n = y % 2 ^ n &&& m % 2 ^ n := Nat.and_mod_two_pow
  rw [Nat.mod_eq_of_lt h, Nat.mod_eq_of_lt (Nat.lt_of_le_of_lt Nat.and_le_right h)] at h1
  exact h1
theorem Wd_mask {d n m : Nat} (hd : 0 < d) (hde : d * 2 ^ n = 256) (hm : m < 2 ^ n) (hn : 2 ^ n ≤ 256) : ∀ {l : List Nat}, (∀ a, a ∈ l → a < 256) → Wd l / d &&& Wd (l.map fun _ => m) = Wd (l.map fun a => a / d &&& m)
  | [], _ => by simp [Wd]
  | a :: l, h => by
    have ha := h a (List.mem_cons_self ..)
    have ih := Wd_mask hd hde hm hn (l := l) fun b hb => h b (List.mem_cons_of_mem _ hb)
    have e1 : (a + 256 * Wd l) / d = a / d + 2 ^ n * Wd l := by
      rw [← hde, Nat.mul_assoc, Nat.add_mul_div_left _ _ hd]
    have e2 : (a + 256 * Wd l) / d / 256 = Wd l / d := by
      rw [Nat.div_div_eq_div_mul, Nat.mul_comm d 256, ← Nat.div_div_eq_div_mul, Nat.add_mul_div_left _ _ (by omega), Nat.div_eq_of_lt ha, Nat.zero_add]
    have e3 : (m + 256 * Wd (l.map fun _ => m)) / 256 = Wd (l.map fun _ => m) := by omega
    have e4 : (m + 256 * Wd (l.map fun _ => m)) % 256 = m := by omega
    show (a + 256 * Wd l) / d &&& (m + 256 * Wd (l.map fun _ => m)) = (a / d &&& m) + 256 * Wd (l.map fun a => a / d &&& m)
    rw [and_cons, e2, e3, e4, ih, e1, and_low hm (y := (a / d + 2 ^ n * Wd l) % 256)]
    have e5 : (a / d + 2 ^ n * Wd l) % 256 % 2 ^ n = a / d % 2 ^ n := by
      rw [Nat.mod_mod_of_dvd _ ⟨d, by rw [Nat.mul_comm]; exact hde.symm⟩, Nat.add_mul_mod_self_left]
    rw [e5, ← and_low hm]
theorem Wd_add {f g : Nat → Nat} : ∀ {l : List Nat}, Wd (l.map f) + Wd (l.map g) = Wd (l.map fun a => f a + g a)
  | [] => rfl
  | a :: l => by
    have := Wd_add (f := f) (g := g) (l := l)
    simp only [List.map_cons, Wd] at this ⊢; omega
theorem Wd_mod : ∀ {l : List Nat}, (∀ a, a ∈ l → a % 16 ≤ 4 ∧ a / 16 ≤ 4) → Wd l % 16 ≤ 4
  | [], _ => by simp [Wd]
  | a :: l, h => by have := h a (List.mem_cons_self ..); simp only [Wd]; omega
theorem Wd_nib : ∀ {l : List Nat}, (∀ a, a ∈ l → a % 16 ≤ 4 ∧ a / 16 ≤ 4) → (Wd l / 16 + Wd l) &&& Wd (l.map fun _ => 15) = Wd (l.map fun a => a / 16 + a % 16)
  | [], _ => by simp [Wd]
  | a :: l, h => by
    have ha := h a (List.mem_cons_self ..)
    have hl : ∀ a, a ∈ l → a % 16 ≤ 4 ∧ a / 16 ≤ 4 := fun b hb => h b (List.mem_cons_of_mem _ hb)
    have ih := Wd_nib hl
    have hm := Wd_mod hl
    show ((a + 256 * Wd l) / 16 + (a + 256 * Wd l)) &&& (15 + 256 * Wd (l.map fun _ => 15)) = (a / 16 + a % 16) + 256 * Wd (l.map fun a => a / 16 + a % 16)
    rw [and_cons, show (15 + 256 * Wd (l.map fun _ => 15)) / 256 = Wd (l.map fun _ => 15) by omega, show (15 + 256 * Wd (l.map fun _ => 15)) % 256 = 15 by omega,
      show ((a + 256 * Wd l) / 16 + (a + 256 * Wd l)) / 256 = Wd l / 16 + Wd l by omega, ih, show (15 : Nat) = 2 ^ 4 - 1 from rfl, Nat.and_two_pow_sub_one_eq_mod]
    show ((a + 256 * Wd l) / 16 + (a + 256 * Wd l)) % 256 % 16 + _ = _
    omega
theorem Wd_lt : ∀ {l : List Nat}, (∀ a, a ∈ l → a < 256) → Wd l < 256 ^ l.length
  | [], _ => by simp [Wd]
  | a :: l, h => by
    have := h a (List.mem_cons_self ..)
    have ih := Wd_lt (l := l) fun b hb => h b (List.mem_cons_of_mem _ hb)
    rw [List.length_cons, Nat.pow_succ]; simp only [Wd]; omega
theorem Wd_third : ∀ {l : List Nat}, (∀ a, a ∈ l → a ≤ 68) → 3 * Wd l < 256 ^ l.length
  | [], _ => by simp [Wd]
  | a :: l, h => by
    have := h a (List.mem_cons_self ..)
    have ih := Wd_third (l := l) fun b hb => h b (List.mem_cons_of_mem _ hb)
    rw [List.length_cons, Nat.pow_succ]; simp only [Wd]; omega
def sb1 (a : Nat) : Nat := (a / 2 &&& 85) + (a / 1 &&& 85)
def sb2 (a : Nat) : Nat := (a / 4 &&& 51) + (a / 1 &&& 51)
def sb3 (a : Nat) : Nat := a / 16 + a % 16
theorem sb_lt1 : ∀ a : Fin 256, sb1 a.val < 256 := by decide +kernel
theorem sb_lt2 : ∀ a : Fin 256, sb2 (sb1 a.val) < 256 ∧ sb2 (sb1 a.val) % 16 ≤ 4 ∧ sb2 (sb1 a.val) / 16 ≤ 4 ∧ sb3 (sb2 (sb1 a.val)) ≤ 8 := by decide +kernel
theorem sb_all : ∀ a : Fin 256, sb3 (sb2 (sb1 a.val)) = (List.range 8).countP (Nat.testBit a.val) := by decide +kernel
def pc1 (x : BitVec 64) : BitVec 64 := (x >>> 1 &&& 6148914691236517205#64) + (x &&& 6148914691236517205#64)
def pc2 (x : BitVec 64) : BitVec 64 := (x >>> 2 &&& 3689348814741910323#64) + (x &&& 3689348814741910323#64)
def pc3 (x : BitVec 64) : BitVec 64 := (x >>> 4 + x) &&& 1085102592571150095#64
def pc4 (x : BitVec 64) : BitVec 64 := x + x >>> 8
def pc5 (x : BitVec 64) : BitVec 64 := x + x >>> 16
def pc6 (x : BitVec 64) : BitVec 64 := x + x >>> 32
def pcW (x : BitVec 64) : BitVec 64 := pc6 (pc5 (pc4 (pc3 (pc2 (pc1 x)))))
theorem pc1_wd {x : BitVec 64} {l : List Nat} (h : x.toNat = Wd l) (h8 : l.length = 8) (hl : ∀ a, a ∈ l → a < 256) : (pc1 x).toNat = Wd (l.map sb1) := by
  have hM : (6148914691236517205#64).toNat = Wd (l.map fun _ => 85) := by
    rw [List.map_const', h8]; decide +kernel
  have h1 := Wd_mask (d := 2) (n := 7) (m := 85) (by omega) rfl (by decide) (by decide) hl
  have h2 := Wd_mask (d := 1) (n := 8) (m := 85) (by omega) rfl (by decide) (by decide) hl
  rw [Nat.div_one] at h2
  have hlt : Wd (l.map sb1) < 256 ^ 8 := by
    have := Wd_lt (l := l.map sb1) fun a ha => by
      obtain ⟨b, hb, rfl⟩ := List.mem_map.1 ha
      exact sb_lt1 ⟨b, hl b hb⟩
    rw [List.length_map, h8] at this; exact this
  unfold pc1
  rw [BitVec.toNat_add, BitVec.toNat_and, BitVec.toNat_and, BitVec.toNat_ushiftRight, Nat.shiftRight_eq_div_pow, hM, h, show (2 : Nat) ^ 1 = 2 from rfl, h1, h2, Wd_add]
  exact Nat.mod_eq_of_lt hlt
theorem pc2_wd {x : BitVec 64} {l : List Nat} (h : x.toNat = Wd (l.map sb1)) (h8 : l.length = 8) (hl : ∀ a, a ∈ l → a < 256) : (pc2 x).toNat = Wd (l.map fun a => sb2 (sb1 a)) := by
  have hl' : ∀ a, a ∈ l.map sb1 → a < 256 := fun a ha => by
    obtain ⟨b, hb, rfl⟩ := List.mem_map.1 ha
    exact sb_lt1 ⟨b, hl b hb⟩
  have hM : (3689348814741910323#64).toNat = Wd ((l.map sb1).map fun _ => 51) := by
    rw [List.map_const', List.length_map, h8]; decide +kernel
  have h1 := Wd_mask (d := 4) (n := 6) (m := 51) (by omega) rfl (by decide) (by decide) hl'
  have h2 := Wd_mask (d := 1) (n := 8) (m := 51) (by omega) rfl (by decide) (by decide) hl'
  rw [Nat.div_one] at h2
  have hlt : Wd (l.map fun a => sb2 (sb1 a)) < 256 ^ 8 := by
    have := Wd_lt (l := l.map fun a => sb2 (sb1 a)) fun a ha => by
      obtain ⟨b, hb, rfl⟩ := List.mem_map.1 ha
      exact (sb_lt2 ⟨b, hl b hb⟩).1
    rw [List.length_map, h8] at this; exact this
  unfold pc2
  rw [BitVec.toNat_add, BitVec.toNat_and, BitVec.toNat_and, BitVec.toNat_ushiftRight, Nat.shiftRight_eq_div_pow, hM, h, show (2 : Nat) ^ 2 = 4 from rfl, h1, h2, Wd_add, List.map_map]
  exact Nat.mod_eq_of_lt hlt
theorem pc3_wd {x : BitVec 64} {l : List Nat} (h : x.toNat = Wd (l.map fun a => sb2 (sb1 a))) (h8 : l.length = 8) (hl : ∀ a, a ∈ l → a < 256) : (pc3 x).toNat = Wd (l.map fun a => sb3 (sb2 (sb1 a))) := by
  have hl' : ∀ a, a ∈ (l.map fun a => sb2 (sb1 a)) → a % 16 ≤ 4 ∧ a / 16 ≤ 4 := fun a ha => by
    obtain ⟨b, hb, rfl⟩ := List.mem_map.1 ha
    have := sb_lt2 ⟨b, hl b hb⟩
    exact ⟨this.2.1, this.2.2.1⟩
  have hM : (1085102592571150095#64).toNat = Wd ((l.map fun a => sb2 (sb1 a)).map fun _ => 15) := by
    rw [List.map_const', List.length_map, h8]; decide +kernel
  have h1 := Wd_nib hl'
  have h3 := Wd_third (l := l.map fun a => sb2 (sb1 a)) fun a ha => by have := hl' a ha; omega
  rw [List.length_map, h8] at h3
  have hlt : Wd (l.map fun a => sb2 (sb1 a)) / 16 + Wd (l.map fun a => sb2 (sb1 a)) < 2 ^ 64 := by
    rw [show (2 : Nat) ^ 64 = 256 ^ 8 from rfl]; omega
  unfold pc3
  rw [BitVec.toNat_and, BitVec.toNat_add, BitVec.toNat_ushiftRight, Nat.shiftRight_eq_div_pow, hM, h, show (2 : Nat) ^ 4 = 16 from rfl, Nat.mod_eq_of_lt hlt, h1, List.map_map]
  rfl
theorem wdiv1 {c R : Nat} (h : c < 256) : (c + 256 * R) / 2 ^ 8 = R := by omega
theorem wdiv2 {c d R : Nat} (h : c < 256) (h2 : d < 256) : (c + 256 * (d + 256 * R)) / 2 ^ 16 = R := by omega
theorem wdiv4 {c d e f R : Nat} (h : c < 256) (h2 : d < 256) (h3 : e < 256) (h4 : f < 256) : (c + 256 * (d + 256 * (e + 256 * (f + 256 * R)))) / 2 ^ 32 = R := by omega
theorem wlt {d0 d1 d2 d3 d4 d5 d6 d7 : Nat} (h0 : d0 ≤ 64) (h1 : d1 ≤ 64) (h2 : d2 ≤ 64) (h3 : d3 ≤ 64) (h4 : d4 ≤ 64) (h5 : d5 ≤ 64) (h6 : d6 ≤ 64) (h7 : d7 ≤ 64) : d0 + 256 * (d1 + 256 * (d2 + 256 * (d3 + 256 * (d4 + 256 * (d5 + 256 * (d6 + 256 * d7)))))) < 2 ^ 63 := by omega
theorem wmod {d R : Nat} (h : d ≤ 64) : (d + 256 * R) % 128 = d := by omega
theorem wsh {x : BitVec 64} {n A R S : Nat} (hx : x.toNat = A) (hd : A / 2 ^ n = R) (hs : A + R = S) (hS : S < 2 ^ 63) : (x + x >>> n).toNat = S := by
  rw [BitVec.toNat_add, BitVec.toNat_ushiftRight, Nat.shiftRight_eq_div_pow, hx, hd, hs]
  exact Nat.mod_eq_of_lt (Nat.lt_trans hS (by decide))
theorem ad1 {c0 c1 c2 c3 c4 c5 c6 c7 : Nat} : (c0 + 256 * (c1 + 256 * (c2 + 256 * (c3 + 256 * (c4 + 256 * (c5 + 256 * (c6 + 256 * c7))))))) + (c1 + 256 * (c2 + 256 * (c3 + 256 * (c4 + 256 * (c5 + 256 * (c6 + 256 * c7)))))) = (c0 + c1) + 256 * ((c1 + c2) + 256 * ((c2 + c3) + 256 * ((c3 + c4) + 256 * ((c4 + c5) + 256 * ((c5 + c6) + 256 * ((c6 + c7) + 256 * c7)))))) := by omega
theorem ad2 {c0 c1 c2 c3 c4 c5 c6 c7 : Nat} : (c0 + 256 * (c1 + 256 * (c2 + 256 * (c3 + 256 * (c4 + 256 * (c5 + 256 * (c6 + 256 * c7))))))) + (c2 + 256 * (c3 + 256 * (c4 + 256 * (c5 + 256 * (c6 + 256 * c7))))) = (c0 + c2) + 256 * ((c1 + c3) + 256 * ((c2 + c4) + 256 * ((c3 + c5) + 256 * ((c4 + c6) + 256 * ((c5 + c7) + 256 * (c6 + 256 * c7)))))) := by omega
theorem ad4 {c0 c1 c2 c3 c4 c5 c6 c7 : Nat} : (c0 + 256 * (c1 + 256 * (c2 + 256 * (c3 + 256 * (c4 + 256 * (c5 + 256 * (c6 + 256 * c7))))))) + (c4 + 256 * (c5 + 256 * (c6 + 256 * c7))) = (c0 + c4) + 256 * ((c1 + c5) + 256 * ((c2 + c6) + 256 * ((c3 + c7) + 256 * (c4 + 256 * (c5 + 256 * (c6 + 256 * c7)))))) := by omega
theorem pc_end {x : BitVec 64} {c0 c1 c2 c3 c4 c5 c6 c7 : Nat} (h : x.toNat = c0 + 256 * (c1 + 256 * (c2 + 256 * (c3 + 256 * (c4 + 256 * (c5 + 256 * (c6 + 256 * c7))))))) (h0 : c0 ≤ 8) (h1 : c1 ≤ 8) (h2 : c2 ≤ 8) (h3 : c3 ≤ 8) (h4 : c4 ≤ 8) (h5 : c5 ≤ 8) (h6 : c6 ≤ 8) (h7 : c7 ≤ 8) :
    (pc6 (pc5 (pc4 x))).toNat % 128 = c0 + c1 + c2 + c3 + c4 + c5 + c6 + c7 ∧ (pc6 (pc5 (pc4 x))).toNat < 2 ^ 63 := by
  have e4 : (pc4 x).toNat = _ := wsh h (wdiv1 (Nat.lt_of_le_of_lt h0 (by decide))) ad1 (by clear h; apply wlt <;> omega)
  have e5 : (pc5 (pc4 x)).toNat = _ := wsh e4 (wdiv2 (by clear e4 h; omega) (by clear e4 h; omega)) ad2 (by clear e4 h; apply wlt <;> omega)
  have e6 : (pc6 (pc5 (pc4 x))).toNat = _ := wsh e5 (wdiv4 (by clear e5 e4 h; omega) (by clear e5 e4 h; omega) (by clear e5 e4 h; omega) (by clear e5 e4 h; omega)) ad4 (by clear e5 e4 h; apply wlt <;> omega)
  rw [e6]
  clear e6 e5 e4 h
  refine ⟨?_, by apply wlt <;> omega⟩
  rw [wmod (by omega)]; omega
theorem range_count (f : Nat → Bool) (n : Nat) : (List.range (n + 8)).countP f = (List.range n).countP f + (List.range 8).countP fun j => f (n + j) := by
  rw [List.range_add, List.countP_append, List.countP_map]; rfl
theorem byte_count (x : BitVec 64) (n : Nat) : ((List.range 8).countP fun j => x.getLsbD (n + j)) = (List.range 8).countP (Nat.testBit (x.toNat / 2 ^ n % 2 ^ 8)) := by
  apply List.countP_congr
  intro j hj
  have hj := List.mem_range.1 hj
  rw [Nat.testBit_mod_two_pow, Nat.testBit_div_two_pow, decide_eq_true hj, Bool.true_and]
  show x.toNat.testBit (n + j) = true ↔ x.toNat.testBit (j + n) = true
  rw [Nat.add_comm]
/-- the bits are counted -/
theorem pcW_count (w : BitVec 64) : (pcW w).toNat % 128 = come 64 w ∧ (pcW w).toNat < 2 ^ 63 := by
  have hw := w.isLt
  have hby : ∀ k, w.toNat / 2 ^ k % 2 ^ 8 < 256 := fun k => Nat.mod_lt _ (by decide)
  have h : w.toNat = Wd [w.toNat / 2 ^ 0 % 2 ^ 8, w.toNat / 2 ^ 8 % 2 ^ 8, w.toNat / 2 ^ 16 % 2 ^ 8, w.toNat / 2 ^ 24 % 2 ^ 8, w.toNat / 2 ^ 32 % 2 ^ 8, w.toNat / 2 ^ 40 % 2 ^ 8, w.toNat / 2 ^ 48 % 2 ^ 8, w.toNat / 2 ^ 56 % 2 ^ 8] := by
    simp only [Wd]; omega
  have hl : ∀ a, a ∈ [w.toNat / 2 ^ 0 % 2 ^ 8, w.toNat / 2 ^ 8 % 2 ^ 8, w.toNat / 2 ^ 16 % 2 ^ 8, w.toNat / 2 ^ 24 % 2 ^ 8, w.toNat / 2 ^ 32 % 2 ^ 8, w.toNat / 2 ^ 40 % 2 ^ 8, w.toNat / 2 ^ 48 % 2 ^ 8, w.toNat / 2 ^ 56 % 2 ^ 8] → a < 256 := by
    simp only [List.mem_cons, List.not_mem_nil, or_false, forall_eq_or_imp, forall_eq]
    exact ⟨hby _, hby _, hby _, hby _, hby _, hby _, hby _, hby _⟩
  have hx := pc3_wd (pc2_wd (pc1_wd h rfl hl) rfl hl) rfl hl
  obtain ⟨B, hB⟩ : ∃ B : Nat → Nat, ∀ k, B k = sb3 (sb2 (sb1 (w.toNat / 2 ^ k % 2 ^ 8))) := ⟨_, fun _ => rfl⟩
  have b8 : ∀ k, B k ≤ 8 := fun k => by rw [hB]; exact (sb_lt2 ⟨_, hby k⟩).2.2.2
  have hp : ∀ k, B k = (List.range 8).countP fun j => w.getLsbD (k + j) := fun k => by rw [hB, byte_count]; exact sb_all ⟨_, hby k⟩
  have hx' : (pc3 (pc2 (pc1 w))).toNat = B 0 + 256 * (B 8 + 256 * (B 16 + 256 * (B 24 + 256 * (B 32 + 256 * (B 40 + 256 * (B 48 + 256 * B 56)))))) := by
    rw [hx]
    simp only [List.map_cons, List.map_nil, Wd, hB]; omega
  have he := pc_end hx' (b8 0) (b8 8) (b8 16) (b8 24) (b8 32) (b8 40) (b8 48) (b8 56)
  refine ⟨he.1.trans ?_, he.2⟩
  rw [hp 0, hp 8, hp 16, hp 24, hp 32, hp 40, hp 48, hp 56]
  unfold come
  have r := fun n => range_count w.getLsbD n
  have r0 : (List.range 8).countP w.getLsbD = (List.range 8).countP fun j => w.getLsbD (0 + j) := by simp
  have r1 := r 8; have r2 := r 16; have r3 := r 24; have r4 := r 32; have r5 := r 40; have r6 := r 48; have r7 := r 56
  simp only [Nat.reduceAdd] at r1 r2 r3 r4 r5 r6 r7
  rw [r7, r6, r5, r4, r3, r2, r1, r0]
end Go.V
