/- Proved: Rows.TallyOwnCardSaid, the statement TallyOwn with its card, of the given program at the commit; no conditions beyond those in the statement. -/
import Derived.Test.YtccgigdjkghieaaDoorC12x16
import Derived.ProofKit
import Derived.OpenShut
set_option autoImplicit false
set_option linter.unusedVariables false
set_option linter.unusedSimpArgs false
namespace Go.V
open Go Go.RowKit
def fin (W : World) : Inj := ⟨fun _ => none, fun r => match W.heap[r]? with | some (.cells arr _ _) => some arr | _ => none, []⟩
theorem fin_sim (W : World) : Sim W (fin W) [] W := by
 refine ⟨Below.refl _ _, ⟨fun r arr h => ?_, by simp [fin], fun r h => by simp [fin] at h⟩, fun r arr b e k _ h => (by cases h), fun b e h => (by cases h), fun b e k h => (by cases h), fun b b' e e' k k' h => (by cases h)⟩
 simp only [fin] at h
 split at h
 ·rename_i c t f hc; cases h; exact ⟨t, f, hc, fun hge => by have := (Array.getElem?_eq_some_iff.1 hc).1; omega⟩
 cases h
structure Opens (P : Program) (t : TypeId) (α : Type) (f : α → List VVal) (ok : α → Prop) : Prop where
 len : ∀ a, (f a).length = P.cellsOf t
 opn : ∀ {H : Type} {enc : TypeId × Value → H} {W : World} {base : Nat} {spare : Nat → Bool} {held : Bool} {fuel : Nat} {cs : List Value} {x : DataW H × List MemPlace},
  DataW.trod enc P W base spare held fuel t cs = some x → (∀ n, n ∈ DataW.weights P t x.1 → n ≤ 140737488351232) → ∃ a, ok a ∧ RelL (fin W) (f a) cs
theorem QY {H : Type} {P : Program} {e : TypeId} {n : Nat} : ∀ {ds : List (DataW H)} {d : DataW H}, d ∈ ds → n ∈ DataW.weights P e d → n ∈ DataW.weightsAll P e ds
 | c :: ds, d, hd, hn => by
  rw [DataW.weightsAll]
  rcases List.mem_cons.1 hd with rfl | hd
  ·exact List.mem_append_left _ hn
  exact List.mem_append_right _ (QY hd hn)
theorem XG {H : Type} {P : Program} {n : Nat} : ∀ {ts : List TypeId} {ds : List (DataW H)} {i : Nat} {t : TypeId} {d : DataW H}, ts[i]? = some t → ds[i]? = some d → n ∈ DataW.weights P t d → n ∈ DataW.weightsEach P ts ds
 | [], _, i, _, _, h, _, _ => by simp at h
 | _ :: _, [], i, _, _, _, h, _ => by simp at h
 | t :: ts, d :: ds, 0, _, _, h1, h2, hn => by
  simp at h1 h2; subst h1; subst h2
  rw [DataW.weightsEach]; exact List.mem_append_left _ hn
 | t :: ts, d :: ds, i + 1, _, _, h1, h2, hn => by
  rw [DataW.weightsEach]; exact List.mem_append_right _ (XG (i := i) (by simpa using h1) (by simpa using h2) hn)
section
variable {P : Program}
theorem Opens.int {t : TypeId} (ht : P.underlying t = some (.int .i64)) (hc : P.cellsOf t = 1) : Opens P t Int (fun n => [iI n]) (fun n => -9223372036854775808 ≤ n ∧ n < 9223372036854775808) := by
 refine ⟨fun _ => hc.symm, fun h _ => ?_⟩
 obtain ⟨n, rfl, _, hw⟩ := DataW.trod_int ht h
 simp [Lit.wf, IntKind.min, IntKind.max, IntKind.signed, IntKind.bits] at hw
 exact ⟨n, ⟨by omega, by omega⟩, .one (by simp [Rel])⟩
theorem Opens.word {t : TypeId} (ht : P.underlying t = some (.int .u64)) (hc : P.cellsOf t = 1) : Opens P t (BitVec 64) (fun w => [iW w]) (fun _ => True) := by
 refine ⟨fun _ => hc.symm, fun h _ => ?_⟩
 obtain ⟨n, rfl, _, hw⟩ := DataW.trod_int ht h
 simp [Lit.wf, IntKind.min, IntKind.max, IntKind.signed, IntKind.bits] at hw
 refine ⟨BitVec.ofNat 64 n.toNat, trivial, .one ?_⟩
 simp only [Rel, BitVec.toNat_ofNat]
 congr 1
 omega
theorem Opens.bool {t : TypeId} (ht : P.underlying t = some .bool) (hc : P.cellsOf t = 1) : Opens P t Bool (fun b => [.bool b]) (fun _ => True) := by
 refine ⟨fun _ => hc.symm, fun h _ => ?_⟩
 obtain ⟨b, rfl, _⟩ := DataW.trod_bool ht h
 exact ⟨b, trivial, .one (by simp [Rel])⟩
theorem Opens.str {t : TypeId} (ht : P.underlying t = some .string) (hc : P.cellsOf t = 1) : Opens P t ByteArray (fun b => [.str b]) (fun b => b.size ≤ 140737488351232) := by
 refine ⟨fun _ => hc.symm, fun {H enc W base spare held fuel cs x} h hw => ?_⟩
 obtain ⟨b, rfl, hx, hl⟩ := DataW.trod_string ht h
 have hl := hw b.size (by rw [hx]; simp [DataW.weights])
 exact ⟨b, hl, .one (by simp [Rel])⟩
theorem Za2 {w : World} {base : Nat} {a : Addr} {n : Nat} {cs : List Value} (h : w.cells? base a n = some cs) : cs.length = n ∧ ∀ (i : Nat) x, cs[i]? = some x → w.cell? (a.add i) = some x := by
 unfold World.cells? at h
 split at h
 ·have hl : cs.length = n := by simpa using mapM_some_length h
  refine ⟨hl, fun i x hi => ?_⟩
  have hin : i < n := by have := (List.getElem?_eq_some_iff.1 hi).1; omega
  have := mapM_some_get h i i (by simp [hin])
  rw [this, hi]
 cases h
theorem add_add (a : Addr) (x y : Nat) : (a.add x).add y = a.add (x + y) := by
 by_cases hx : x = 0 <;> by_cases hy : y = 0 <;> simp [Addr.add, hx, hy, Nat.add_assoc]
theorem Zbd {e : TypeId} {α : Type} {f : α → List VVal} {ok : α → Prop} (he : Opens P e α f ok) {H : Type} {enc : TypeId × Value → H} {W : World} {base : Nat} {spare : Nat → Bool} {held : Bool} {fuel : Nat} {a : Addr} :
  ∀ (n s : Nat), (∀ i, i < n → ∃ y, (W.cells? base (a.add ((s + i) * P.cellsOf e)) (P.cellsOf e)).bind (DataW.trod enc P W base spare held fuel e) = some y ∧ ∀ n, n ∈ DataW.weights P e y.1 → n ≤ 140737488351232) →
   ∃ (l : List α) (xs : List Value), l.length = n ∧ (∀ x, x ∈ l → ok x) ∧ RelL (fin W) (l.flatMap f) xs ∧ ∀ (j : Nat) x, xs[j]? = some x → W.cell? (a.add (s * P.cellsOf e + j)) = some x
 | 0, s, _ => ⟨[], [], rfl, fun _ h => (by cases h), .nil, fun j x h => (by simp at h)⟩
 | n + 1, s, h => by
  obtain ⟨y, hy, hwy⟩ := h 0 (by omega)
  rw [Nat.add_zero] at hy
  simp only [Option.bind_eq_some_iff] at hy
  obtain ⟨cs, hcs, hy⟩ := hy
  obtain ⟨b, hb, rb⟩ := he.opn hy hwy
  obtain ⟨l, xs, h1, h2, h3, h4⟩ := Zbd he n (s + 1) (fun i hi => by
   obtain ⟨y, hy, hwy⟩ := h (i + 1) (by omega)
   exact ⟨y, by rw [show s + 1 + i = s + (i + 1) from by omega]; exact hy, hwy⟩)
  obtain ⟨c1, c2⟩ := Za2 hcs
  refine ⟨b :: l, cs ++ xs, by simp [h1], ?_, ?_, ?_⟩
  ·intro x hx
   rcases List.mem_cons.1 hx with rfl | hx
   ·exact hb
   exact h2 x hx
  ·rw [List.flatMap_cons]; exact rb.append h3
  intro j x hj
  by_cases hjl : j < cs.length
  ·rw [List.getElem?_append_left hjl] at hj
   have := c2 j x hj
   rw [add_add] at this; exact this
  rw [List.getElem?_append_right (by omega)] at hj
  have := h4 _ x hj
  rw [show (s + 1) * P.cellsOf e + (j - cs.length) = s * P.cellsOf e + j from by rw [Nat.add_mul, c1] at *; omega] at this
  exact this
theorem Opens.slice {t e : TypeId} {α : Type} {f : α → List VVal} {ok : α → Prop} (es bt : Nat) (he : Opens P e α f ok) (ht : P.underlying t = some (.slice e)) (hc : P.cellsOf t = 1) (hes : P.cellsOf e = es) (hbt : P.bytesOf e = bt) (hpos : 0 < es) :
  Opens P t (List α) (fun l => [.fsl (l.flatMap f) l.length es false]) (fun l => l.length * bt ≤ 140737488351232 ∧ ∀ x, x ∈ l → ok x) := by
 subst hes hbt
 refine ⟨fun _ => hc.symm, fun {H enc W base spare held fuel cs x} h hw => ?_⟩
 rcases DataW.trod_slice ht h with ⟨rfl, _⟩ | ⟨a, len, cap, elems, rest, n, rfl, rfl, hx, _, hlc, hcap, hel, hcell, _⟩
 ·refine ⟨[], ⟨by simp, fun _ h => (by cases h)⟩, .one ?_⟩
  simp only [Rel]
  exact ⟨none, 0, [], rfl, Nat.le_refl _, fun h => (by cases h), fun _ => rfl, .nil, .inl rfl⟩
 obtain ⟨l, xs, h1, h2, h3, h4⟩ := Zbd he (a := a) len 0 (fun i hi => by
  have hlt : i < elems.length := by omega
  refine ⟨elems[i], by rw [Nat.zero_add, hcell i hi]; simp [hlt], fun n hn => hw n ?_⟩
  rw [hx]
  simp only [DataW.weights, ht]
  exact List.mem_cons_of_mem _ (List.mem_append_left _ (QY (List.mem_map.2 ⟨elems[i], List.getElem_mem hlt, rfl⟩) hn)))
 have hb := hw ((elems.map (·.1)).length * P.bytesOf e + (rest.map (·.1)).length * P.bytesOf e) (by
  rw [hx]; simp only [DataW.weights, ht, ← Nat.add_mul]; exact List.mem_cons_self ..)
 have hle : l.length * P.bytesOf e ≤ 140737488351232 := by
  rw [List.length_map, hel, ← h1] at hb; omega
 refine ⟨l, ⟨hle, h2⟩, .one ?_⟩
 simp only [Rel]
 refine ⟨some a, cap, xs, by rw [h1], by omega, fun h => (by cases h), fun h => (by cases h), h3, ?_⟩
 rcases Nat.eq_zero_or_pos len with h0 | h0
 ·exact .inl (by omega)
 right
 have hxl : 0 < xs.length := by
  rw [← h3.length]
  cases l with
  | nil => simp at h1; omega
  | cons b l => rw [List.flatMap_cons, List.length_append, he.len]; omega
 have hx0 : W.cell? a = some xs[0] := by simpa [Addr.add] using h4 0 xs[0] (by simp [hxl])
 have key : ∃ arr tt fr, W.heap[a.block]? = some (.cells arr tt fr) ∧ a = ⟨a.block, a.off, none⟩ ∧ ∀ j, W.cell? (a.add j) = arr[a.off + j]? := by
  obtain ⟨ab, ao, asg⟩ := a
  simp only [World.cell?] at hx0
  split at hx0
  ·rename_i arr tt fr hh
   have hs' : asg = none := by
    cases asg with
    | none => rfl
    | some q => simp at hx0
   subst hs'
   refine ⟨arr, tt, fr, hh, rfl, fun j => ?_⟩
   rw [Addr.add_lit]
   simp [World.cell?, hh]
  cases hx0
 obtain ⟨arr, tt, fr, k1, k2, k3⟩ := key
 refine ⟨a.block, a.off, arr, by rw [← k2], by simp [fin, k1], fun j x hj => ?_⟩
 have := h4 j x hj
 rw [show 0 * P.cellsOf e + j = j from by omega, k3] at this
 exact this
theorem Opens.slice1 {t e : TypeId} {α : Type} {g : α → VVal} {ok : α → Prop} (bt : Nat) (he : Opens P e α (fun a => [g a]) ok) (ht : P.underlying t = some (.slice e)) (hc : P.cellsOf t = 1) (hes : P.cellsOf e = 1) (hbt : P.bytesOf e = bt) :
  Opens P t (List α) (fun l => [.fsl (l.map g) l.length 1 false]) (fun l => l.length * bt ≤ 140737488351232 ∧ ∀ x, x ∈ l → ok x) := by
 have h := Opens.slice 1 bt he ht hc hes hbt (by omega)
 have e : (fun l : List α => [VVal.fsl (l.flatMap fun a => [g a]) l.length 1 false]) = fun l => [.fsl (l.map g) l.length 1 false] := by
  funext l
  have : (l.flatMap fun a => [g a]) = l.map g := by
   induction l with
   | nil => rfl
   | cons a l ih => rw [List.flatMap_cons, ih]; rfl
  rw [this]
 rw [e] at h; exact h
inductive OpensF (P : Program) : List Field → Nat → (α : Type) → (α → List VVal) → (α → Prop) → Prop where
 | nil (off : Nat) : OpensF P [] off Unit (fun _ => []) (fun _ => True)
 | cons {fd : Field} {fs : List Field} {off : Nat} {α β : Type} {f : α → List VVal} {g : β → List VVal} {ok : α → Prop} {ok' : β → Prop} (h : Opens P fd.type α f ok) (ho : fd.offset = off) (k : OpensF P fs (off + P.cellsOf fd.type) β g ok') :
  OpensF P (fd :: fs) off (α × β) (fun x => f x.1 ++ g x.2) (fun x => ok x.1 ∧ ok' x.2)
theorem OpensF.opn {fs : List Field} {off : Nat} {α : Type} {f : α → List VVal} {ok : α → Prop} (h : OpensF P fs off α f ok) : (∀ a b, (f a).length = (f b).length) ∧ ∀ {H : Type} {enc : TypeId × Value → H} {W : World} {base : Nat} {spare : Nat → Bool} {held : Bool} {fuel : Nat} {cs : List Value},
  (∀ fd, fd ∈ fs → ∃ x, DataW.trod enc P W base spare held fuel fd.type ((cs.drop fd.offset).take (P.cellsOf fd.type)) = some x ∧ ∀ n, n ∈ DataW.weights P fd.type x.1 → n ≤ 140737488351232) → (∀ a, cs.length = off + (f a).length) → ∃ a, ok a ∧ RelL (fin W) (f a) (cs.drop off) := by
 induction h with
 | nil off =>
  refine ⟨fun _ _ => rfl, fun {H enc W base spare held fuel cs} _ hl => ⟨(), trivial, ?_⟩⟩
  have := hl ()
  rw [List.drop_eq_nil_of_le (by simp at this; omega)]
  exact .nil
 | cons h ho k ih =>
  rename_i fd fs off α β f g ok ok'
  refine ⟨fun a b => by simp only [List.length_append, h.len]; rw [ih.1 a.2 b.2], fun {H enc W base spare held fuel cs} hf hl => ?_⟩
  obtain ⟨x, hx, hwx⟩ := hf fd (List.mem_cons_self ..)
  obtain ⟨a, ha, ra⟩ := h.opn hx hwx
  have hlen : ∀ b, cs.length = off + P.cellsOf fd.type + (g b).length := fun b => by
   have := hl (a, b)
   simp only [List.length_append, h.len] at this
   omega
  obtain ⟨b, hb, rb⟩ := ih.2 (fun fd' hfd => hf fd' (List.mem_cons_of_mem _ hfd)) hlen
  refine ⟨(a, b), ⟨ha, hb⟩, ?_⟩
  rw [ho] at ra
  have e : cs.drop off = (cs.drop off).take (P.cellsOf fd.type) ++ cs.drop (off + P.cellsOf fd.type) := by
   rw [← List.drop_drop, List.take_append_drop]
  rw [e]
  exact ra.append rb
theorem Opens.struct {t : TypeId} {fs : Array Field} {α : Type} {f : α → List VVal} {ok : α → Prop} (ht : P.underlying t = some (.struct fs)) (h : OpensF P fs.toList 0 α f ok) (hc : ∀ a, (f a).length = P.cellsOf t) :
  Opens P t α f ok := by
 refine ⟨hc, fun {H enc W base spare held fuel cs x} hx hw => ?_⟩
 obtain ⟨xs, n, rfl, hxx, hl, hxl, hget⟩ := DataW.trod_struct ht hx
 obtain ⟨a, ha, ra⟩ := h.opn.2 (enc := enc) (W := W) (base := base) (spare := spare) (held := held) (fuel := n) (cs := cs) (fun fd hfd => by
  obtain ⟨i, hi⟩ := List.mem_iff_getElem?.1 hfd
  have hi' : fs[i]? = some fd := by simpa using hi
  have := hget i fd hi'
  have hlt : i < xs.length := by rw [hxl]; exact (Array.getElem?_eq_some_iff.1 hi').1
  refine ⟨xs[i], by rw [this]; simp [hlt], fun n hn => hw n ?_⟩
  rw [hxx]
  simp only [DataW.weights, ht]
  exact XG (i := i) (by rw [List.getElem?_map, hi]; rfl) (by rw [List.getElem?_map]; simp [hlt]) hn) (fun a => by rw [hl, hc]; simp)
 exact ⟨a, ha, by simpa using ra⟩
end
end Go.V
