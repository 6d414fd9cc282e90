/- Proved: Rows.TallyOwnCardSaid, the statement TallyOwn with its card, of the given program at the commit; no conditions beyond those in the statement. -/
import Derived.Test.YtccgigdjkghieaaDoorC12x3
import Derived.Laws.IdiomCopy
import Derived.Laws.IdiomStrings
set_option autoImplicit false
set_option linter.unusedVariables false
set_option linter.unusedSimpArgs false
namespace Go.V
open Go Go.RowKit
section
variable {P : Program} {T : TypeId → Option VTy}
theorem heap_setCell (w : World) (r o : Nat) (v : Value) {arr : Array Value} {t : TypeId} {fr : Nat × Nat} (h : w.heap[r]? = some (.cells arr t fr)) :
  (w.setCell ⟨r, o, none⟩ v).heap[r]? = some (.cells (arr.setIfInBounds o v) t fr) := by
 simp [World.setCell, Array.getElem?_modify, h]
theorem JM (r : Nat) : ∀ (vs : List Value) (o : Nat) (w : World) {arr : Array Value} {t : TypeId} {fr : Nat × Nat}, w.heap[r]? = some (.cells arr t fr) → o + vs.length ≤ arr.size →
  ∃ arr' : Array Value, (w.setCells r o vs).heap[r]? = some (.cells arr' t fr) ∧ arr'.size = arr.size ∧ (∀ i, arr'[i]? = if o ≤ i ∧ i < o + vs.length then vs[i - o]? else arr[i]?)
 | [], o, w, arr, t, fr, h, _ => ⟨arr, h, rfl, fun i => by rw [if_neg (by simp only [List.length_nil]; omega)]⟩
 | v :: vs, o, w, arr, t, fr, h, hl => by
  simp only [List.length_cons] at hl
  obtain ⟨arr', h1, h2, h3⟩ := JM r vs (o + 1) (w.setCell ⟨r, o, none⟩ v) (heap_setCell w r o v h) (by simp; omega)
  refine ⟨arr', h1, by simpa using h2, fun i => ?_⟩
  rw [h3 i]
  by_cases hio : i = o
  ·subst hio
   rw [if_neg (by omega), if_pos (by simp)]
   simp [Array.getElem?_setIfInBounds]; omega
  by_cases hin : o ≤ i ∧ i < o + (v :: vs).length
  ·have : i - o = (i - (o + 1)) + 1 := by omega
   rw [if_pos (by simp at hin; omega), if_pos hin, this]; simp
  rw [if_neg (by simp at hin; omega), if_neg hin]
  rw [Array.getElem?_setIfInBounds_ne (by omega)]
theorem XH (r : Nat) : ∀ (vs : List Value) (o : Nat) (w : World) (i : Nat), i ≠ r → (w.setCells r o vs).heap[i]? = w.heap[i]?
 | [], _, _, _, _ => rfl
 | v :: vs, o, w, i, h => by
  rw [World.setCells, XH r vs _ _ i h]
  exact Below.heap_setCell w ⟨r, o, none⟩ v i h
theorem Q0 {B : Nat} {w0 : World} (r : Nat) : ∀ (vs : List Value) (o : Nat) (w : World), Below B w0 w → B ≤ r → Below B w0 (w.setCells r o vs)
 | [], _, _, h, _ => h
 | v :: vs, o, w, h, hr => Q0 r vs (o + 1) _ (h.setCell (p := ⟨r, o, none⟩) hr v) hr
theorem Sim.write {w0 w : World} {ι : Inj} {H : Ze} (s : Sim w0 ι H w) {b : Nat} {e : Ent} {cs : List VVal} (h : ι b = some e) (g : H[b]? = some (.cells cs true)) {off : Nat} {new : List VVal} {new' : List Value}
  (hoff : off ≤ cs.length) {L : Nat} (hL : e.lim = some L) (hfit : off + new.length ≤ L) (hn : RelL ι new new') :
  Sim w0 ι (H.set b (.cells (Zx cs off new) true)) (w.setCells e.r (e.sh + off) new') ∧
  (∀ j, j < new'.length → (w.cell? ⟨e.r, e.sh + off + j, none⟩).isSome = true) ∧ (∀ j, j < new'.length → w.frozen? ⟨e.r, e.sh + off + j, none⟩ = false) := by
 obtain ⟨arr, t, fr, cs', ha, hr, hc, hw⟩ := s.blk b e _ h g
 rw [if_pos rfl] at hw
 obtain ⟨hge, hlim, hsh, hfz⟩ := hw
 rw [hL] at hlim
 have hLs : L = arr.size - e.sh := by cases hlim; rfl
 have hnl := hn.length
 obtain ⟨arr', h1, h2, h3⟩ := JM e.r new' (e.sh + off) w ha (by omega)
 refine ⟨s.turn h g rfl _ (Q0 e.r _ _ _ s.below hge) (fun i hi hne => XH e.r _ _ _ i hne) ?_ (.inl rfl), fun j hj => ?_, fun j hj => ?_⟩
 ·refine ⟨arr', t, fr, cs'.take off ++ new' ++ cs'.drop (off + new'.length), h1, ZbT hr hn, fun i v hi => ?_, by rw [if_pos rfl]; exact ⟨hge, by rw [h2, hL, hLs], by omega, by rw [h2]; exact hfz⟩⟩
  rw [h3]
  have hcl := hr.length
  by_cases i1 : i < off
  ·rw [if_neg (by omega)]
   rw [List.append_assoc, List.getElem?_append_left (by simp; omega), List.getElem?_take, if_pos i1] at hi
   exact hc i v hi
  by_cases i2 : i < off + new'.length
  ·rw [if_pos (by omega)]
   rw [List.append_assoc, List.getElem?_append_right (by simp; omega), List.getElem?_append_left (by simp; omega)] at hi
   simp only [List.length_take] at hi
   rw [show e.sh + i - (e.sh + off) = i - min off cs'.length from by omega]
   exact hi
  rw [if_neg (by omega)]
  rw [List.getElem?_append_right (by simp; omega), List.getElem?_drop] at hi
  simp only [List.length_append, List.length_take] at hi
  refine hc i v ?_
  rw [← hi]; congr 1; omega
 ·have hlt : e.sh + off + j < arr.size := by omega
  simp [World.cell?, ha, hlt]
 have : ¬ (fr.1 ≤ e.sh + off + j ∧ e.sh + off + j < fr.2) := by rcases hfz with q | q <;> omega
 simp only [World.frozen?, ha]
 simp only [Bool.and_eq_false_iff, decide_eq_false_iff_not]
 by_cases hx : fr.1 ≤ e.sh + off + j
 ·exact .inr fun hy => this ⟨hx, hy⟩
 exact .inl hx
theorem ZbB {ι : Inj} : ∀ {cs : List VVal} {cs' : List Value}, RelL ι cs cs' → cs.all VVal.one = true → ∀ v, v ∈ cs' → v.oneCell' = true
 | [], cs', h, _, v, hv => by simp only [RelL] at h; subst h; cases hv
 | c :: cs, cs', h, ho, v, hv => by
  simp only [RelL] at h
  obtain ⟨y, ys, rfl, ry, rs⟩ := h
  simp only [List.all_cons, Bool.and_eq_true] at ho
  rcases List.mem_cons.1 hv with rfl | hv
  ·exact one_rel ry ho.1
  exact ZbB rs ho.2 v hv
def Ends (w0 : World) (ι : Inj) (H : Ze) (v : VVal) (H' : Ze) : Result Next → Prop
 | .ok (.value x) w' => ∃ ι', Inj.ex H.length ι ι' ∧ Sim w0 ι' H' w' ∧ Rel ι' v x
 | .ok .skip w' => v = .skip ∧ ∃ ι', Inj.ex H.length ι ι' ∧ Sim w0 ι' H' w'
 | _ => False
theorem JQ {w0 w : World} {ι : Inj} {H H' : Ze} (s : Sim w0 ι H w) {p : Nat × Nat} {e : Ent} {new : List VVal} {new' : List Value} (h : QM H p new = some H') (he : ι p.1 = some e) (hn : RelL ι new new') (ho : new.all VVal.one = true) :
  (storeCells ⟨e.r, e.sh + p.2, none⟩ new').run P w = .ok () (w.setCells e.r (e.sh + p.2) new') ∧ Sim w0 ι H' (w.setCells e.r (e.sh + p.2) new') := by
 unfold QM at h
 split at h
 ·rename_i cs hg
  split at h
  ·rename_i hfit
   cases h
   obtain ⟨arr, t, fr, cs', ha, hr, hc, hw⟩ := s.blk _ e _ he hg
   rw [if_pos rfl] at hw
   obtain ⟨hge, hlim, hsh, hfz⟩ := hw
   have hbnd : cs.length ≤ arr.size - e.sh := by
    rw [hr.length]
    rcases Nat.eq_zero_or_pos cs'.length with h0 | h0
    ·omega
    have := hc (cs'.length - 1) cs'[cs'.length - 1] (by simp)
    have := (Array.getElem?_eq_some_iff.1 this).1
    omega
   obtain ⟨a, b, c⟩ := s.write he hg (off := p.2) (by omega) hlim (by omega) hn
   refine ⟨?_, a⟩
   have := run_storeCells_cells (P := P) e.r (e.sh + p.2) new' 0 w (by simpa using b) (by simpa using c) (ZbB hn ho)
   simpa using this
  cases h
 cases h
theorem Inj.ex_refl' {n : Nat} {ι : Inj} : Inj.ex n ι ι := Inj.ex_refl _ _
theorem store_run (hT : TOk P T) {w0 w : World} {ρ : Operand → VVal} {ρ' : Operand → Value} {o : Oper} {t : TypeId} {a x : Operand} {H H' : Ze} {ι : Inj} (s : Sim w0 ι H w) (ho : o.op = .store t a x)
  (h : Zbj T H t (ρ a) (ρ x) = some H') (ra : Rel ι (ρ a) (ρ' a)) (rx : Rel ι (ρ x) (ρ' x)) : Ends w0 ι H .skip H' ((execOp ρ' o).run P w) := by
 unfold Zbj at h
 split at h
 ·rename_i p y cs hp hy hcs
  obtain ⟨b, off⟩ := p
  split at h
  ·rename_i hcnd
   rw [hp] at ra
   simp only [Rel] at ra
   obtain ⟨e, he, hra⟩ := ra
   have rc := Za0 rx hcs
   obtain ⟨h1, h2⟩ := JQ (P := P) s h he rc hcnd.2
   have hsz := (hT _ _ hy).run_size w
   have hl : (ρ' x).cells.size = y.size := by have := rc.length; simp at this; omega
   simp only [execOp, ho, hra, Instr.storeAt, Instr.sureAddr, storeVar, Sem.run_bind, Sem.run_pure, Result.andThen_ok, hsz]
   rw [if_neg (by simp [hl])]
   simp only [Sem.run_bind, Sem.run_pure, Result.andThen_ok, h1]
   exact ⟨rfl, ι, Inj.ex_refl', h2⟩
  cases h
 cases h
theorem ZbY (hT : TOk P T) {u : TypeId} {du : TypeDesc} (h : (T u).map (·.desc) = some du) (hs : XJ du = true) : (∃ e', P.underlying u = some (.slice e')) ∨ P.underlying u = some .string := by
 simp only [Option.map_eq_some_iff] at h
 obtain ⟨y, hy, rfl⟩ := h
 have hu := (hT _ _ hy).und
 unfold XJ at hs
 split at hs
 ·rename_i e hd; rw [hd] at hu; exact .inl ⟨e, hu⟩
 ·rename_i hd; rw [hd] at hu; exact .inr hu
 cases hs
theorem src_of {w0 w : World} {ι : Inj} {H : Ze} (s : Sim w0 ι H w) {tx : TypeId} (hk : (∃ e', P.underlying tx = some (.slice e')) ∨ P.underlying tx = some .string) {size k : Nat} {x : VVal} {x' : Value} {new : List VVal}
  (hx : Rel ι x x') (hl : YO x = some k) (hc : ZU H size k x = some new) (hn : new.length = k * size) (ho : new.all VVal.one = true) : ∃ news, RelL ι new news ∧ Src P size tx x' k news w := by
 cases x <;> simp only [YO, reduceCtorEq, Option.some.injEq] at hl
 case slice a len cap ex es =>
  subst hl
  cases a with
  | none =>
   simp only [ZU, Option.some.injEq] at hc
   subst hc
   simp only [Rel] at hx
   obtain ⟨rfl, _, hx⟩ := hx
   refine ⟨[], .nil, ?_⟩
   split at hx
   ·subst hx
    exact ⟨hk, fun _ => rfl, run_firstCells_none w size 0 0 0, run_firstCells_none w.drew size 0 0 0, by simp, fun _ h => by cases h⟩
   obtain ⟨a, c, rfl⟩ := hx
   exact ⟨hk, fun _ => rfl, run_firstCells_some w size 0 a 0 c [] (by simp) (by simp), run_firstCells_some w.drew size 0 a 0 c [] (by simp) (by simp), by simp, fun _ h => by cases h⟩
  | some p =>
   obtain ⟨b, off⟩ := p
   simp only [ZU] at hc
   split at hc
   ·rename_i cs rw hg
    simp only [Rel] at hx
    obtain ⟨e, c, he, _, _, _, rfl⟩ := hx
    obtain ⟨xs, rx, hxl, hcell⟩ := s.cells he hg hc
    refine ⟨xs, rx, hk, fun _ => rfl, run_firstCells_some w size len _ len c xs hxl hcell, run_firstCells_some w.drew size len _ len c xs hxl (by simpa using hcell), hxl, ZbB rx ho⟩
   cases hc
 case fsl fs n fes fex =>
  subst hl
  simp only [ZU] at hc
  simp only [Rel] at hx
  obtain ⟨a, c, xs, rfl, hlc, _, hnone, hrl, hor⟩ := hx
  rcases hor with rfl | ⟨rr, off, arr, rfl, hz', hx'⟩
  ·have hn0 : new = [] := by
    have := (Yi hrl hc).2.1
    simpa using this
   subst hn0
   refine ⟨[], .nil, ?_⟩
   cases a with
   | none =>
    have := hnone rfl; subst this
    exact ⟨hk, fun _ => rfl, run_firstCells_none w size 0 0 0, run_firstCells_none w.drew size 0 0 0, by simp, fun _ h => by cases h⟩
   | some a => exact ⟨hk, fun _ => rfl, run_firstCells_some w size 0 a 0 c [] (by simp) (by simp), run_firstCells_some w.drew size 0 a 0 c [] (by simp) (by simp), by simp, fun _ h => by cases h⟩
  obtain ⟨ys, rx, hyl, hcell⟩ := Jq s hz' hrl hx' hc
  have hcell' : ∀ j v, ys[j]? = some v → w.cell? ((⟨rr, off, none⟩ : Addr).add j) = some v := fun j v hj => by simpa using (hcell j v hj).2
  refine ⟨ys, rx, hk, fun _ => rfl, run_firstCells_some w size n _ n c ys hyl hcell', run_firstCells_some w.drew size n _ n c ys hyl (by simpa using hcell'), hyl, ZbB rx ho⟩
 case str sb =>
  subst hl
  simp only [ZU, Option.some.injEq] at hc
  simp only [Rel] at hx; subst hx
  have hb : (sb.extract 0 sb.size).data.toList = sb.data.toList := by simp
  rw [hb] at hc
  refine ⟨byteCells sb, ?_, hk, fun _ => rfl, ?_, ?_, ?_, ?_⟩
  ·subst hc
   unfold byteCells
   exact RelL.map _ _ _ fun c _ => by simp [Rel]
  ·have := firstCells_string (P := P) sb w
   simpa [Builtin.firstCells] using this
  ·have := firstCells_string (P := P) sb w.drew
   simpa [Builtin.firstCells] using this
  ·have h1 : new.length = sb.size := by rw [← hc]; simp
   rw [byteCells_length, ← hn, h1]
  intro u hu
  obtain ⟨_, _, rfl⟩ := List.mem_map.1 hu
  rfl
theorem Sim.kill {w0 w : World} {ι : Inj} {H : Ze} (s : Sim w0 ι H w) {b : Nat} {e : Ent} {k : VBlk} (h : ι b = some e) (g : H[b]? = some k) (ho : k.owns = true) : Sim w0 ι (H.set b .dead) w :=
 s.turn h g ho .dead s.below (fun _ _ _ => rfl) trivial (.inr rfl)
theorem Sim.move {w0 w : World} {ι : Inj} {H : Ze} (s : Sim w0 ι H w) {b : Nat} {e : Ent} {cs l : List VVal} {off n L : Nat} (h : ι b = some e) (g : H[b]? = some (.cells cs true)) (hl : Zo cs off n = some l) (hL : e.lim = some L) :
  Sim w0 (ι.ext H.length ⟨e.r, e.sh + off, some (L - off)⟩) (H.set b .dead ++ [.cells l true]) w ∧ Inj.ex H.length ι (ι.ext H.length ⟨e.r, e.sh + off, some (L - off)⟩) := by
 have hex := Zag ι H.length ⟨e.r, e.sh + off, some (L - off)⟩
 have hle := s.le hex
 have hbl := s.dom b e h
 have hlen : (H.set b .dead).length = H.length := by simp
 refine ⟨⟨s.below, s.frz.new rfl rfl (fun _ _ => rfl), ?_, ?_, ?_, ?_⟩, hex⟩
 ·intro r arr c ec kc hz hc hg ho
  rw [Inj.ext_z] at hz
  by_cases hcn : c = H.length
  ·rw [Inj.ext_m, if_pos hcn] at hc; cases hc
   exact s.fo r arr b e _ hz h g rfl
  rw [Inj.ext_m, if_neg hcn] at hc
  have hlt := s.dom c ec hc
  rw [List.getElem?_append_left (by simp; omega)] at hg
  by_cases hcb : c = b
  ·subst hcb
   rw [List.getElem?_set_self hbl] at hg; cases hg
   simp [VBlk.owns] at ho
  rw [List.getElem?_set_ne (Ne.symm hcb)] at hg
  exact s.fo r arr c ec kc hz hc hg ho
 ·intro c ec hc
  rw [Inj.ext_m] at hc
  split at hc
  ·subst_vars; simp
  have := s.dom c ec hc; simp; omega
 ·intro c ec kc hc hg
  by_cases hcn : c = H.length
  ·subst hcn
   rw [List.getElem?_append_right (by simp)] at hg
   simp at hg; subst hg
   rw [Inj.ext_m] at hc; simp at hc; subst hc
   obtain ⟨arr, t, fr, cs', ha, hr, hcc, hw⟩ := s.blk b e _ h g
   rw [if_pos rfl] at hw
   obtain ⟨hge, hlim, hsh, hfz⟩ := hw
   rw [hL] at hlim
   have hLs : L = arr.size - e.sh := by cases hlim; rfl
   obtain ⟨q1, q2, q3⟩ := Yi hr hl
   refine ⟨arr, t, fr, (cs'.drop off).take n, ha, RelL.mono hle _ _ q1, fun i v hi => ?_, by
    rw [if_pos rfl]
    have hcl := hr.length
    have hoff : off ≤ arr.size - e.sh := by
     rcases Nat.eq_zero_or_pos cs'.length with h0 | h0
     ·omega
     have := hcc (cs'.length - 1) cs'[cs'.length - 1] (by simp)
     have := (Array.getElem?_eq_some_iff.1 this).1
     omega
    exact ⟨hge, by simp; omega, by simp; omega, hfz⟩⟩
   rw [List.getElem?_take] at hi
   split at hi
   ·rw [List.getElem?_drop] at hi
    rw [Nat.add_assoc]
    exact hcc _ _ hi
   cases hi
  have h0 : ι c = some ec := by rw [Inj.ext_m, if_neg hcn] at hc; exact hc
  have hlt := s.dom c ec h0
  rw [List.getElem?_append_left (by simp; omega)] at hg
  by_cases hcb : c = b
  ·subst hcb
   rw [List.getElem?_set_self hbl] at hg; cases hg
   trivial
  rw [List.getElem?_set_ne (Ne.symm hcb)] at hg
  exact (s.blk c ec kc h0 hg).mono hle
 intro c c' e1 e2 k1 k2 h1 h2 g1 g2 o1 o2 hr
 have aux : ∀ (d : Nat) (ed : Ent) (kd : VBlk), (ι.ext H.length ⟨e.r, e.sh + off, some (L - off)⟩) d = some ed → (H.set b .dead ++ [.cells l true])[d]? = some kd → kd.owns = true →
   (d = H.length ∧ ed.r = e.r) ∨ (d ≠ H.length ∧ d ≠ b ∧ ι d = some ed ∧ ∃ kd', H[d]? = some kd' ∧ kd'.owns = true) := by
  intro d ed kd hd hg ho
  by_cases hdn : d = H.length
  ·subst hdn; rw [Inj.ext_m] at hd; simp at hd; exact .inl ⟨rfl, by rw [← hd]⟩
  have h0 : ι d = some ed := by rw [Inj.ext_m, if_neg hdn] at hd; exact hd
  have hlt := s.dom d ed h0
  rw [List.getElem?_append_left (by simp; omega)] at hg
  by_cases hdb : d = b
  ·subst hdb
   rw [List.getElem?_set_self hbl] at hg; cases hg
   simp [VBlk.owns] at ho
  rw [List.getElem?_set_ne (Ne.symm hdb)] at hg
  exact .inr ⟨hdn, hdb, h0, kd, hg, ho⟩
 rcases aux c e1 k1 h1 g1 o1 with ⟨rfl, r1⟩ | ⟨n1, nb1, i1, kd1, j1, ow1⟩ <;> rcases aux c' e2 k2 h2 g2 o2 with ⟨rfl, r2⟩ | ⟨n2, nb2, i2, kd2, j2, ow2⟩
 ·rfl
 ·exact absurd (s.inj b c' e e2 _ kd2 h i2 g j2 rfl ow2 (by omega)).symm nb2
 ·exact absurd (s.inj c b e1 e kd1 _ i1 h j1 g ow1 rfl (by omega)) nb1
 exact s.inj c c' e1 e2 kd1 kd2 i1 i2 j1 j2 ow1 ow2 hr
theorem Zbe (w : World) (need old : Nat) (e : TypeId) : need ≤ grownCap w need old e := by
 unfold grownCap Question.cut; exact Nat.le_add_right _ _
theorem cellsAt_eq {cs l : List VVal} {off n : Nat} (h : Zo cs off n = some l) : off + n ≤ cs.length ∧ l = (cs.drop off).take n := by
 unfold Zo at h
 by_cases hc : off + n ≤ cs.length
 ·rw [if_pos hc] at h; cases h; exact ⟨hc, rfl⟩
 rw [if_neg hc] at h; cases h
theorem XR (zero : Array Value) (n : Nat) : (Builtin.zeroCells zero n).size = n * zero.size := by simp [Builtin.zeroCells]
theorem Sim.grown {w0 w : World} {ι : Inj} {H : Ze} (s : Sim w0 ι H w) {cs : List VVal} {cs' : List Value} {tail : Array Value} {e : TypeId} (hc : RelL ι cs cs') :
  Sim w0 (ι.ext H.length ⟨w.heap.size, 0, some (cs'.toArray ++ tail).size⟩) (H ++ [.cells cs true]) (w.drew.alloc (.cells (cs'.toArray ++ tail) e)) ∧
  Inj.ex H.length ι (ι.ext H.length ⟨w.heap.size, 0, some (cs'.toArray ++ tail).size⟩) := by
 have hb : Below w0.heap.size w0 (w.drew.alloc (.cells (cs'.toArray ++ tail) e)) := s.below.drew.alloc s.below.size _
 have hex := Zag ι H.length ⟨w.heap.size, 0, some (cs'.toArray ++ tail).size⟩
 refine ⟨(s.new ⟨w.heap.size, 0, some (cs'.toArray ++ tail).size⟩ (.cells cs true) hb (fun i hi => Below.heap_alloc _ _ _ hi) rfl ?_).1, hex⟩
 refine BRel.newHead (cs' := cs') s.below.size (RelL.mono (s.le hex) _ _ hc) (fun i v hi => ?_) (t := e) ?_
 ·have hlt : i < cs'.length := (List.getElem?_eq_some_iff.1 hi).1
  rw [Array.getElem?_append_left (by simpa using hlt)]
  simpa using hi
 show (w.heap.push _)[w.heap.size]? = _
 simp
theorem vappend_run (hT : TOk P T) {w0 w : World} {ι : Inj} {H H' : Ze} (s : Sim w0 ι H w) {ats : List TypeId} {ty : TypeId} {d x v : VVal} {d' x' : Value} (h : Yq T H ats d x = some (v, H')) (hd : Rel ι d d') (hx : Rel ι x x') :
  ∃ z w' ι', (Builtin.append_ ats.toArray ty #[d', x']).run P w = .ok z w' ∧ Inj.ex H.length ι ι' ∧ Sim w0 ι' H' w' ∧ Rel ι' v z := by
 unfold Yq at h
 split at h
 ·rename_i t u
  split at h
  ·rename_i e z a len cap ex es k he hk
   obtain ⟨hu, hz⟩ := Qq hT he
   have htz := hT _ _ hz
   obtain ⟨i, zv, hi, hri, his, hib, hiz, hsize, hzv, rz, _, _⟩ := htz.run_info
   have hzl : zv.cells.size = z.size := by
    have h1 := (rz ι).length
    have h2 := htz.zlen
    simp at h1; omega
   split at h
   ·rename_i new du hnew hdu
    split at h
    ·rename_i hcnd
     obtain ⟨hnl, hone, hpos, hbytes, hsmall, hseq⟩ := hcnd
     have hkind := ZbY hT hdu hseq
     obtain ⟨news, rnews, hsrc⟩ := src_of s hkind hx hk hnew hnl hone
     rw [← his] at hsrc
     have hnewsl : news.length = k * z.size := by rw [← rnews.length]; exact hnl
     -- a new row
     have grow : ∀ (base : Option Addr) (sLen sCap : Nat) (old : List VVal) (olds : List Value), RelL ι old olds → olds.length = sLen * z.size → (Builtin.firstCells i.size sLen (.slice base sLen sCap)).run P w.drew = .ok olds.toArray w.drew →
       sCap < sLen + k → sLen = len → ∀ H0, H0.length = H.length → Sim w0 ι H0 w →
       ∃ z' w' ι', (Builtin.append_ #[t, u] ty #[.slice base sLen sCap, x']).run P w = .ok z' w' ∧ Inj.ex H.length ι ι' ∧ Sim w0 ι' (H0 ++ [.cells (old ++ new) true]) w' ∧ Rel ι' (.slice (some (H.length, 0)) (len + k) (len + k) false z.size) z' := by
      intro base sLen sCap old olds ro hol hfc hlt hsl H0 hH0 s0
      subst hsl
      have hrun := run_append_grow_src w t u ty e i zv hu hi hiz base sLen sCap olds hfc x' k news hsrc hlt (by omega) (growslice_fits hlt (by rw [hib]; exact hbytes))
      have hg := Zbe w (sLen + k) sCap e
      obtain ⟨s1, ex1⟩ := s0.grown (tail := Builtin.zeroCells zv.cells (grownCap w (sLen + k) sCap e - (sLen + k))) (e := e) (ro.append rnews)
      rw [hH0] at s1 ex1
      refine ⟨_, _, _, hrun, ex1, s1, ?_⟩
      simp only [Rel]
      refine ⟨_, grownCap w (sLen + k) sCap e, by rw [Inj.ext_m, if_pos rfl], hg, by simp, fun L hL => ?_, rfl⟩
      cases hL
      have e1 : (olds ++ news).toArray.size = (sLen + k) * z.size := by simp [hol, hnewsl, Nat.add_mul]
      rw [Array.size_append, e1, XR, hzl, ← Nat.add_mul]
      rw [show sLen + k + (grownCap w (sLen + k) sCap e - (sLen + k)) = grownCap w (sLen + k) sCap e from by omega]
      omega
     split at h
     ·-- no place is known
      split at h
      ·cases h
      rename_i hlc
      simp only [ne_eq, not_or, Decidable.not_not] at hlc
      obtain ⟨hl0, hc0⟩ := hlc
      subst hl0; subst hc0
      split at h
      ·rename_i hk0
       subst hk0
       simp only [Option.some.injEq, Prod.mk.injEq] at h
       obtain ⟨rfl, rfl⟩ := h
       have hn0 : news = [] := by
        have : news.length = 0 := by simp [hnewsl]
        exact List.eq_nil_of_length_eq_zero this
       subst hn0
       simp only [Rel] at hd
       obtain ⟨_, _, hd⟩ := hd
       by_cases hex : ex = true
       ·rw [if_pos hex] at hd; subst hd
        refine ⟨.slice none 0 0, w, ι, ?_, Inj.ex_refl', s, by simp only [Rel]; exact ⟨trivial, trivial, by rw [if_pos hex]; trivial⟩⟩
        have hc := hsrc.cells
        rcases hsrc.kind with ⟨e', hkk⟩ | hkk <;> simp [Builtin.append_, run_underlying hu, run_underlying hkk, sizeOf, typeInfo, hi, hsrc.len, hc]
       rw [if_neg hex] at hd
       obtain ⟨ad, c, rfl⟩ := hd
       refine ⟨.slice (some ad) 0 c, w, ι, ?_, Inj.ex_refl', s, by simp only [Rel]; exact ⟨trivial, trivial, by rw [if_neg hex]; exact ⟨_, _, rfl⟩⟩⟩
       have hc := hsrc.cells
       rcases hsrc.kind with ⟨e', hkk⟩ | hkk <;> simp [Builtin.append_, run_underlying hu, run_underlying hkk, sizeOf, typeInfo, hi, hsrc.len, hc, storeCells]
      split at h
      ·cases h
      rename_i hk0 hexf
      have hex : ex = true := by simpa using hexf
      subst hex
      simp only [Option.some.injEq, Prod.mk.injEq] at h
      obtain ⟨rfl, rfl⟩ := h
      simp only [Rel, if_true] at hd
      obtain ⟨_, _, rfl⟩ := hd
      obtain ⟨z', w', ι', a1, a2, a3, a4⟩ := grow none 0 0 [] [] .nil (by simp) (run_firstCells_none w.drew i.size 0 0 0) (by omega) rfl H rfl s
      exact ⟨z', w', ι', a1, a2, by simpa using a3, by simpa using a4⟩
     rename_i b off
     split at h
     ·rename_i hes
      subst hes
      simp only [Rel] at hd
      obtain ⟨en, c, hen, hcc, hcx, hlim, rfl⟩ := hd
      split at h
      ·rename_i cs rw' hg
       split at h
       ·rename_i hroom
        split at h
        ·rename_i hk0
         subst hk0
         simp only [Option.some.injEq, Prod.mk.injEq] at h
         obtain ⟨rfl, rfl⟩ := h
         have hn0 : news = [] := by
          have : news.length = 0 := by simp [hnewsl]
          exact List.eq_nil_of_length_eq_zero this
         subst hn0
         have hrun := run_append_room_src w t u ty e i hu hi en.r (en.sh + off) len c x' 0 [] hsrc (by omega) (by simp) (by simp)
         refine ⟨_, _, ι, hrun, Inj.ex_refl', s, ?_⟩
         simp only [Rel]; exact ⟨en, c, hen, hcc, hcx, hlim, rfl⟩
        split at h
        ·rename_i hk0 hrw
         obtain ⟨rfl, hoff⟩ := hrw
         simp only [Option.some.injEq, Prod.mk.injEq] at h
         obtain ⟨rfl, rfl⟩ := h
         obtain ⟨arr, t', fr, cs', ha, hr, hc', hw⟩ := s.blk _ en _ hen hg
         rw [if_pos rfl] at hw
         obtain ⟨hge, hl, hsh, hfz⟩ := hw
         have hL := hlim _ hl
         have hfit : off + len * z.size + new.length ≤ arr.size - en.sh := by
          rw [hnl]
          have : (len + k) * z.size ≤ c * z.size := Nat.mul_le_mul_right _ (by omega)
          rw [Nat.add_mul] at this
          omega
         obtain ⟨b1, b2, b3⟩ := s.write hen hg hoff hl hfit rnews
         have hrun := run_append_room_src w t u ty e i hu hi en.r (en.sh + off) len c x' k news hsrc (by omega)
          (fun j hj => by rw [his, Nat.add_assoc en.sh]; exact b2 j hj) (fun j hj => by rw [his, Nat.add_assoc en.sh]; exact b3 j hj)
         rw [his, Nat.add_assoc en.sh] at hrun
         refine ⟨_, _, ι, hrun, Inj.ex_refl', b1, ?_⟩
         simp only [Rel]; exact ⟨en, c, hen, by omega, hcx, hlim, rfl⟩
        cases h
       rename_i hroom
       split at h
       ·rename_i old hold
        obtain ⟨olds, ro, hol, hcell⟩ := s.cells hen hg hold
        have hfc : (Builtin.firstCells i.size len (.slice (some ⟨en.r, en.sh + off, none⟩) len c)).run P w.drew = .ok olds.toArray w.drew :=
         run_firstCells_some w.drew i.size len _ len c olds (by rw [his]; exact hol) (by simpa using hcell)
        split at h
        ·rename_i hex
         have hc := hcx hex
         simp only [Option.some.injEq, Prod.mk.injEq] at h
         obtain ⟨rfl, rfl⟩ := h
         exact grow _ len c old olds ro hol hfc (by omega) rfl H rfl s
        split at h
        ·rename_i hex hrw
         subst hrw
         simp only [Option.some.injEq, Prod.mk.injEq] at h
         obtain ⟨rfl, rfl⟩ := h
         by_cases hreal : len + k ≤ c
         ·-- there is room after all: the block goes on under its new number
          obtain ⟨arr, t', fr, cs', ha, hr, hc', hw⟩ := s.blk _ en _ hen hg
          rw [if_pos rfl] at hw
          obtain ⟨hge, hl, hsh, hfz⟩ := hw
          have hL := hlim _ hl
          obtain ⟨_, _, hoff⟩ := Yi hr hold
          have hfit : off + len * z.size + new.length ≤ arr.size - en.sh := by
           rw [hnl]
           have : (len + k) * z.size ≤ c * z.size := Nat.mul_le_mul_right _ hreal
           rw [Nat.add_mul] at this
           omega
          obtain ⟨b1, b2, b3⟩ := s.write hen hg hoff hl hfit rnews
          have hrun := run_append_room_src w t u ty e i hu hi en.r (en.sh + off) len c x' k news hsrc hreal
           (fun j hj => by rw [his, Nat.add_assoc en.sh]; exact b2 j hj) (fun j hj => by rw [his, Nat.add_assoc en.sh]; exact b3 j hj)
          rw [his, Nat.add_assoc en.sh] at hrun
          have hbl := s.dom b en hen
          have hcat : Zo (Zx cs (off + len * z.size) new) off ((len + k) * z.size) = some (old ++ new) := by
           obtain ⟨hh1, hh2⟩ := cellsAt_eq hold
           subst hh2
           unfold Zo
           have hlen : (Zx cs (off + len * z.size) new).length = max cs.length (off + len * z.size + new.length) := by
            unfold Zx; simp; omega
           rw [if_pos (by rw [hlen, hnl, Nat.add_mul]; omega)]
           congr 1
           unfold Zx
           rw [List.append_assoc, List.drop_append_of_le_length (by simp; omega)]
           rw [List.drop_take, Nat.add_sub_cancel_left]
           have hl1 : ((cs.drop off).take (len * z.size)).length = len * z.size := by simp; omega
           rw [List.take_append, hl1]
           rw [List.take_of_length_le (by rw [hl1, Nat.add_mul]; omega)]
           congr 1
           rw [Nat.add_mul, Nat.add_sub_cancel_left, ← hnl, List.take_append_of_le_length (by omega), List.take_of_length_le (by omega)]
          obtain ⟨m1, m2⟩ := b1.move hen (by rw [List.getElem?_set_self hbl]) hcat hl
          simp only [List.length_set, List.set_set] at m1 m2
          refine ⟨_, _, _, hrun, m2, m1, ?_⟩
          simp only [Rel]
          refine ⟨_, c, by rw [Inj.ext_m, if_pos rfl], by omega, by simp, fun L hL' => ?_, rfl⟩
          cases hL'
          omega
         have s0 := s.kill hen hg rfl
         exact grow _ len c old olds ro hol hfc (by omega) rfl (H.set b .dead) (by simp) s0
        cases h
       cases h
      cases h
     cases h
    cases h
   cases h
  ·rename_i e z fs len es ex k he hk
   obtain ⟨hu, hz⟩ := Qq hT he
   have htz := hT _ _ hz
   obtain ⟨i, zv, hi, hri, his, hib, hiz, hsize, hzv, rz, _, _⟩ := htz.run_info
   have hzl : zv.cells.size = z.size := by
    have h1 := (rz ι).length
    have h2 := htz.zlen
    simp at h1; omega
   split at h
   ·rename_i new du hnew hdu
    split at h
    ·rename_i hcnd
     obtain ⟨hnl, hone, hpos, hbytes, hsmall, hseq, hex, hk0, rfl⟩ := hcnd
     have hkind := ZbY hT hdu hseq
     obtain ⟨news, rnews, hsrc⟩ := src_of s hkind hx hk hnew hnl hone
     rw [← his] at hsrc
     have hnewsl : news.length = k * z.size := by rw [← rnews.length]; exact hnl
     split at h
     ·rename_i old hold
      simp only [Option.some.injEq, Prod.mk.injEq] at h
      obtain ⟨rfl, rfl⟩ := h
      simp only [Rel] at hd
      obtain ⟨a, c, xs, rfl, hlc, hcx, hnone, hrl, hor⟩ := hd
      have hc := hcx hex
      subst hc
      have hfirst : ∃ olds : List Value, RelL ι old olds ∧ olds.length = c * z.size ∧ (Builtin.firstCells i.size c (.slice a c c)).run P w.drew = .ok olds.toArray w.drew := by
       rcases hor with rfl | ⟨rr, off, arr, rfl, hz', hx'⟩
       ·have hn0 : old = [] := by
         have := (Yi hrl hold).2.1
         simpa using this
        subst hn0
        refine ⟨[], .nil, by simp, ?_⟩
        cases a with
        | none => exact run_firstCells_none w.drew i.size 0 0 0
        | some a => exact run_firstCells_some w.drew i.size 0 a 0 0 [] (by simp) (by simp)
       obtain ⟨ys, rx, hyl, hcell⟩ := Jq s hz' hrl hx' hold
       have hcell' : ∀ j v, ys[j]? = some v → w.drew.cell? ((⟨rr, off, none⟩ : Addr).add j) = some v := fun j v hj => by simpa using (hcell j v hj).2
       exact ⟨ys, rx, hyl, run_firstCells_some w.drew i.size c _ c c ys (by rw [his]; exact hyl) hcell'⟩
      obtain ⟨olds, ro, hol, hfc⟩ := hfirst
      have hrun := run_append_grow_src w t u ty e i zv hu hi hiz a c c olds hfc x' k news hsrc (by omega) (by omega) (growslice_fits (by omega) (by rw [hib]; exact hbytes))
      have hg := Zbe w (c + k) c e
      obtain ⟨s1, ex1⟩ := s.grown (tail := Builtin.zeroCells zv.cells (grownCap w (c + k) c e - (c + k))) (e := e) (ro.append rnews)
      refine ⟨_, _, _, hrun, ex1, s1, ?_⟩
      simp only [Rel]
      refine ⟨_, grownCap w (c + k) c e, by rw [Inj.ext_m, if_pos rfl], hg, by simp, fun L hL => ?_, rfl⟩
      cases hL
      have e1 : (olds ++ news).toArray.size = (c + k) * z.size := by simp [hol, hnewsl, Nat.add_mul]
      rw [Array.size_append, e1, XR, hzl, ← Nat.add_mul]
      rw [show c + k + (grownCap w (c + k) c e - (c + k)) = grownCap w (c + k) c e from by omega]
      omega
     cases h
    cases h
   cases h
  cases h
 cases h
theorem vcopy_run (hT : TOk P T) {w0 w : World} {ι : Inj} {H H' : Ze} (s : Sim w0 ι H w) {t u ty : TypeId} {d x v : VVal} {d' x' : Value} (h : vcopy T H t d x = some (v, H')) (hd : Rel ι d d') (hx : Rel ι x x') :
  ∃ z w', (Builtin.copy_ #[t, u] ty #[d', x']).run P w = .ok z w' ∧ Sim w0 ι H' w' ∧ Rel ι v z := by
 unfold vcopy at h
 split at h
 ·rename_i e z a dlen dcap dex es k he hk
  obtain ⟨hu, hz⟩ := Qq hT he
  have hsize := (hT _ _ hz).run_size
  simp only at h
  split at h
  ·rename_i new hnew
   split at h
   ·rename_i hcnd
    obtain ⟨hnl, hone, hpos⟩ := hcnd
    -- what the source yields
    have hsrc : ∃ news, RelL ι new news ∧ (Builtin.lenOf x').run P w = .ok k w ∧ (Builtin.firstCells z.size (Nat.min k dlen) x').run P w = .ok news.toArray w := by
     cases x <;> simp only [YO, reduceCtorEq, Option.some.injEq] at hk
     case slice a len cap ex es =>
      subst hk
      cases a with
      | none =>
       simp only [ZU, Option.some.injEq] at hnew
       subst hnew
       simp only [Rel] at hx
       obtain ⟨rfl, _, hx⟩ := hx
       refine ⟨[], .nil, ?_⟩
       split at hx
       ·subst hx; exact ⟨rfl, by simp [Builtin.firstCells]⟩
       obtain ⟨a, c, rfl⟩ := hx; exact ⟨rfl, by simp [Builtin.firstCells, loadCells, loadCellsFrom]⟩
      | some p =>
       obtain ⟨b, off⟩ := p
       simp only [ZU] at hnew
       split at hnew
       ·rename_i cs rw hg
        simp only [Rel] at hx
        obtain ⟨en, c, hen, _, _, _, rfl⟩ := hx
        obtain ⟨xs, rx, hxl, hcell⟩ := s.cells hen hg hnew
        exact ⟨xs, rx, rfl, run_firstCells_some w z.size (Nat.min len dlen) _ len c xs hxl hcell⟩
       cases hnew
     case fsl fs n fes fex =>
      subst hk
      simp only [ZU] at hnew
      simp only [Rel] at hx
      obtain ⟨a, c, xs, rfl, hlc, _, hnone, hrl, hor⟩ := hx
      rcases hor with rfl | ⟨rr, off, arr, rfl, hz', hx'⟩
      ·have hn0 : new = [] := by
        have := (Yi hrl hnew).2.1
        simpa using this
       subst hn0
       refine ⟨[], .nil, ?_⟩
       cases a with
       | none => exact ⟨rfl, by simp [Builtin.firstCells]⟩
       | some a => exact ⟨rfl, by simp [Builtin.firstCells, loadCells, loadCellsFrom]⟩
      obtain ⟨ys, rx, hyl, hcell⟩ := Jq s hz' hrl hx' hnew
      have hcell' : ∀ j v, ys[j]? = some v → w.cell? ((⟨rr, off, none⟩ : Addr).add j) = some v := fun j v hj => by simpa using (hcell j v hj).2
      exact ⟨ys, rx, rfl, run_firstCells_some w z.size (Nat.min n dlen) _ n c ys hyl hcell'⟩
     case str sb =>
      subst hk
      simp only [ZU, Option.some.injEq] at hnew
      simp only [Rel] at hx; subst hx
      refine ⟨(sb.extract 0 (Nat.min sb.size dlen)).data.toList.map fun c => .int .u8 c.toNat, ?_, rfl, ?_⟩
      ·subst hnew
       exact RelL.map _ _ _ fun c _ => by simp [Rel]
      simp only [Builtin.firstCells, Sem.run_pure]
      congr 1
      apply Array.ext'
      simp
    obtain ⟨news, rnews, hlen, hfc⟩ := hsrc
    split at h
    ·split at h
     ·rename_i hn0
      cases h
      simp only [Rel] at hd
      obtain ⟨hd0, _, hd⟩ := hd
      have hnn : news = [] := by
       have h1 := rnews.length
       rw [hnl, hn0] at h1
       simp at h1
       exact List.eq_nil_of_length_eq_zero h1.symm
      subst hnn
      refine ⟨goInt (Nat.min k dlen), w, ?_, s, by simp only [Rel, goInt]⟩
      split at hd
      ·subst hd
       subst hd0
       simp [Builtin.copy_, run_underlying hu, hlen, hsize] at hfc ⊢
       simp [hfc]
      obtain ⟨a, c, rfl⟩ := hd
      subst hd0
      simp [Builtin.copy_, run_underlying hu, hlen, hsize] at hfc ⊢
      simp [hfc, storeCells]
     cases h
    rename_i p
    obtain ⟨b, off⟩ := p
    split at h
    ·simp only [Option.map_eq_some_iff, Prod.mk.injEq] at h
     obtain ⟨H1, hw, rfl, rfl⟩ := h
     simp only [Rel] at hd
     obtain ⟨en, c, hen, _, _, _, rfl⟩ := hd
     obtain ⟨h1, h2⟩ := JQ (P := P) s hw hen rnews hone
     refine ⟨goInt (Nat.min k dlen), _, ?_, h2, by simp only [Rel, goInt]⟩
     simp only [Builtin.copy_, run_underlying hu, Sem.run_bind, Result.andThen_ok, hlen, hsize, hfc, h1, Sem.run_pure]
     simp [run_underlying hu, hlen, hsize, hfc, h1]
    cases h
   cases h
  cases h
 cases h
theorem ZbS {zero : List VVal} (h : zero.all VVal.one = true) : ∀ n, (ZH zero n).all VVal.one = true
 | 0 => rfl
 | n + 1 => by simp only [ZH, List.all_append, h, ZbS h n, Bool.and_self]
theorem vclear_run (hT : TOk P T) {w0 w : World} {ι : Inj} {H H' : Ze} (s : Sim w0 ι H w) {t ty : TypeId} {x v : VVal} {x' : Value} (h : Zbk T H t x = some (v, H')) (hx : Rel ι x x') :
  ∃ z w', (Builtin.clear_ #[t] ty #[x']).run P w = .ok z w' ∧ Sim w0 ι H' w' ∧ Rel ι v z := by
 unfold Zbk at h
 split at h
 ·rename_i e z a len cap ex es he
  obtain ⟨hu, hz⟩ := Qq hT he
  split at h
  ·rename_i hcnd
   obtain ⟨hsz, hpos, hone⟩ := hcnd
   obtain ⟨zv, hzv, rz⟩ := QF (hT _ _ hz)
   split at h
   ·split at h
    ·rename_i hl0
     cases h
     simp only [Rel] at hx
     obtain ⟨_, _, hx⟩ := hx
     refine ⟨.tuple #[], w, ?_, s, by simp only [Rel]; exact ⟨#[], rfl, .nil⟩⟩
     split at hx
     ·subst hx; simp [Builtin.clear_, run_underlying hu]
     obtain ⟨a, c, rfl⟩ := hx; simp [Builtin.clear_, run_underlying hu]
    cases h
   rename_i p
   obtain ⟨b, off⟩ := p
   split at h
   ·simp only [Option.map_eq_some_iff, Prod.mk.injEq] at h
    obtain ⟨H1, hw, rfl, rfl⟩ := h
    simp only [Rel] at hx
    obtain ⟨en, c, hen, _, _, _, rfl⟩ := hx
    have hzsz : zv.cells.size = z.size := by
     have h1 := (rz ι).length
     simp at h1; omega
    have rr : RelL ι (ZH z.zero len) (Builtin.zeroCells zv.cells len).toList := by
     have := JV (rz ι) len z.size hsz.symm hpos
     unfold Builtin.zeroCells
     rw [hzsz] at this ⊢
     exact this
    obtain ⟨h1, h2⟩ := JQ (P := P) s hw hen rr (ZbS hone len)
    refine ⟨.tuple #[], _, ?_, h2, by simp only [Rel]; exact ⟨#[], rfl, .nil⟩⟩
    cases len with
    | zero =>
     have : (Builtin.zeroCells zv.cells 0).toList = [] := by
      apply List.eq_nil_of_length_eq_zero
      simp [XR]
     rw [this]
     simp [Builtin.clear_, run_underlying hu, World.setCells]
    | succ n =>
     simp [Builtin.clear_, run_underlying hu, hzv, h1]
   cases h
  cases h
 cases h
theorem XA {α : Type} : ∀ {l : List α} {i : Nat} {x : α}, l[i]? = some x → l.set i x = l
 | [], _, _, h => by simp at h
 | a :: l, 0, x, h => by simp at h; simp [h]
 | a :: l, i + 1, x, h => by simp at h; simp [XA h]
theorem Zai (hT : TOk P T) {w0 w : World} {ι : Inj} {H H' : Ze} (s : Sim w0 ι H w) {src dst : TypeId} {x v : VVal} {x' : Value} (h1 : Qf T dst = false) (h2 : Qe T dst = false) (h : Yw T H src dst x = some (v, H')) (hx : Rel ι x x') :
  ∃ z w' ι', (convert src dst x').run P w = .ok z w' ∧ Inj.ex H.length ι ι' ∧ Sim w0 ι' H' w' ∧ Rel ι' v z := by
 have := (QC h).1
 rw [h1] at this; cases this
theorem MRel.push {ι : Inj} {k v : VVal} {e : MapEntry} (hk : Rel ι k e.key) (hv : Rel ι v e.val) : ∀ {es : List (VVal × VVal)} {en : List MapEntry}, MRel ι es en → Zbt k es = some none → MRel ι (ZaO k v es) (en ++ [e])
 | [], en, h, _ => by
  simp only [MRel] at h; subst h
  simp only [ZaO, MRel, List.nil_append]
  exact ⟨e, [], rfl, hk, hv, rfl⟩
 | (x, u) :: es, en, h, hg => by
  simp only [MRel] at h
  obtain ⟨y, ys, rfl, r1, r2, r3⟩ := h
  simp only [Zbt] at hg
  cases hb : ZaR k x with
  | none => rw [hb] at hg; cases hg
  | some b =>
   rw [hb] at hg
   cases b with
   | true => cases hg
   | false =>
    simp only at hg
    simp only [ZaO, hb]
    rw [if_neg (by simp)]
    simp only [MRel, List.cons_append]
    exact ⟨y, ys ++ [e], rfl, r1, r2, MRel.push hk hv r3 hg⟩
theorem QW (hT : TOk P T) {w0 w : World} {ι : Inj} {H H' : Ze} (s : Sim w0 ι H w) {t : TypeId} {x k v : VVal} {x' k' v' : Value} (h : Xl T H t x k v = some H') (hx : Rel ι x x') (hk : Rel ι k k') (hv : Rel ι v v') :
  ∃ w', (Instr.mapUpdate t x' k' v').run P w = .ok () w' ∧ Sim w0 ι H' w' := by
 unfold Xl at h
 split at h
 ·rename_i y hy
  have ht := hT t y hy
  split at h
  ·rename_i kt et r hd
   have hu := ht.und; rw [hd] at hu
   split at h
   ·rename_i hko
    obtain ⟨d, hkd, hkc⟩ := key_rel hT hko hk
    have hck : ∀ b w, (Instr.checkKey b 10000 kt k').run P w = .ok () w := fun b w => Zap w (by
     rcases hkc with ⟨j, n, rfl, _, rfl⟩ | ⟨s, rfl, _, rfl⟩
     ·exact .inl ⟨j, n, hkd, rfl⟩
     exact .inr ⟨s, hkd, rfl⟩)
    simp only [Rel] at hx
    obtain ⟨e, he, rfl⟩ := hx
    split at h
    ·rename_i es hg
     split at h
     ·rename_i q hq
      cases h
      obtain ⟨en, cl, hh, hge, hm⟩ := s.blk r e _ he hg
      have hlt : e.r < w.heap.size := (Array.getElem?_eq_some_iff.1 hh).1
      have setW : ∀ o : Obj, (Sem.run P (setObj e.r o) w) = .ok () { w with heap := w.heap.setIfInBounds e.r o } := fun o => by simp [setObj, Sem.run, hh]
      have simW : ∀ (en' : Array MapEntry) (cl' : Nat), MRel ι (ZaO k v es) en'.toList → Sim w0 ι (H.set r (.map (ZaO k v es))) { w with heap := w.heap.setIfInBounds e.r (.map en' cl') } := by
       intro en' cl' hm'
       refine s.turn he hg rfl _ ?_ (fun i _ hi => by simp [Array.getElem?_setIfInBounds, Ne.symm hi]) ⟨en', cl', by simp [Array.getElem?_setIfInBounds, hlt], hge, hm'⟩ (.inl rfl)
       have h0 := s.below
       exact ⟨h0.os, h0.tape, h0.output, by simpa using h0.size, fun i hi => by
        have : e.r ≠ i := by omega
        simp [Array.getElem?_setIfInBounds, this]
        exact h0.block i hi⟩
      rcases Q5 hkc es en.toList 0 q hq hm with ⟨rfl, hf⟩ | ⟨u, j, u', rfl, hf, ru, ⟨e1, q3, q4, q5⟩, q6⟩
      ·refine ⟨_, ?_, simW (en.push { key := k', val := v', born := cl }) (cl + 1) ?_⟩
       ·simp [Instr.mapUpdate, run_underlying hu, hck, Instr.findKey, run_underlying hkd, hf, getObj, Sem.run, hh, setW]
       have := MRel.push (e := { key := k', val := v', born := cl }) hk hv hm hq
       simpa using this
      refine ⟨_, ?_, simW (en.modify j fun e => { e with key := k', val := v' }) cl (by simpa using q6 v v' hv)⟩
      have hj : en[j]? = some e1 := by simpa using q3
      have hkey : (Instr.keyThatStays e1.key k').run P w = .ok k' w := by simp [Instr.keyThatStays, q5]
      simp only [Nat.zero_add] at hf
      simp [Instr.mapUpdate, run_underlying hu, hck, Instr.findKey, run_underlying hkd, hf, getObj, Sem.run, hh, hj, hkey, setW]
     cases h
    cases h
   cases h
  cases h
 cases h
theorem turn_run (hT : TOk P T) {w0 w : World} {ρ : Operand → VVal} {ρ' : Operand → Value} {o : Oper} {H H' : Ze} {v : VVal} {ι : Inj} (s : Sim w0 ι H w)
  (h : vop T ρ H o.op = some (v, H')) (hc : Yh T o.op = .turn) (hρ : Ops ι ρ ρ' o.op) : Ends w0 ι H v H' ((execOp ρ' o).run P w) := by
 obtain ⟨dst, op, ty, pos, aft, gd⟩ := o
 simp only at h hc hρ
 cases op <;> simp only [Yh, reduceCtorEq] at hc <;> (try (simp only [vop, reduceCtorEq] at h; done))
 case store t a x =>
  simp only [vop, Option.map_eq_some_iff, Prod.mk.injEq] at h
  obtain ⟨H1, hw, rfl, rfl⟩ := h
  exact store_run hT s rfl hw (hρ a XH10) (hρ x XH10)
 case convert src dst' x =>
  simp only [vop] at h
  have h1 : Qf T dst' = false := by
   cases hh : Qf T dst' with
   | false => rfl
   | true => rw [hh] at hc; cases hc
  rw [h1] at hc
  have h2 : Qe T dst' = false := by
   cases hh : Qe T dst' with
   | false => rfl
   | true => rw [hh] at hc; cases hc
  obtain ⟨z, w', ι', a, b, c, d⟩ := Zai hT s h1 h2 h (hρ x XH10)
  simp only [execOp, Sem.run_bind, a, Result.andThen_ok, Sem.run_pure]
  exact ⟨ι', b, c, d⟩
 case makeMap t r => cases r <;> simp [vop, Yh] at h hc
 case mapUpdate t m k x =>
  simp only [vop, Option.map_eq_some_iff, Prod.mk.injEq] at h
  obtain ⟨H1, hw, rfl, rfl⟩ := h
  obtain ⟨w', a, b⟩ := QW hT s hw (hρ m XH10) (hρ k XH10) (hρ x XH10)
  simp only [execOp, Sem.run_bind, a, Result.andThen_ok, Sem.run_pure]
  exact ⟨rfl, ι, Inj.ex_refl', b⟩
 case insert t m k x =>
  simp only [vop, Option.map_eq_some_iff, Prod.mk.injEq] at h
  obtain ⟨H1, hw, rfl, rfl⟩ := h
  obtain ⟨w', a, b⟩ := QW hT s hw (hρ m XH10) (hρ k XH10) (hρ x XH10)
  simp only [execOp, Sem.run_bind, a, Result.andThen_ok, Sem.run_pure]
  exact ⟨rfl, ι, Inj.ex_refl', b⟩
 case call c =>
  obtain ⟨callee, args, ats⟩ := c
  cases callee <;> (try (simp only [vop, reduceCtorEq] at h; done))
  rename_i b
  have ra : RelL ι (args.toList.map ρ) (args.map ρ').toList := XX args fun x hx => hρ x (by simp [Op.operands, Call.operands, hx])
  simp only [vop] at h
  generalize args.toList.map ρ = l at h ra
  have hexec : ∀ (l' : List Value), (args.map ρ').toList = l' → args.map ρ' = l'.toArray := fun l' hl => by rw [← hl]
  have hats : ats = ats.toList.toArray := by simp
  unfold ZR at h
  split at h
  ·simp [Yh] at hc
  ·rename_i s' x
   obtain ⟨d', x', hl', rd, rx⟩ := two_rel ra
   obtain ⟨z, w', ι', a, b, c, d⟩ := vappend_run (ty := ty) hT s h rd rx
   have e1 := hexec _ hl'
   simp only [execOp, resolve, invoke, builtin, Sem.run_bind, Sem.run_pure, Result.andThen_ok, e1]
   rw [← hats] at a
   rw [a]
   exact ⟨ι', b, c, d⟩
  ·rename_i d x
   obtain ⟨d', x', hl', rd, rx⟩ := two_rel ra
   split at h
   ·rename_i t u hat
    obtain ⟨z, w', a, b, c⟩ := vcopy_run (ty := ty) (u := u) hT s h rd rx
    have e1 := hexec _ hl'
    rw [hat] at hats
    subst hats
    simp only [execOp, resolve, invoke, builtin, Sem.run_bind, Sem.run_pure, Result.andThen_ok, e1]
    rw [a]
    exact ⟨ι, Inj.ex_refl', b, c⟩
   cases h
  ·rename_i x
   obtain ⟨x', hl', rx⟩ := Jc ra
   split at h
   ·rename_i t hat
    obtain ⟨z, w', a, b, c⟩ := vclear_run (ty := ty) hT s h rx
    have e1 := hexec _ hl'
    rw [hat] at hats
    subst hats
    simp only [execOp, resolve, invoke, builtin, Sem.run_bind, Sem.run_pure, Result.andThen_ok, e1]
    rw [a]
    exact ⟨ι, Inj.ex_refl', b, c⟩
   cases h
  ·simp [Yh] at hc
  ·simp [Yh] at hc
  cases h
end
end Go.V
