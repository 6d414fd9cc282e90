/- Proved: Rows.TallyOwnCardSaid, the statement TallyOwn with its card, of the given program at the commit; no conditions beyond those in the statement. -/
import Derived.Test.YtccgigdjkghieaaDoorC12x17
import Derived.LaidMore
import Derived.Carry
set_option autoImplicit false
set_option linter.unusedVariables false
set_option linter.unusedSimpArgs false
namespace Go.V
open Go Go.RowKit Go.ChangeShapes Go.WideShapes Go.ChangeAt
theorem JI {H : Type} {enc : TypeId × Value → H} {P : Program} (hl : laidOutB P = true) {W W' : World} (hb : Below W.heap.size W W') : ∀ {ts : List TypeId} {vs : List Value} {ds : List (DataW H)} {ps : List MemPlace},
  (∀ t, t ∈ ts → P.readableRec t = true ∧ t < P.types.size) → DataW.TrodAll enc P W 0 (fun _ => true) true ts vs ds ps → (∀ x, x ∈ ps → x.block < W.heap.size) → DataW.TrodAll enc P W' 0 (fun b => decide (b < W.heap.size)) true ts vs ds ps
 | [], vs, ds, ps, _, h, _ => by
  obtain ⟨rfl, rfl, rfl⟩ := trodAll_nil h
  exact rfl
 | t :: ts, vs, ds, ps, ht, h, hlt => by
  obtain ⟨v, vs', d, ds', p, q, rfl, rfl, rfl, h1, h2⟩ := trodAll_cons h
  refine ⟨p, q, ?_, ?_, rfl⟩
  ·exact Below.trod hl (ht t (List.mem_cons_self ..)).1 (ht t (List.mem_cons_self ..)).2 h1 hb (fun x hx => hlt x (List.mem_append_left _ hx))
  exact JI hl hb (fun t ht' => ht t (List.mem_cons_of_mem _ ht')) h2 (fun x hx => hlt x (List.mem_append_right _ hx))
theorem law_close {f : FuncId} {fn : Func} {s : ChangeSpec} {tb : TypeId} {S : Sys} (hl : laidOutB S.P = true) (hpar : fn.params.toList.all (fun t => S.P.readableRec t && decide (t < S.P.types.size)) = true) (hvars : s.vars = []) (hres : fn.resultTypes = #[tb]) (hb : S.P.underlying tb = some .bool)
  {H : Type} {enc : TypeId × Value → H} {args : Array Value} {ds gs : List (DataW H)} {before : List MemPlace} (hs : s.fn H (ds ++ gs) = { results := [.lit (.bool true)], args := ds }) (hW : DataW.Whole enc S.P fn.params.toList s.vars false S.w0 args.toList ds gs before)
  {vs : List VVal} (hr : RelL (fin S.w0) vs args.toList) (hF : F S f vs [] fun v G => v = .bool true) : Calls S.P f args S.w0 fun e W' => ∃ v, e = .returned v ∧ s.post enc S.P fn false true false false S.w0 args v W' := by
 have hlt : ∀ x, x ∈ before → x.block < S.w0.heap.size := fun x hx => by simpa using hW.lt x hx
 obtain ⟨_, hc⟩ := hF 0 S.w0 (fin S.w0) args (fin_sim S.w0) hr
 refine (callsIn_wide.1 hc).mono ?_
 rintro e W' ⟨x, v, G, ι', rfl, _, _, s', rx, rfl⟩
 simp only [Rel] at rx
 subst rx
 have hbel := s'.below
 obtain ⟨p, q, hA, hV, hpq, hfz, hnd⟩ := id hW
 rw [hvars] at hV
 have hgs : gs = [] ∧ q = [] := by
  cases gs with
  | nil => exact ⟨rfl, hV⟩
  | cons g gs => exact hV.elim
 obtain ⟨rfl, rfl⟩ := hgs
 rw [List.append_nil] at hpq
 subst hpq
 refine ⟨_, rfl, ds, [], before, [], before, [], hW, ?_, ?_, ?_, hbel.frame _, fun h => by cases h⟩
 ·rw [hs, hres]
  exact ⟨[], [], ⟨1, by simp [DataW.trod, hb, Value.cells]⟩, rfl, rfl⟩
 ·rw [hs]
  refine JI hl hbel (fun t ht => ?_) hA hlt
  have := List.all_eq_true.1 hpar t ht
  simpa using this
 rw [hs, hvars]; exact rfl
theorem arg_agg {P : Program} {W : World} {base : Nat} {t : TypeId} {v : Value} {fs : Array Field} (ht : P.underlying t = some (.struct fs)) (hok : Value.okWide P W .any base t v) {ι : Inj} {vs : List VVal} (h : RelL ι vs v.cells.toList) : Rel ι (.agg vs) v := by
 unfold Value.okWide at hok
 rw [ht] at hok
 obtain ⟨cs, rfl, _⟩ := hok
 simp only [Rel]
 exact ⟨cs, rfl, h⟩
end Go.V
