/- Values and heaps of the virtual machine beside those of the model: relations, and how they live on. -/
import Derived.Test.YtbngdhlmggdaaaaV1
set_option autoImplicit false
set_option linter.unusedVariables false
namespace Go.V
open Go Go.RowKit

structure Ent where
  r : Nat
  sh : Nat
  lim : Option Nat

/-- what the virtual blocks stand for; the real blocks that nobody writes any more; the real rows of deferred calls of ranges -/
structure Inj where
  m : Nat → Option Ent
  z : Nat → Option (Array Value)
  df : List Nat
instance : CoeFun Inj (fun _ => Nat → Option Ent) := ⟨Inj.m⟩
abbrev Inj.zero : Inj := ⟨fun _ => none, fun _ => none, []⟩

mutual
def Rel (ι : Inj) : VVal → Value → Prop
  | .undef, _ => True
  | .bool b, v => v = .bool b
  | .int k n, v => v = .int k n
  | .str s, v => v = .string s
  | .ptr none, v => v = .pointer none
  | .ptr (some (b, off)), v => ∃ e, ι b = some e ∧ v = .pointer (some ⟨e.r, e.sh + off, none⟩)
  | .slice none len cap ex _, v => len = 0 ∧ cap = 0 ∧ (if ex = true then v = .slice none 0 0 else ∃ a c, v = .slice (some a) 0 c)
  | .slice (some (b, off)) len cap ex es, v => ∃ e c, ι b = some e ∧ cap ≤ c ∧ (ex = true → c = cap) ∧ (∀ L, e.lim = some L → off + c * es ≤ L) ∧ v = .slice (some ⟨e.r, e.sh + off, none⟩) len c
  | .fsl cs len es ex, v => ∃ a c xs, v = .slice a len c ∧ len ≤ c ∧ (ex = true → c = len) ∧ (a = none → c = 0) ∧ RelL ι cs xs ∧ (len = 0 ∨ ∃ r off arr, a = some ⟨r, off, none⟩ ∧ ι.z r = some arr ∧ ∀ (i : Nat) x, xs[i]? = some x → arr[off + i]? = some x)
  | .fptr cs off, v => ∃ r sh arr xs, v = .pointer (some ⟨r, sh + off, none⟩) ∧ ι.z r = some arr ∧ RelL ι cs xs ∧ ∀ (i : Nat) x, xs[i]? = some x → arr[sh + i]? = some x
  | .map none, v => v = .map none
  | .map (some r), v => ∃ e, ι r = some e ∧ v = .map (some e.r)
  | .func f a c, v => ∃ a' c', v = .func (.func f) a' c' ∧ RelL ι a a'.toList ∧ RelL ι c c'.toList
  | .yield l, v => ∃ e, ι l = some e ∧ v = .func (.yield e.r) #[] #[]
  | .nilFunc, v => v = .nilFunc
  | .iface t x, v => ∃ y, v = .iface t y ∧ Rel ι x y
  | .nilIface, v => v = .nilIface
  | .agg cs, v => ∃ cs', v = .agg cs' ∧ RelL ι cs cs'.toList
  | .tuple cs, v => ∃ cs', v = .tuple cs' ∧ RelL ι cs cs'.toList
def RelL (ι : Inj) : List VVal → List Value → Prop
  | [], l => l = []
  | x :: xs, l => ∃ y ys, l = y :: ys ∧ Rel ι x y ∧ RelL ι xs ys
end

def MRel (ι : Inj) : List (VVal × VVal) → List MapEntry → Prop
  | [], l => l = []
  | x :: xs, l => ∃ y ys, l = y :: ys ∧ Rel ι x.1 y.key ∧ Rel ι x.2 y.val ∧ MRel ι xs ys

def Inj.le (ι ι' : Inj) : Prop := (∀ b e, ι b = some e → ι' b = some e) ∧ (∀ r a, ι.z r = some a → ι'.z r = some a)
theorem Inj.le_refl (ι : Inj) : ι.le ι := ⟨fun _ _ h => h, fun _ _ h => h⟩
theorem Inj.le_trans {a b c : Inj} (h : a.le b) (k : b.le c) : a.le c := ⟨fun _ _ x => k.1 _ _ (h.1 _ _ x), fun _ _ x => k.2 _ _ (h.2 _ _ x)⟩

def Inj.cut (ι : Inj) (n : Nat) : Inj := ⟨fun b => if b < n then ι b else none, ι.z, ι.df⟩
def Inj.ext (ι : Inj) (n : Nat) (e : Ent) : Inj := ⟨fun b => if b = n then some e else ι b, ι.z, ι.df⟩
theorem Inj.cut_m (ι : Inj) (n b : Nat) : (ι.cut n) b = if b < n then ι b else none := rfl
theorem Inj.ext_m (ι : Inj) (n : Nat) (e : Ent) (b : Nat) : (ι.ext n e) b = if b = n then some e else ι b := rfl
theorem Inj.cut_z (ι : Inj) (n : Nat) : (ι.cut n).z = ι.z := rfl
theorem Inj.ext_z (ι : Inj) (n : Nat) (e : Ent) : (ι.ext n e).z = ι.z := rfl

theorem Inj.cut_le (ι : Inj) (n : Nat) : (ι.cut n).le ι := by
  refine ⟨fun b e h => ?_, fun _ _ h => h⟩
  rw [Inj.cut_m] at h; split at h
  · exact h
  · cases h

mutual
theorem Rel.mono {ι ι' : Inj} (h : ι.le ι') : ∀ (v : VVal) (x : Value), Rel ι v x → Rel ι' v x
  | .undef, _, _ => trivial
  | .bool _, _, r => r
  | .int _ _, _, r => r
  | .str _, _, r => r
  | .ptr none, _, r => r
  | .ptr (some (_, _)), _, r => by
    simp only [Rel] at r ⊢
    obtain ⟨e, a, b⟩ := r; exact ⟨e, h.1 _ _ a, b⟩
  | .slice none _ _ _ _, _, r => r
  | .slice (some (_, _)) _ _ _ _, _, r => by
    simp only [Rel] at r ⊢
    obtain ⟨e, c, a, b⟩ := r; exact ⟨e, c, h.1 _ _ a, b⟩
  | .fsl cs len es ex, _, r => by
    simp only [Rel] at r ⊢
    obtain ⟨a, c, xs, e, p, q, t, h3, u⟩ := r
    refine ⟨a, c, xs, e, p, q, t, RelL.mono h cs xs h3, u.imp id ?_⟩
    rintro ⟨r, off, arr, h1, h2, h4⟩
    exact ⟨r, off, arr, h1, h.2 _ _ h2, h4⟩
  | .fptr cs off, _, r => by
    simp only [Rel] at r ⊢
    obtain ⟨r, sh, arr, xs, h1, h2, h3, h4⟩ := r
    exact ⟨r, sh, arr, xs, h1, h.2 _ _ h2, RelL.mono h cs xs h3, h4⟩
  | .map none, _, r => r
  | .map (some _), _, r => by
    simp only [Rel] at r ⊢
    obtain ⟨e, a, b⟩ := r; exact ⟨e, h.1 _ _ a, b⟩
  | .func _ a c, _, r => by
    simp only [Rel] at r ⊢
    obtain ⟨a', c', e, p, q⟩ := r
    exact ⟨a', c', e, RelL.mono h _ _ p, RelL.mono h _ _ q⟩
  | .yield _, _, r => by
    simp only [Rel] at r ⊢
    obtain ⟨e, a, b⟩ := r; exact ⟨e, h.1 _ _ a, b⟩
  | .nilFunc, _, r => r
  | .iface _ x, _, r => by
    simp only [Rel] at r ⊢
    obtain ⟨y, e, p⟩ := r; exact ⟨y, e, Rel.mono h x y p⟩
  | .nilIface, _, r => r
  | .agg cs, _, r => by
    simp only [Rel] at r ⊢
    obtain ⟨y, e, p⟩ := r; exact ⟨y, e, RelL.mono h cs _ p⟩
  | .tuple cs, _, r => by
    simp only [Rel] at r ⊢
    obtain ⟨y, e, p⟩ := r; exact ⟨y, e, RelL.mono h cs _ p⟩
theorem RelL.mono {ι ι' : Inj} (h : ι.le ι') : ∀ (vs : List VVal) (xs : List Value), RelL ι vs xs → RelL ι' vs xs
  | [], _, r => r
  | v :: vs, _, r => by
    simp only [RelL] at r ⊢
    obtain ⟨y, ys, e, p, q⟩ := r
    exact ⟨y, ys, e, Rel.mono h v y p, RelL.mono h vs ys q⟩
end

theorem cut_lt {ι : Inj} {n b : Nat} {e : Ent} (h : ι b = some e) (hb : b < n) : (ι.cut n) b = some e := by
  rw [Inj.cut_m, if_pos hb]; exact h

mutual
theorem Rel.cut {ι : Inj} (n : Nat) : ∀ (v : VVal) (x : Value), v.under n = true → Rel ι v x → Rel (ι.cut n) v x
  | .undef, _, _, _ => trivial
  | .bool _, _, _, r => r
  | .int _ _, _, _, r => r
  | .str _, _, _, r => r
  | .ptr none, _, _, r => r
  | .ptr (some (_, _)), _, u, r => by
    simp only [Rel, VVal.under, decide_eq_true_eq] at r u ⊢
    obtain ⟨e, a, b⟩ := r; exact ⟨e, cut_lt a u, b⟩
  | .slice none _ _ _ _, _, _, r => r
  | .slice (some (_, _)) _ _ _ _, _, u, r => by
    simp only [Rel, VVal.under, decide_eq_true_eq] at r u ⊢
    obtain ⟨e, c, a, b⟩ := r; exact ⟨e, c, cut_lt a u, b⟩
  | .fsl cs len es ex, _, u, r => by
    simp only [Rel, VVal.under] at r u ⊢
    obtain ⟨a, c, xs, e, p, q, t, h3, v⟩ := r
    exact ⟨a, c, xs, e, p, q, t, RelL.cut n cs xs u h3, v⟩
  | .fptr cs off, _, u, r => by
    simp only [Rel, VVal.under] at r u ⊢
    obtain ⟨r, sh, arr, xs, h1, h2, h3, h4⟩ := r
    exact ⟨r, sh, arr, xs, h1, h2, RelL.cut n cs xs u h3, h4⟩
  | .map none, _, _, r => r
  | .map (some _), _, u, r => by
    simp only [Rel, VVal.under, decide_eq_true_eq] at r u ⊢
    obtain ⟨e, a, b⟩ := r; exact ⟨e, cut_lt a u, b⟩
  | .func _ a c, _, u, r => by
    simp only [Rel, VVal.under, Bool.and_eq_true] at r u ⊢
    obtain ⟨a', c', e, p, q⟩ := r
    exact ⟨a', c', e, RelL.cut n _ _ u.1 p, RelL.cut n _ _ u.2 q⟩
  | .yield _, _, u, r => by
    simp only [Rel, VVal.under, decide_eq_true_eq] at r u ⊢
    obtain ⟨e, a, b⟩ := r; exact ⟨e, cut_lt a u, b⟩
  | .nilFunc, _, _, r => r
  | .iface _ x, _, u, r => by
    simp only [Rel, VVal.under] at r u ⊢
    obtain ⟨y, e, p⟩ := r; exact ⟨y, e, Rel.cut n x y u p⟩
  | .nilIface, _, _, r => r
  | .agg cs, _, u, r => by
    simp only [Rel, VVal.under] at r u ⊢
    obtain ⟨y, e, p⟩ := r; exact ⟨y, e, RelL.cut n cs _ u p⟩
  | .tuple cs, _, u, r => by
    simp only [Rel, VVal.under] at r u ⊢
    obtain ⟨y, e, p⟩ := r; exact ⟨y, e, RelL.cut n cs _ u p⟩
theorem RelL.cut {ι : Inj} (n : Nat) : ∀ (vs : List VVal) (xs : List Value), VVal.underL n vs = true → RelL ι vs xs → RelL (ι.cut n) vs xs
  | [], _, _, r => r
  | v :: vs, _, u, r => by
    simp only [RelL, VVal.underL, Bool.and_eq_true] at r u ⊢
    obtain ⟨y, ys, e, p, q⟩ := r
    exact ⟨y, ys, e, Rel.cut n v y u.1 p, RelL.cut n vs ys u.2 q⟩
end

theorem MRel.mono {ι ι' : Inj} (h : ι.le ι') : ∀ (vs : List (VVal × VVal)) (xs : List MapEntry), MRel ι vs xs → MRel ι' vs xs
  | [], _, r => r
  | v :: vs, _, r => by
    simp only [MRel] at r ⊢
    obtain ⟨y, ys, e, p, q, s⟩ := r
    exact ⟨y, ys, e, Rel.mono h _ y.key p, Rel.mono h _ y.val q, MRel.mono h vs ys s⟩

theorem MRel.cut {ι : Inj} (n : Nat) : ∀ (vs : List (VVal × VVal)) (xs : List MapEntry), (vs.all fun e => e.1.under n && e.2.under n) = true → MRel ι vs xs → MRel (ι.cut n) vs xs
  | [], _, _, r => r
  | v :: vs, _, u, r => by
    simp only [MRel, List.all_cons, Bool.and_eq_true] at r u ⊢
    obtain ⟨y, ys, e, p, q, s⟩ := r
    exact ⟨y, ys, e, Rel.cut n _ y.key u.1.1 p, Rel.cut n _ y.val u.1.2 q, MRel.cut n vs ys u.2 s⟩

/-! ### Lists of related values -/
theorem RelL.length {ι : Inj} : ∀ {vs : List VVal} {xs : List Value}, RelL ι vs xs → vs.length = xs.length
  | [], _, r => by simp only [RelL] at r; simp [r]
  | v :: vs, _, r => by
    simp only [RelL] at r
    obtain ⟨y, ys, rfl, _, q⟩ := r
    simp [RelL.length q]

theorem RelL.get {ι : Inj} : ∀ {vs : List VVal} {xs : List Value} (i : Nat) (v : VVal), RelL ι vs xs → vs[i]? = some v → ∃ x, xs[i]? = some x ∧ Rel ι v x
  | [], _, i, v, _, h => by simp at h
  | u :: vs, _, i, v, r, h => by
    simp only [RelL] at r
    obtain ⟨y, ys, rfl, p, q⟩ := r
    cases i with
    | zero => simp at h; subst h; exact ⟨y, by simp, p⟩
    | succ i => simp at h; obtain ⟨x, a, b⟩ := RelL.get i v q h; exact ⟨x, by simpa using a, b⟩

theorem RelL.nil {ι : Inj} : RelL ι [] [] := by simp [RelL]
theorem RelL.cons {ι : Inj} {v : VVal} {x : Value} {vs : List VVal} {xs : List Value} (h : Rel ι v x) (k : RelL ι vs xs) : RelL ι (v :: vs) (x :: xs) := by
  simp only [RelL]; exact ⟨x, xs, rfl, h, k⟩
theorem RelL.one {ι : Inj} {v : VVal} {x : Value} (h : Rel ι v x) : RelL ι [v] [x] := .cons h .nil

theorem RelL.append {ι : Inj} : ∀ {vs : List VVal} {xs : List Value} {us : List VVal} {ys : List Value}, RelL ι vs xs → RelL ι us ys → RelL ι (vs ++ us) (xs ++ ys)
  | [], _, us, ys, r, k => by simp only [RelL] at r; subst r; simpa using k
  | v :: vs, _, us, ys, r, k => by
    simp only [RelL] at r
    obtain ⟨y, zs, rfl, p, q⟩ := r
    exact .cons p (RelL.append q k)

theorem RelL.take {ι : Inj} : ∀ {vs : List VVal} {xs : List Value} (n : Nat), RelL ι vs xs → RelL ι (vs.take n) (xs.take n)
  | [], _, n, r => by simp only [RelL] at r; subst r; simp [RelL]
  | v :: vs, _, n, r => by
    simp only [RelL] at r
    obtain ⟨y, zs, rfl, p, q⟩ := r
    cases n with
    | zero => simp [RelL]
    | succ n => exact .cons p (RelL.take n q)

theorem RelL.drop {ι : Inj} : ∀ {vs : List VVal} {xs : List Value} (n : Nat), RelL ι vs xs → RelL ι (vs.drop n) (xs.drop n)
  | [], _, n, r => by simp only [RelL] at r; subst r; simp [RelL]
  | v :: vs, _, n, r => by
    simp only [RelL] at r
    obtain ⟨y, zs, rfl, p, q⟩ := r
    cases n with
    | zero => exact .cons p q
    | succ n => exact RelL.drop n q

theorem RelL.set {ι : Inj} : ∀ {vs : List VVal} {xs : List Value} (i : Nat) {v : VVal} {x : Value}, RelL ι vs xs → Rel ι v x → RelL ι (vs.set i v) (xs.set i x)
  | [], _, i, v, x, r, _ => by simp only [RelL] at r; subst r; simp [RelL]
  | u :: vs, _, i, v, x, r, k => by
    simp only [RelL] at r
    obtain ⟨y, zs, rfl, p, q⟩ := r
    cases i with
    | zero => exact .cons k q
    | succ n => exact .cons p (RelL.set n q k)

theorem RelL.replicate {ι : Inj} {v : VVal} {x : Value} (h : Rel ι v x) : ∀ n, RelL ι (List.replicate n v) (List.replicate n x)
  | 0 => .nil
  | n + 1 => .cons h (RelL.replicate h n)

theorem RelL.of_get {ι : Inj} : ∀ {vs : List VVal} {xs : List Value}, vs.length = xs.length → (∀ (i : Nat) (v : VVal) (x : Value), vs[i]? = some v → xs[i]? = some x → Rel ι v x) → RelL ι vs xs
  | [], [], _, _ => .nil
  | [], _ :: _, h, _ => by simp at h
  | _ :: _, [], h, _ => by simp at h
  | v :: vs, x :: xs, h, k => .cons (k 0 v x (by simp) (by simp)) (RelL.of_get (by simpa using h) fun i v x a b => k (i + 1) v x (by simpa using a) (by simpa using b))

theorem RelL.map {ι : Inj} {α : Type} (f : α → VVal) (g : α → Value) : ∀ (l : List α), (∀ x, x ∈ l → Rel ι (f x) (g x)) → RelL ι (l.map f) (l.map g)
  | [], _ => .nil
  | a :: l, h => .cons (h a (by simp)) (RelL.map f g l fun x hx => h x (by simp [hx]))

theorem RelL.getD {ι : Inj} {vs : List VVal} {xs : List Value} (h : RelL ι vs xs) (i : Nat) {d : VVal} {d' : Value} (hd : Rel ι d d') : Rel ι (vs.getD i d) (xs.getD i d') := by
  rw [List.getD_eq_getElem?_getD, List.getD_eq_getElem?_getD]
  cases hv : vs[i]? with
  | some v => obtain ⟨x, a, b⟩ := h.get i v hv; rw [a]; exact b
  | none =>
    have : xs[i]? = none := by rw [List.getElem?_eq_none_iff] at hv ⊢; rw [← h.length]; exact hv
    rw [this]; exact hd

/-! ### Constants -/
theorem Rel.ofFlat (ι : Inj) (v : Value) : Rel ι (VVal.ofFlat v) v := by
  unfold VVal.ofFlat
  split <;> simp [Rel]

theorem Rel.ofConst (ι : Inj) (v : Value) : Rel ι (VVal.ofConst v) v := by
  unfold VVal.ofConst
  split
  · rename_i cs
    simp only [Rel]
    refine ⟨cs, rfl, ?_⟩
    have := RelL.map (ι := ι) VVal.ofFlat id cs.toList (fun x _ => Rel.ofFlat ι x)
    simpa using this
  · exact Rel.ofFlat ι _

theorem Rel.skip (ι : Inj) : Rel ι .skip undef := by
  simp only [Rel]; exact ⟨#[], rfl, .nil⟩

theorem Rel.undef (ι : Inj) (v : Value) : Rel ι .undef v := by simp [Rel]

/-! ### Worlds -/
def VBlk.owns : VBlk → Bool
  | .cells _ rw => rw
  | .dead => false
  | _ => true

def BRel (w0 : World) (ι : Inj) (w : World) (e : Ent) : VBlk → Prop
  | .dead => True
  | .cells cs rw => ∃ arr t fr cs', w.heap[e.r]? = some (.cells arr t fr) ∧ RelL ι cs cs' ∧ (∀ i v, cs'[i]? = some v → arr[e.sh + i]? = some v) ∧
      (if rw = true then w0.heap.size ≤ e.r ∧ e.lim = some (arr.size - e.sh) ∧ e.sh ≤ arr.size ∧ (fr.1 = fr.2 ∨ arr.size ≤ fr.1) else e.r < w0.heap.size ∧ e.lim = none)
  | .map es => ∃ entries clock, w.heap[e.r]? = some (.map entries clock) ∧ w0.heap.size ≤ e.r ∧ MRel ι es entries.toList
  | .loop st p _ tmps ps as body => ∃ l, w.heap[e.r]? = some (.loop l) ∧ w0.heap.size ≤ e.r ∧ l.state = st ∧ l.pending = p ∧ RelL ι tmps l.tmps.toList ∧ l.params.toList = ps ∧ l.assign = as ∧ l.body = body

/-- what does not hang on the virtual heap -/
structure Frz (w0 : World) (ι : Inj) (w : World) : Prop where
  fz : ∀ r arr, ι.z r = some arr → ∃ t fr, w.heap[r]? = some (.cells arr t fr)
  dn : ι.df.Nodup
  dd : ∀ r, r ∈ ι.df → w.heap[r]? = some (.deferred (some [])) ∧ w0.heap.size ≤ r

structure Sim (w0 : World) (ι : Inj) (H : VHeap) (w : World) : Prop where
  below : Below w0.heap.size w0 w
  frz : Frz w0 ι w
  fo : ∀ r arr b e k, ι.z r = some arr → ι b = some e → H[b]? = some k → k.owns = true → e.r ≠ r
  dom : ∀ b e, ι b = some e → b < H.length
  blk : ∀ b e k, ι b = some e → H[b]? = some k → BRel w0 ι w e k
  inj : ∀ b b' e e' k k', ι b = some e → ι b' = some e' → H[b]? = some k → H[b']? = some k' → k.owns = true → k'.owns = true → e.r = e'.r → b = b'

theorem BRel.mono {w0 w : World} {ι ι' : Inj} {e : Ent} {k : VBlk} (h : ι.le ι') (r : BRel w0 ι w e k) : BRel w0 ι' w e k := by
  cases k with
  | dead => trivial
  | cells cs rw =>
    obtain ⟨arr, t, fr, cs', a, b, c⟩ := r
    exact ⟨arr, t, fr, cs', a, RelL.mono h _ _ b, c⟩
  | map es =>
    obtain ⟨en, cl, a, b, c⟩ := r
    exact ⟨en, cl, a, b, MRel.mono h _ _ c⟩
  | loop st p fn tmps ps as body =>
    obtain ⟨l, a, b, c, d, e, f, g, i⟩ := r
    exact ⟨l, a, b, c, d, RelL.mono h _ _ e, f, g, i⟩

/-- a block of the real world lies as it lay: what it stands for does too -/
theorem BRel.frame {w0 w w' : World} {ι : Inj} {e : Ent} {k : VBlk} (hw : w'.heap[e.r]? = w.heap[e.r]?) (r : BRel w0 ι w e k) : BRel w0 ι w' e k := by
  cases k with
  | dead => trivial
  | cells cs rw =>
    obtain ⟨arr, t, fr, cs', a, b, c⟩ := r
    exact ⟨arr, t, fr, cs', hw.trans a, b, c⟩
  | map es =>
    obtain ⟨en, cl, a, b, c⟩ := r
    exact ⟨en, cl, hw.trans a, b, c⟩
  | loop st p fn tmps ps as body =>
    obtain ⟨l, a, b⟩ := r
    exact ⟨l, hw.trans a, b⟩

theorem BRel.lt {w0 w : World} {ι : Inj} {e : Ent} {k : VBlk} (r : BRel w0 ι w e k) (hk : k ≠ .dead) : e.r < w.heap.size := by
  have lt {i : Nat} {o : Obj} (h : w.heap[i]? = some o) : i < w.heap.size := (Array.getElem?_eq_some_iff.1 h).1
  cases k with
  | dead => exact absurd rfl hk
  | cells cs rw => obtain ⟨arr, t, fr, cs', a, _⟩ := r; exact lt a
  | map es => obtain ⟨en, cl, a, _⟩ := r; exact lt a
  | loop st p fn tmps ps as body => obtain ⟨l, a, _⟩ := r; exact lt a

/-- what is owned is no row of deferred calls -/
theorem BRel.ndef {w0 w : World} {ι : Inj} {e : Ent} {k : VBlk} (r : BRel w0 ι w e k) (hk : k.owns = true) {o : Option (List Deferred)} : w.heap[e.r]? ≠ some (.deferred o) := by
  cases k with
  | dead => simp [VBlk.owns] at hk
  | cells cs rw => obtain ⟨arr, t, fr, cs', a, _⟩ := r; rw [a]; simp
  | map es => obtain ⟨en, cl, a, _⟩ := r; rw [a]; simp
  | loop st p fn tmps ps as body => obtain ⟨l, a, _⟩ := r; rw [a]; simp

theorem Frz.keep {w0 w w' : World} {ι ι' : Inj} (s : Frz w0 ι w) (hz : ι'.z = ι.z) (hd : ι'.df = ι.df) (hold : ∀ i, (∃ arr, ι.z i = some arr) ∨ i ∈ ι.df → w'.heap[i]? = w.heap[i]?) : Frz w0 ι' w' := by
  refine ⟨fun r arr h => ?_, by rw [hd]; exact s.dn, fun r h => ?_⟩
  · rw [hz] at h
    rw [hold r (.inl ⟨arr, h⟩)]; exact s.fz r arr h
  · rw [hd] at h
    rw [hold r (.inr h)]; exact s.dd r h
theorem Frz.lt {w0 w : World} {ι : Inj} (s : Frz w0 ι w) {i : Nat} (h : (∃ arr, ι.z i = some arr) ∨ i ∈ ι.df) : i < w.heap.size := by
  rcases h with ⟨arr, h⟩ | h
  · obtain ⟨t, fr, h⟩ := s.fz i arr h; exact (Array.getElem?_eq_some_iff.1 h).1
  · exact (Array.getElem?_eq_some_iff.1 (s.dd i h).1).1
theorem Frz.new {w0 w w' : World} {ι ι' : Inj} (s : Frz w0 ι w) (hz : ι'.z = ι.z) (hd : ι'.df = ι.df) (hold : ∀ i, i < w.heap.size → w'.heap[i]? = w.heap[i]?) : Frz w0 ι' w' :=
  s.keep hz hd fun i h => hold i (s.lt h)

theorem BRel.ge {w0 w : World} {ι : Inj} {e : Ent} {k : VBlk} (r : BRel w0 ι w e k) (hk : k.owns = true) : w0.heap.size ≤ e.r := by
  cases k with
  | dead => simp [VBlk.owns] at hk
  | cells cs rw =>
    simp only [VBlk.owns] at hk; subst hk
    obtain ⟨arr, t, fr, cs', a, _, _, c⟩ := r
    exact c.1
  | map es => obtain ⟨en, cl, a, b, _⟩ := r; exact b
  | loop st p fn tmps ps as body => obtain ⟨l, a, b, _⟩ := r; exact b

/-- what is not owned lies below the first new block -/
theorem BRel.ro {w0 w : World} {ι : Inj} {e : Ent} {cs : List VVal} (r : BRel w0 ι w e (.cells cs false)) : e.r < w0.heap.size := by
  obtain ⟨arr, t, fr, cs', a, _, _, c⟩ := r
  exact c.1

theorem owns_or (k : VBlk) : k = .dead ∨ (∃ cs, k = .cells cs false) ∨ k.owns = true := by
  cases k with
  | dead => exact .inl rfl
  | cells cs rw => cases rw with
    | false => exact .inr (.inl ⟨cs, rfl⟩)
    | true => exact .inr (.inr rfl)
  | map es => exact .inr (.inr rfl)
  | loop => exact .inr (.inr rfl)

theorem Sim.owned_ne {w0 w : World} {ι : Inj} {H : VHeap} (s : Sim w0 ι H w) {b b' : Nat} {e e' : Ent} {k k' : VBlk} (h : ι b = some e) (h' : ι b' = some e') (g : H[b]? = some k) (g' : H[b']? = some k')
    (ho : k.owns = true) (hne : b ≠ b') (hd : k' ≠ .dead) : e'.r ≠ e.r := by
  intro he
  rcases owns_or k' with hk | ⟨cs, rfl⟩ | hk
  · exact hd hk
  · have h1 := (s.blk b' e' _ h' g').ro
    have h2 := (s.blk b e k h g).ge ho
    omega
  · exact hne (s.inj b b' e e' k k' h h' g g' ho hk he.symm)

theorem Sim.ndf {w0 w : World} {ι : Inj} {H : VHeap} (s : Sim w0 ι H w) {b : Nat} {e : Ent} {k : VBlk} (h : ι b = some e) (g : H[b]? = some k) (ho : k.owns = true) {r : Nat} (hr : r ∈ ι.df) : e.r ≠ r := by
  rintro rfl
  exact (s.blk b e k h g).ndef ho (s.frz.dd _ hr).1

/-- one new block -/
theorem Sim.new {w0 w w' : World} {ι : Inj} {H : VHeap} (s : Sim w0 ι H w) (e : Ent) (k : VBlk)
    (hb : Below w0.heap.size w0 w') (hold : ∀ i, i < w.heap.size → w'.heap[i]? = w.heap[i]?) (he : e.r = w.heap.size)
    (hk : BRel w0 (ι.ext H.length e) w' e k) : Sim w0 (ι.ext H.length e) (H ++ [k]) w' ∧ ι.le (ι.ext H.length e) := by
  have hle : ι.le (ι.ext H.length e) := ⟨fun b e' h => by
    have := s.dom b e' h
    rw [Inj.ext_m, if_neg (by omega)]; exact h, fun _ _ h => h⟩
  refine ⟨⟨hb, s.frz.new rfl rfl hold, ?_, ?_, ?_, ?_⟩, hle⟩
  · intro r arr b e' k' hz h hH ho
    rw [Inj.ext_z] at hz
    have hr := s.frz.lt (.inl ⟨arr, hz⟩)
    by_cases hbn : b = H.length
    · rw [Inj.ext_m, if_pos hbn] at h; cases h; omega
    · rw [Inj.ext_m, if_neg hbn] at h
      have hlt := s.dom b e' h
      rw [List.getElem?_append_left hlt] at hH
      exact s.fo r arr b e' k' hz h hH ho
  · intro b e' h
    rw [Inj.ext_m] at h
    split at h
    · subst_vars; simp
    · have := s.dom b e' h; simp; omega
  · intro b e' k' h hH
    by_cases hbn : b = H.length
    · subst hbn
      simp at hH; subst hH
      rw [Inj.ext_m] at h; simp at h; subst h
      exact hk
    · have h0 : ι b = some e' := by rw [Inj.ext_m, if_neg hbn] at h; exact h
      have hlt := s.dom b e' h0
      rw [List.getElem?_append_left hlt] at hH
      have r := s.blk b e' k' h0 hH
      by_cases hd : k' = .dead
      · subst hd; trivial
      · exact (BRel.frame (hold _ (r.lt hd)) r).mono hle
  · intro b b' e1 e2 k1 k2 h1 h2 g1 g2 o1 o2 hr
    have aux : ∀ c ec kc, (ι.ext H.length e) c = some ec → (H ++ [k])[c]? = some kc → kc.owns = true → (c = H.length ∧ ec = e) ∨ (c < H.length ∧ ι c = some ec ∧ H[c]? = some kc ∧ ec.r < w.heap.size) := by
      intro c ec kc hc hg ho
      by_cases hcn : c = H.length
      · subst hcn; rw [Inj.ext_m] at hc; simp at hc; exact .inl ⟨rfl, hc.symm⟩
      · have h0 : ι c = some ec := by rw [Inj.ext_m, if_neg hcn] at hc; exact hc
        have hlt := s.dom c ec h0
        rw [List.getElem?_append_left hlt] at hg
        refine .inr ⟨hlt, h0, hg, (s.blk c ec kc h0 hg).lt (fun hd => by subst hd; simp [VBlk.owns] at ho)⟩
    rcases aux b e1 k1 h1 g1 o1 with ⟨rfl, rfl⟩ | ⟨l1, i1, j1, r1⟩ <;> rcases aux b' e2 k2 h2 g2 o2 with ⟨rfl, rfl⟩ | ⟨l2, i2, j2, r2⟩
    · rfl
    · omega
    · omega
    · exact s.inj b b' e1 e2 k1 k2 i1 i2 j1 j2 o1 o2 hr

/-- an owned block turns -/
theorem Sim.turn {w0 w w' : World} {ι : Inj} {H : VHeap} (s : Sim w0 ι H w) {b : Nat} {e : Ent} {k : VBlk} (h : ι b = some e) (g : H[b]? = some k) (ho : k.owns = true) (k' : VBlk)
    (hb : Below w0.heap.size w0 w') (hold : ∀ i, i < w.heap.size → i ≠ e.r → w'.heap[i]? = w.heap[i]?)
    (hk : BRel w0 ι w' e k') (ho' : k'.owns = true ∨ k' = .dead) : Sim w0 ι (H.set b k') w' := by
  have hbl := s.dom b e h
  have old : ∀ (d : Nat) (kd : VBlk), (H.set b k')[d]? = some kd → kd.owns = true → ∃ kd' : VBlk, H[d]? = some kd' ∧ kd'.owns = true := by
    intro d kd hd ho2
    by_cases hdb : d = b
    · subst hdb; exact ⟨k, g, ho⟩
    · rw [List.getElem?_set_ne (Ne.symm hdb)] at hd; exact ⟨kd, hd, ho2⟩
  refine ⟨hb, s.frz.keep rfl rfl (fun i hi => hold i (s.frz.lt hi) ?_), ?_, ?_, ?_, ?_⟩
  · rcases hi with ⟨arr, hi⟩ | hi
    · exact fun hh => s.fo i arr b e k hi h g ho hh.symm
    · exact fun hh => s.ndf h g ho hi hh.symm
  · intro r arr c ec kc hz hc hg hoc
    obtain ⟨kc', a1, b1⟩ := old c kc hg hoc
    exact s.fo r arr c ec kc' hz hc a1 b1
  · intro c ec hc; simpa using s.dom c ec hc
  · intro c ec kc hc hg
    by_cases hcb : c = b
    · subst hcb
      rw [h] at hc; cases hc
      rw [List.getElem?_set_self hbl] at hg; cases hg
      exact hk
    · rw [List.getElem?_set_ne (Ne.symm hcb)] at hg
      have r := s.blk c ec kc hc hg
      by_cases hd : kc = .dead
      · subst hd; trivial
      · exact BRel.frame (hold _ (r.lt hd) (s.owned_ne h hc g hg ho (Ne.symm hcb) hd)) r
  · intro c c' e1 e2 k1 k2 h1 h2 g1 g2 o1 o2 hr
    obtain ⟨k1', a1, b1⟩ := old c k1 g1 o1
    obtain ⟨k2', a2, b2⟩ := old c' k2 g2 o2
    exact s.inj c c' e1 e2 k1' k2' h1 h2 a1 a2 b1 b2 hr

/-- nothing has turned but what nobody looks at (the count of draws) -/
theorem Sim.same {w0 w w' : World} {ι : Inj} {H : VHeap} (s : Sim w0 ι H w) (hb : Below w0.heap.size w0 w') (hold : ∀ i, i < w.heap.size → w'.heap[i]? = w.heap[i]?) : Sim w0 ι H w' :=
  ⟨hb, s.frz.new rfl rfl hold, s.fo, s.dom, fun b e k h g => by
    have r := s.blk b e k h g
    by_cases hd : k = .dead
    · subst hd; trivial
    · exact BRel.frame (hold _ (r.lt hd)) r, s.inj⟩

theorem Sim.drew {w0 w : World} {ι : Inj} {H : VHeap} (s : Sim w0 ι H w) : Sim w0 ι H w.drew := s.same s.below.drew fun _ _ => rfl

/-- the blocks below n stand for what they stood for -/
def Inj.ex (n : Nat) (ι ι' : Inj) : Prop := (∀ b, b < n → ι' b = ι b) ∧ (∀ r a, ι.z r = some a → ι'.z r = some a) ∧ ι'.df = ι.df
theorem Inj.ex_refl (n : Nat) (ι : Inj) : Inj.ex n ι ι := ⟨fun _ _ => rfl, fun _ _ h => h, rfl⟩
theorem Inj.ex_trans {n m : Nat} {a b c : Inj} (h : Inj.ex n a b) (k : Inj.ex m b c) (hnm : n ≤ m) : Inj.ex n a c := ⟨fun i hi => (k.1 i (by omega)).trans (h.1 i hi), fun _ _ x => k.2.1 _ _ (h.2.1 _ _ x), k.2.2.trans h.2.2⟩
theorem Inj.ex_le {n m : Nat} {a b : Inj} (h : Inj.ex m a b) (hnm : n ≤ m) : Inj.ex n a b := ⟨fun i hi => h.1 i (by omega), h.2⟩
theorem Sim.le {w0 w : World} {ι ι' : Inj} {H : VHeap} (s : Sim w0 ι H w) (h : Inj.ex H.length ι ι') : ι.le ι' := ⟨fun b e hb => (h.1 b (s.dom b e hb)).trans hb, h.2.1⟩
theorem ext_ex (ι : Inj) (n : Nat) (e : Ent) : Inj.ex n ι (ι.ext n e) := ⟨fun b hb => by rw [Inj.ext_m, if_neg (by omega)], fun _ _ h => h, rfl⟩

mutual
theorem Rel.under {ι : Inj} {n : Nat} (hd : ∀ b e, ι b = some e → b < n) : ∀ (v : VVal) (x : Value), Rel ι v x → v.under n = true
  | .undef, _, _ => rfl
  | .bool _, _, _ => rfl
  | .int _ _, _, _ => rfl
  | .str _, _, _ => rfl
  | .ptr none, _, _ => rfl
  | .ptr (some (b, _)), _, r => by
    simp only [Rel, VVal.under, decide_eq_true_eq] at r ⊢
    obtain ⟨e, a, _⟩ := r; exact hd _ _ a
  | .slice none _ _ _ _, _, _ => rfl
  | .slice (some (b, _)) _ _ _ _, _, r => by
    simp only [Rel, VVal.under, decide_eq_true_eq] at r ⊢
    obtain ⟨e, c, a, _⟩ := r; exact hd _ _ a
  | .fsl cs _ _ _, _, r => by
    simp only [Rel, VVal.under] at r ⊢
    obtain ⟨a, c, xs, _, _, _, _, h3, _⟩ := r
    exact RelL.under hd cs xs h3
  | .fptr cs _, _, r => by
    simp only [Rel, VVal.under] at r ⊢
    obtain ⟨_, _, _, xs, _, _, h3, _⟩ := r
    exact RelL.under hd cs xs h3
  | .map none, _, _ => rfl
  | .map (some _), _, r => by
    simp only [Rel, VVal.under, decide_eq_true_eq] at r ⊢
    obtain ⟨e, a, _⟩ := r; exact hd _ _ a
  | .func _ a c, _, r => by
    simp only [Rel, VVal.under, Bool.and_eq_true] at r ⊢
    obtain ⟨a', c', e, p, q⟩ := r
    exact ⟨RelL.under hd _ _ p, RelL.under hd _ _ q⟩
  | .yield _, _, r => by
    simp only [Rel, VVal.under, decide_eq_true_eq] at r ⊢
    obtain ⟨e, a, _⟩ := r; exact hd _ _ a
  | .nilFunc, _, _ => rfl
  | .iface _ x, _, r => by
    simp only [Rel, VVal.under] at r ⊢
    obtain ⟨y, e, p⟩ := r; exact Rel.under hd x y p
  | .nilIface, _, _ => rfl
  | .agg cs, _, r => by
    simp only [Rel, VVal.under] at r ⊢
    obtain ⟨y, e, p⟩ := r; exact RelL.under hd cs _ p
  | .tuple cs, _, r => by
    simp only [Rel, VVal.under] at r ⊢
    obtain ⟨y, e, p⟩ := r; exact RelL.under hd cs _ p
theorem RelL.under {ι : Inj} {n : Nat} (hd : ∀ b e, ι b = some e → b < n) : ∀ (vs : List VVal) (xs : List Value), RelL ι vs xs → VVal.underL n vs = true
  | [], _, _ => rfl
  | v :: vs, _, r => by
    simp only [RelL, VVal.underL, Bool.and_eq_true] at r ⊢
    obtain ⟨y, ys, e, p, q⟩ := r
    exact ⟨Rel.under hd v y p, RelL.under hd vs ys q⟩
end

theorem MRel.under {ι : Inj} {n : Nat} (hd : ∀ b e, ι b = some e → b < n) : ∀ (vs : List (VVal × VVal)) (xs : List MapEntry), MRel ι vs xs → (vs.all fun e => e.1.under n && e.2.under n) = true
  | [], _, _ => rfl
  | v :: vs, _, r => by
    simp only [MRel, List.all_cons, Bool.and_eq_true] at r ⊢
    obtain ⟨y, ys, e, p, q, t⟩ := r
    exact ⟨⟨Rel.under hd _ y.key p, Rel.under hd _ y.val q⟩, MRel.under hd vs ys t⟩

theorem BRel.under {w0 w : World} {ι : Inj} {n : Nat} (hd : ∀ b e, ι b = some e → b < n) {e : Ent} {k : VBlk} (r : BRel w0 ι w e k) : k.under n = true := by
  cases k with
  | dead => rfl
  | cells cs rw => obtain ⟨arr, t, fr, cs', a, b, _⟩ := r; exact RelL.under hd _ _ b
  | map es => obtain ⟨en, cl, a, b, c⟩ := r; exact MRel.under hd _ _ c
  | loop st p fn tmps ps as body =>
    obtain ⟨l, a, b, c, d, e', f, g, i⟩ := r
    exact RelL.under hd _ _ e'

theorem BRel.cut {w0 w : World} {ι : Inj} {n : Nat} {e : Ent} {k : VBlk} (u : k.under n = true) (r : BRel w0 ι w e k) : BRel w0 (ι.cut n) w e k := by
  cases k with
  | dead => trivial
  | cells cs rw => obtain ⟨arr, t, fr, cs', a, b, c⟩ := r; exact ⟨arr, t, fr, cs', a, RelL.cut n _ _ u b, c⟩
  | map es => obtain ⟨en, cl, a, b, c⟩ := r; exact ⟨en, cl, a, b, MRel.cut n _ _ u c⟩
  | loop st p fn tmps ps as body =>
    obtain ⟨l, a, b, c, d, e', f, g, i⟩ := r
    exact ⟨l, a, b, c, d, RelL.cut n _ _ u e', f, g, i⟩

/-- the blocks from m on are forgotten; each block below that is looked at again names none of them -/
theorem Sim.cut {w0 w : World} {ι : Inj} {H : VHeap} (s : Sim w0 ι H w) {m : Nat} (hm : m ≤ H.length) (hu : ∀ i k e, i < m → ι i = some e → H[i]? = some k → k.under m = true) : Sim w0 (ι.cut m) (H.take m) w := by
  have get : ∀ {b e}, (ι.cut m) b = some e → b < m ∧ ι b = some e := by
    intro b e h
    rw [Inj.cut_m] at h
    split at h
    · exact ⟨‹_›, h⟩
    · cases h
  have tk : ∀ {b : Nat} {k : VBlk}, b < m → (H.take m)[b]? = some k → H[b]? = some k := by
    intro b k hb g
    rw [List.getElem?_take, if_pos hb] at g; exact g
  refine ⟨s.below, ⟨s.frz.fz, s.frz.dn, s.frz.dd⟩, ?_, ?_, ?_, ?_⟩
  · intro r arr b e k hz h g ho
    obtain ⟨hb, h⟩ := get h
    exact s.fo r arr b e k hz h (tk hb g) ho
  · intro b e h
    obtain ⟨hb, h⟩ := get h
    simp; omega
  · intro b e k h g
    obtain ⟨hb, h⟩ := get h
    exact BRel.cut (hu b k e hb h (tk hb g)) (s.blk b e k h (tk hb g))
  · intro b b' e e' k k' h h' g g' o o' hr
    obtain ⟨hb, h⟩ := get h
    obtain ⟨hb', h'⟩ := get h'
    exact s.inj b b' e e' k k' h h' (tk hb g) (tk hb' g') o o' hr

/-- what a block that is mapped names is below the heap's end -/
theorem Sim.under {w0 w : World} {ι : Inj} {H : VHeap} (s : Sim w0 ι H w) {b : Nat} {e : Ent} {k : VBlk} (h : ι b = some e) (g : H[b]? = some k) : k.under H.length = true := (s.blk b e k h g).under s.dom

end Go.V
