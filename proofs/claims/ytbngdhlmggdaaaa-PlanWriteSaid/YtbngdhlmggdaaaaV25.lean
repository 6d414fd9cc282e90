/- Ways that join behind a loop; drawn regions with pivots: what is seen of them. (own work) -/
import Derived.Test.YtbngdhlmggdaaaaV23
import Derived.Test.YtbngdhlmggdaaaaV24
import Derived.Test.YtbngdhlmggdaaaaV22
set_option autoImplicit false
set_option linter.unusedVariables false
namespace Go.V
open Go Go.RowKit
section
variable {S : Sys} {H0 H : VHeap} {rd : Option Nat} {env : VEnv} {Q : Post}
/-- the ways behind a piece of code come together -/
theorem B_seqJ {x y : Code} {α : Type} (mask : List Bool) (W : α → List (Nat × VVal)) (inv : α → VHeap → Prop)
    (h1 : B S H0 rd x env H (loopK S H0 (fun e G => ∃ z : α, e = upd (mclear mask env) (W z) ∧ inv z G) Q)) (h2 : ∀ z G, inv z G → B S H0 rd y (upd (mclear mask env) (W z)) G Q) : B S H0 rd (.seq x y) env H Q := by
  refine B_seq (h1.mono ?_)
  intro e v G hq
  cases e
  case normal =>
    obtain ⟨env', H', g, z, rfl, hi⟩ := hq
    exact K_seq (B_gh g (h2 z H' hi))
  all_goals exact hq
/-- a list that grows, frozen, all else left -/
theorem B_ghLV {X : VHeap} {c : Code} {env' : VEnv} {es : Nat} {v : VVal} {cs : List VVal} {len : Nat} (i : Nat) (l : LV H.length es X v cs len) (hv : env[i]? = some v) (he : env.set i (.fsl cs len es false) = env')
    (h : ∀ X', X'.length = X.length → (∀ j, vidx v ≠ some (H.length + j) → X'[j]? = X[j]?) → B S H0 rd c env' (H ++ X') Q) : B S H0 rd c env (H ++ X) Q := by
  obtain ⟨X', g, h1, h2⟩ := Gh.freezeLV i l hv he
  exact B_gh g (h X' h1 h2)
end
section
variable {S : Sys} {H : VHeap} {ops : Array Oper} {bef : Array Nat} {env : VEnv} {K : VEnv → VHeap → Prop} {pre : List Nat}
theorem P_env {env' : VEnv} (he : env = env') (h : WP S ops pre env' H K) : WP S ops pre env H K := he ▸ h
theorem P_call (p : Nat) {o : Oper} {f : FuncId} {first cap args : List VVal} {all : List VVal} {R : VVal → VHeap → Prop} (hb : befOk ops bef = true) (hp : pivB ops bef pre p = true) (ho : ops[p]? = some o) (hg : vwanted ops env o.guard = some true) (hc : calleeOf S.C.meth env.eval o.op = some (.func f first cap, args)) (ha : first ++ args ++ cap = all)
    (hF : F S f all H R) (h : ∀ v G, R v G → WP S ops (pre ++ [p]) (env.put o.dst v) G K) : WP S ops pre env H K :=
  P_piv p hb hp ho hg hc rfl (Fv_fn (ha ▸ hF)) h
end
end Go.V
