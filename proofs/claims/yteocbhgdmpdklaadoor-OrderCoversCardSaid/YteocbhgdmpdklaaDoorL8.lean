/- OrderCovers: the law -/
import Derived.Test.YteocbhgdmpdklaaDoorR1
import Derived.Test.YteocbhgdmpdklaaDoorS10
set_option autoImplicit false
set_option linter.unusedVariables false
set_option linter.unusedSimpArgs false
set_option maxHeartbeats 4000000
set_option maxRecDepth 100000
namespace Go.Proofs.YteocbhgdmpdklaaDoor.VT
open Go Go.V


theorem OrderCovers_law {x : SW} (N : Int) (pairs : List (Int × Int)) (A B : Int) (w : BitVec 64) (pr : List Int) (most : BitVec 64) (hl : pairs.length * 16 ≤ 140737488351232) : F (psys x) 3 [.agg [iI N, fzP pairs, iI A, iI B, iW w, fzI pr, iW most]] [] fun v G => v = .bool true := by
  have hl : pairs.length * 16 ≤ 140737488355328 := by omega
  rcases new_cases N pairs with ⟨e, h1, h2⟩ | ⟨m, hN, ho, h1, h2⟩
  · exact (OrderCovers_no [] N A B pairs w pr most hl e h1 h2).mono fun v G h => h.1
  · exact (OrderCovers_yes [] N A B pairs w pr most hl m hN ho h1 h2).mono fun v G h => h.1
end Go.Proofs.YteocbhgdmpdklaaDoor.VT
