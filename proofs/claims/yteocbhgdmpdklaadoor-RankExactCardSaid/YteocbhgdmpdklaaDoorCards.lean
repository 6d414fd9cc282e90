/-
  DERIVED. GIVEN WITH THE SEED: THE CARDS: each row of YteocbhgdmpdklaaDoorRows.lean that lists a variable, with what it lists TIED to the program's text (the seventh form; the later family's looks); each row that meets fmt, with fmt's text TOLD by the authors' own Lean function (tested against real Go, not proved from fmt's source: count such statements apart). THE CARD IS WHAT COUNTS. Prove the row's statement (the work); the ties are given (YteocbhgdmpdklaaDoorTie.lean); close each card by the builder's one call (the guide's Derived/Test/ToyasCard.lean, 'card_holds'). Laid BY PROGRAM, IN A SANDBOX (cutbox-door.mjs). By AI agents, Wed Nov 11 2026. No macro, syntax, notation, axiom, sorry.
-/
import Derived.Test.YteocbhgdmpdklaaDoorRows
import GoSem.ClaimSeven
namespace Go.Proofs.YteocbhgdmpdklaaDoor
namespace Rows

/-- THE TIED CARD OF 'provostlaw03.OrderCovers'. -/
def orderCoversCard : Claim7 := { stood := { row := orderCoversRow, standIns := [], harness := (true, "d7f275c147b1a10545362d77ca5c3a4d8848923e5d785aca849e5765cb2d739e"), looks := true }, kinds := [], alts := [], laidByText := true, laidKinds := [.data], laidTests := true, laidLooks := .later }
def OrderCoversCardSaid : Prop := Claim7.holds Tryd.pinned (.plain (OpenSpec.ofChange orderCoversSpec)) orderCoversCard

/-- THE TIED CARD OF 'provostlaw03.OrderDowns'. -/
def orderDownsCard : Claim7 := { stood := { row := orderDownsRow, standIns := [], harness := (true, "d7f275c147b1a10545362d77ca5c3a4d8848923e5d785aca849e5765cb2d739e"), looks := true }, kinds := [], alts := [], laidByText := true, laidKinds := [.data], laidTests := true, laidLooks := .later }
def OrderDownsCardSaid : Prop := Claim7.holds Tryd.pinned (.plain (OpenSpec.ofChange orderDownsSpec)) orderDownsCard

/-- THE TIED CARD OF 'provostlaw03.OrderReady'. -/
def orderReadyCard : Claim7 := { stood := { row := orderReadyRow, standIns := [], harness := (true, "d7f275c147b1a10545362d77ca5c3a4d8848923e5d785aca849e5765cb2d739e"), looks := true }, kinds := [], alts := [], laidByText := true, laidKinds := [.data], laidTests := true, laidLooks := .later }
def OrderReadyCardSaid : Prop := Claim7.holds Tryd.pinned (.plain (OpenSpec.ofChange orderReadySpec)) orderReadyCard

/-- THE TIED CARD OF 'provostlaw03.OrderCount'. -/
def orderCountCard : Claim7 := { stood := { row := orderCountRow, standIns := [], harness := (true, "d7f275c147b1a10545362d77ca5c3a4d8848923e5d785aca849e5765cb2d739e"), looks := true }, kinds := [], alts := [], laidByText := true, laidKinds := [.data], laidTests := true, laidLooks := .later }
def OrderCountCardSaid : Prop := Claim7.holds Tryd.pinned (.plain (OpenSpec.ofChange orderCountSpec)) orderCountCard

/-- THE TIED CARD OF 'provostlaw08.RankDepth'. -/
def rankDepthCard : Claim7 := { stood := { row := rankDepthRow, standIns := [], harness := (true, "d7f275c147b1a10545362d77ca5c3a4d8848923e5d785aca849e5765cb2d739e"), looks := true }, kinds := [], alts := [], laidByText := true, laidKinds := [.data], laidTests := true, laidLooks := .later }
def RankDepthCardSaid : Prop := Claim7.holds Tryd.pinned (.plain (OpenSpec.ofChange rankDepthSpec)) rankDepthCard

/-- THE TIED CARD OF 'provostlaw08.RankGoes'. -/
def rankGoesCard : Claim7 := { stood := { row := rankGoesRow, standIns := [], harness := (true, "d7f275c147b1a10545362d77ca5c3a4d8848923e5d785aca849e5765cb2d739e"), looks := true }, kinds := [], alts := [], laidByText := true, laidKinds := [.data], laidTests := true, laidLooks := .later }
def RankGoesCardSaid : Prop := Claim7.holds Tryd.pinned (.plain (OpenSpec.ofChange rankGoesSpec)) rankGoesCard

/-- THE TIED CARD OF 'provostlaw03.OrderExact'. -/
def orderExactCard : Claim7 := { stood := { row := orderExactRow, standIns := [], harness := (true, "d7f275c147b1a10545362d77ca5c3a4d8848923e5d785aca849e5765cb2d739e"), looks := true }, kinds := [], alts := [], laidByText := true, laidKinds := [.data], laidTests := true, laidLooks := .later }
def OrderExactCardSaid : Prop := Claim7.holds Tryd.pinned (.plain (OpenSpec.ofChange orderExactSpec)) orderExactCard

/-- THE TIED CARD OF 'provostlaw08.RankReach'. -/
def rankReachCard : Claim7 := { stood := { row := rankReachRow, standIns := [], harness := (true, "d7f275c147b1a10545362d77ca5c3a4d8848923e5d785aca849e5765cb2d739e"), looks := true }, kinds := [], alts := [], laidByText := true, laidKinds := [.data], laidTests := true, laidLooks := .later }
def RankReachCardSaid : Prop := Claim7.holds Tryd.pinned (.plain (OpenSpec.ofChange rankReachSpec)) rankReachCard

/-- THE TIED CARD OF 'provostlaw08.RankExact'. -/
def rankExactCard : Claim7 := { stood := { row := rankExactRow, standIns := [], harness := (true, "d7f275c147b1a10545362d77ca5c3a4d8848923e5d785aca849e5765cb2d739e"), looks := true }, kinds := [], alts := [], laidByText := true, laidKinds := [.data], laidTests := true, laidLooks := .later }
def RankExactCardSaid : Prop := Claim7.holds Tryd.pinned (.plain (OpenSpec.ofChange rankExactSpec)) rankExactCard

/-- THE TIED CARD OF 'provostlaw03.OrderRows'. -/
def orderRowsCard : Claim7 := { stood := { row := orderRowsRow, standIns := [], harness := (true, "d7f275c147b1a10545362d77ca5c3a4d8848923e5d785aca849e5765cb2d739e"), looks := true }, kinds := [], alts := [], laidByText := true, laidKinds := [.data], laidTests := true, laidLooks := .later }
def OrderRowsCardSaid : Prop := Claim7.holds Tryd.pinned (.plain (OpenSpec.ofChange orderRowsSpec)) orderRowsCard

/-- THE TIED CARD OF 'provostlaw03.OrderOwn'. -/
def orderOwnCard : Claim7 := { stood := { row := orderOwnRow, standIns := [], harness := (true, "d7f275c147b1a10545362d77ca5c3a4d8848923e5d785aca849e5765cb2d739e"), looks := true }, kinds := [], alts := [], laidByText := true, laidKinds := [.data], laidTests := true, laidLooks := .later }
def OrderOwnCardSaid : Prop := Claim7.holds Tryd.pinned (.plain (OpenSpec.ofChange orderOwnSpec)) orderOwnCard

/-- THE SECOND FORM's CARD OF 'provostlaw03.OrderCovers'. -/
def orderCoversUptoCard : Claim7 := { stood := { row := orderCoversUptoRow, standIns := [], harness := (true, "d7f275c147b1a10545362d77ca5c3a4d8848923e5d785aca849e5765cb2d739e"), looks := true }, kinds := [], alts := [], laidByText := true, laidKinds := [.data], laidTests := true, laidLooks := .later }
def OrderCoversUptoCardSaid : Prop := Claim7.holds Tryd.pinned (.plain (OpenSpec.upto orderCoversSpec)) orderCoversUptoCard

/-- THE SECOND FORM's CARD OF 'provostlaw03.OrderDowns'. -/
def orderDownsUptoCard : Claim7 := { stood := { row := orderDownsUptoRow, standIns := [], harness := (true, "d7f275c147b1a10545362d77ca5c3a4d8848923e5d785aca849e5765cb2d739e"), looks := true }, kinds := [], alts := [], laidByText := true, laidKinds := [.data], laidTests := true, laidLooks := .later }
def OrderDownsUptoCardSaid : Prop := Claim7.holds Tryd.pinned (.plain (OpenSpec.upto orderDownsSpec)) orderDownsUptoCard

/-- THE SECOND FORM's CARD OF 'provostlaw03.OrderReady'. -/
def orderReadyUptoCard : Claim7 := { stood := { row := orderReadyUptoRow, standIns := [], harness := (true, "d7f275c147b1a10545362d77ca5c3a4d8848923e5d785aca849e5765cb2d739e"), looks := true }, kinds := [], alts := [], laidByText := true, laidKinds := [.data], laidTests := true, laidLooks := .later }
def OrderReadyUptoCardSaid : Prop := Claim7.holds Tryd.pinned (.plain (OpenSpec.upto orderReadySpec)) orderReadyUptoCard

/-- THE SECOND FORM's CARD OF 'provostlaw03.OrderCount'. -/
def orderCountUptoCard : Claim7 := { stood := { row := orderCountUptoRow, standIns := [], harness := (true, "d7f275c147b1a10545362d77ca5c3a4d8848923e5d785aca849e5765cb2d739e"), looks := true }, kinds := [], alts := [], laidByText := true, laidKinds := [.data], laidTests := true, laidLooks := .later }
def OrderCountUptoCardSaid : Prop := Claim7.holds Tryd.pinned (.plain (OpenSpec.upto orderCountSpec)) orderCountUptoCard

/-- THE SECOND FORM's CARD OF 'provostlaw08.RankDepth'. -/
def rankDepthUptoCard : Claim7 := { stood := { row := rankDepthUptoRow, standIns := [], harness := (true, "d7f275c147b1a10545362d77ca5c3a4d8848923e5d785aca849e5765cb2d739e"), looks := true }, kinds := [], alts := [], laidByText := true, laidKinds := [.data], laidTests := true, laidLooks := .later }
def RankDepthUptoCardSaid : Prop := Claim7.holds Tryd.pinned (.plain (OpenSpec.upto rankDepthSpec)) rankDepthUptoCard

/-- THE SECOND FORM's CARD OF 'provostlaw08.RankGoes'. -/
def rankGoesUptoCard : Claim7 := { stood := { row := rankGoesUptoRow, standIns := [], harness := (true, "d7f275c147b1a10545362d77ca5c3a4d8848923e5d785aca849e5765cb2d739e"), looks := true }, kinds := [], alts := [], laidByText := true, laidKinds := [.data], laidTests := true, laidLooks := .later }
def RankGoesUptoCardSaid : Prop := Claim7.holds Tryd.pinned (.plain (OpenSpec.upto rankGoesSpec)) rankGoesUptoCard

/-- THE SECOND FORM's CARD OF 'provostlaw03.OrderExact'. -/
def orderExactUptoCard : Claim7 := { stood := { row := orderExactUptoRow, standIns := [], harness := (true, "d7f275c147b1a10545362d77ca5c3a4d8848923e5d785aca849e5765cb2d739e"), looks := true }, kinds := [], alts := [], laidByText := true, laidKinds := [.data], laidTests := true, laidLooks := .later }
def OrderExactUptoCardSaid : Prop := Claim7.holds Tryd.pinned (.plain (OpenSpec.upto orderExactSpec)) orderExactUptoCard

/-- THE SECOND FORM's CARD OF 'provostlaw08.RankReach'. -/
def rankReachUptoCard : Claim7 := { stood := { row := rankReachUptoRow, standIns := [], harness := (true, "d7f275c147b1a10545362d77ca5c3a4d8848923e5d785aca849e5765cb2d739e"), looks := true }, kinds := [], alts := [], laidByText := true, laidKinds := [.data], laidTests := true, laidLooks := .later }
def RankReachUptoCardSaid : Prop := Claim7.holds Tryd.pinned (.plain (OpenSpec.upto rankReachSpec)) rankReachUptoCard

/-- THE SECOND FORM's CARD OF 'provostlaw08.RankExact'. -/
def rankExactUptoCard : Claim7 := { stood := { row := rankExactUptoRow, standIns := [], harness := (true, "d7f275c147b1a10545362d77ca5c3a4d8848923e5d785aca849e5765cb2d739e"), looks := true }, kinds := [], alts := [], laidByText := true, laidKinds := [.data], laidTests := true, laidLooks := .later }
def RankExactUptoCardSaid : Prop := Claim7.holds Tryd.pinned (.plain (OpenSpec.upto rankExactSpec)) rankExactUptoCard

/-- THE SECOND FORM's CARD OF 'provostlaw03.OrderRows'. -/
def orderRowsUptoCard : Claim7 := { stood := { row := orderRowsUptoRow, standIns := [], harness := (true, "d7f275c147b1a10545362d77ca5c3a4d8848923e5d785aca849e5765cb2d739e"), looks := true }, kinds := [], alts := [], laidByText := true, laidKinds := [.data], laidTests := true, laidLooks := .later }
def OrderRowsUptoCardSaid : Prop := Claim7.holds Tryd.pinned (.plain (OpenSpec.upto orderRowsSpec)) orderRowsUptoCard

/-- THE SECOND FORM's CARD OF 'provostlaw03.OrderOwn'. -/
def orderOwnUptoCard : Claim7 := { stood := { row := orderOwnUptoRow, standIns := [], harness := (true, "d7f275c147b1a10545362d77ca5c3a4d8848923e5d785aca849e5765cb2d739e"), looks := true }, kinds := [], alts := [], laidByText := true, laidKinds := [.data], laidTests := true, laidLooks := .later }
def OrderOwnUptoCardSaid : Prop := Claim7.holds Tryd.pinned (.plain (OpenSpec.upto orderOwnSpec)) orderOwnUptoCard
end Rows
end Go.Proofs.YteocbhgdmpdklaaDoor
