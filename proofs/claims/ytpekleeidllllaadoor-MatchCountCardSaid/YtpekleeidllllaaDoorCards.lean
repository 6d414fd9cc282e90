/-
  DERIVED. GIVEN WITH THE SEED: THE CARDS: each row of YtpekleeidllllaaDoorRows.lean that lists a variable, with what it lists TIED to the program's text (the seventh form; the later family's looks); each row that meets fmt, with fmt's text TOLD by the authors' own Lean function (tested against real Go, not proved from fmt's source: count such statements apart). THE CARD IS WHAT COUNTS. Prove the row's statement (the work); the ties are given (YtpekleeidllllaaDoorTie.lean); close each card by the builder's one call (the guide's Derived/Test/ToyasCard.lean, 'card_holds'). Laid BY PROGRAM, IN A SANDBOX (cutbox-door.mjs). By AI agents, Wed Nov 11 2026. No macro, syntax, notation, axiom, sorry.
-/
import Derived.Test.YtpekleeidllllaaDoorRows
import GoSem.ClaimSeven
namespace Go.Proofs.YtpekleeidllllaaDoor
namespace Rows

/-- THE TIED CARD OF 'provostlaw11.MatchLeast'. -/
def matchLeastCard : Claim7 := { stood := { row := matchLeastRow, standIns := [], harness := (true, "b285102e17f63608774194566b2d5c474ebd1b45df0b01bc04de43cbc0deb0d4"), looks := false }, kinds := [], alts := [], laidByText := true, laidKinds := [.data], laidTests := true, laidLooks := .later }
def MatchLeastCardSaid : Prop := Claim7.holds Tryd.pinned (.plain (OpenSpec.ofChange matchLeastSpec)) matchLeastCard

/-- THE TIED CARD OF 'provostlaw11.MatchFree'. -/
def matchFreeCard : Claim7 := { stood := { row := matchFreeRow, standIns := [], harness := (true, "b285102e17f63608774194566b2d5c474ebd1b45df0b01bc04de43cbc0deb0d4"), looks := false }, kinds := [], alts := [], laidByText := true, laidKinds := [.data], laidTests := true, laidLooks := .later }
def MatchFreeCardSaid : Prop := Claim7.holds Tryd.pinned (.plain (OpenSpec.ofChange matchFreeSpec)) matchFreeCard

/-- THE TIED CARD OF 'provostlaw11.MatchCount'. -/
def matchCountCard : Claim7 := { stood := { row := matchCountRow, standIns := [], harness := (true, "b285102e17f63608774194566b2d5c474ebd1b45df0b01bc04de43cbc0deb0d4"), looks := false }, kinds := [], alts := [], laidByText := true, laidKinds := [.data], laidTests := true, laidLooks := .later }
def MatchCountCardSaid : Prop := Claim7.holds Tryd.pinned (.plain (OpenSpec.ofChange matchCountSpec)) matchCountCard

/-- THE TIED CARD OF 'provostlaw11.MatchShort'. -/
def matchShortCard : Claim7 := { stood := { row := matchShortRow, standIns := [], harness := (true, "b285102e17f63608774194566b2d5c474ebd1b45df0b01bc04de43cbc0deb0d4"), looks := false }, kinds := [], alts := [], laidByText := true, laidKinds := [.data], laidTests := true, laidLooks := .later }
def MatchShortCardSaid : Prop := Claim7.holds Tryd.pinned (.plain (OpenSpec.ofChange matchShortSpec)) matchShortCard

/-- THE TIED CARD OF 'provostlaw11.MatchProof'. -/
def matchProofCard : Claim7 := { stood := { row := matchProofRow, standIns := [], harness := (true, "b285102e17f63608774194566b2d5c474ebd1b45df0b01bc04de43cbc0deb0d4"), looks := false }, kinds := [], alts := [], laidByText := true, laidKinds := [.data], laidTests := true, laidLooks := .later }
def MatchProofCardSaid : Prop := Claim7.holds Tryd.pinned (.plain (OpenSpec.ofChange matchProofSpec)) matchProofCard

/-- THE TIED CARD OF 'provostlaw11.MatchOwn'. -/
def matchOwnCard : Claim7 := { stood := { row := matchOwnRow, standIns := [], harness := (true, "b285102e17f63608774194566b2d5c474ebd1b45df0b01bc04de43cbc0deb0d4"), looks := false }, kinds := [], alts := [], laidByText := true, laidKinds := [.data], laidTests := true, laidLooks := .later }
def MatchOwnCardSaid : Prop := Claim7.holds Tryd.pinned (.plain (OpenSpec.ofChange matchOwnSpec)) matchOwnCard

/-- THE SECOND FORM's CARD OF 'provostlaw11.MatchLeast'. -/
def matchLeastUptoCard : Claim7 := { stood := { row := matchLeastUptoRow, standIns := [], harness := (true, "b285102e17f63608774194566b2d5c474ebd1b45df0b01bc04de43cbc0deb0d4"), looks := false }, kinds := [], alts := [], laidByText := true, laidKinds := [.data], laidTests := true, laidLooks := .later }
def MatchLeastUptoCardSaid : Prop := Claim7.holds Tryd.pinned (.plain (OpenSpec.upto matchLeastSpec)) matchLeastUptoCard

/-- THE SECOND FORM's CARD OF 'provostlaw11.MatchFree'. -/
def matchFreeUptoCard : Claim7 := { stood := { row := matchFreeUptoRow, standIns := [], harness := (true, "b285102e17f63608774194566b2d5c474ebd1b45df0b01bc04de43cbc0deb0d4"), looks := false }, kinds := [], alts := [], laidByText := true, laidKinds := [.data], laidTests := true, laidLooks := .later }
def MatchFreeUptoCardSaid : Prop := Claim7.holds Tryd.pinned (.plain (OpenSpec.upto matchFreeSpec)) matchFreeUptoCard

/-- THE SECOND FORM's CARD OF 'provostlaw11.MatchCount'. -/
def matchCountUptoCard : Claim7 := { stood := { row := matchCountUptoRow, standIns := [], harness := (true, "b285102e17f63608774194566b2d5c474ebd1b45df0b01bc04de43cbc0deb0d4"), looks := false }, kinds := [], alts := [], laidByText := true, laidKinds := [.data], laidTests := true, laidLooks := .later }
def MatchCountUptoCardSaid : Prop := Claim7.holds Tryd.pinned (.plain (OpenSpec.upto matchCountSpec)) matchCountUptoCard

/-- THE SECOND FORM's CARD OF 'provostlaw11.MatchShort'. -/
def matchShortUptoCard : Claim7 := { stood := { row := matchShortUptoRow, standIns := [], harness := (true, "b285102e17f63608774194566b2d5c474ebd1b45df0b01bc04de43cbc0deb0d4"), looks := false }, kinds := [], alts := [], laidByText := true, laidKinds := [.data], laidTests := true, laidLooks := .later }
def MatchShortUptoCardSaid : Prop := Claim7.holds Tryd.pinned (.plain (OpenSpec.upto matchShortSpec)) matchShortUptoCard

/-- THE SECOND FORM's CARD OF 'provostlaw11.MatchProof'. -/
def matchProofUptoCard : Claim7 := { stood := { row := matchProofUptoRow, standIns := [], harness := (true, "b285102e17f63608774194566b2d5c474ebd1b45df0b01bc04de43cbc0deb0d4"), looks := false }, kinds := [], alts := [], laidByText := true, laidKinds := [.data], laidTests := true, laidLooks := .later }
def MatchProofUptoCardSaid : Prop := Claim7.holds Tryd.pinned (.plain (OpenSpec.upto matchProofSpec)) matchProofUptoCard

/-- THE SECOND FORM's CARD OF 'provostlaw11.MatchOwn'. -/
def matchOwnUptoCard : Claim7 := { stood := { row := matchOwnUptoRow, standIns := [], harness := (true, "b285102e17f63608774194566b2d5c474ebd1b45df0b01bc04de43cbc0deb0d4"), looks := false }, kinds := [], alts := [], laidByText := true, laidKinds := [.data], laidTests := true, laidLooks := .later }
def MatchOwnUptoCardSaid : Prop := Claim7.holds Tryd.pinned (.plain (OpenSpec.upto matchOwnSpec)) matchOwnUptoCard
end Rows
end Go.Proofs.YtpekleeidllllaaDoor
