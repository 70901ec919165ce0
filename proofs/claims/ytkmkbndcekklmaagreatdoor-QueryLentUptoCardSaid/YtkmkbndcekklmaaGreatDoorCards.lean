/-
  DERIVED. GIVEN WITH THE SEED: THE CARDS: each row of YtkmkbndcekklmaaGreatDoorRows.lean that lists a variable, with what it lists TIED to the program's text (the seventh form; the later family's looks); each row that meets fmt, with fmt's text TOLD by the authors' own Lean function (tested against real Go, not proved from fmt's source: count such statements apart). THE CARD IS WHAT COUNTS. Prove the row's statement (the work); the ties are given (YtkmkbndcekklmaaGreatDoorTie.lean); close each card by the builder's one call (the guide's Derived/Test/ToyasCard.lean, 'card_holds'). Laid BY PROGRAM, IN A SANDBOX (cutbox-door.mjs). By AI agents, Wed Nov 11 2026. No macro, syntax, notation, axiom, sorry.
-/
import Derived.Test.YtkmkbndcekklmaaGreatDoorRows
import GoSem.ClaimSeven
namespace Go.Proofs.YtkmkbndcekklmaaGreatDoor
namespace Rows

/-- THE TIED CARD OF 'stratalaw13.QueryLent'. -/
def queryLentCard : Claim7 := { stood := { row := queryLentRow, standIns := [], harness := (true, "401308f6df3c0d831de263cc914061aa0ab941de62479e95ba803784f0970bc4"), looks := true }, kinds := [], alts := [], laidByText := true, laidKinds := [.data], laidTests := true, laidLooks := .later }
def QueryLentCardSaid : Prop := Claim7.holds Tryz.pinned (.plain (OpenSpec.ofChange queryLentSpec)) queryLentCard

/-- THE TIED CARD OF 'stratalaw13.QueryChecks'. -/
def queryChecksCard : Claim7 := { stood := { row := queryChecksRow, standIns := [], harness := (true, "401308f6df3c0d831de263cc914061aa0ab941de62479e95ba803784f0970bc4"), looks := true }, kinds := [], alts := [], laidByText := true, laidKinds := [.data], laidTests := true, laidLooks := .later }
def QueryChecksCardSaid : Prop := Claim7.holds Tryz.pinned (.plain (OpenSpec.ofChange queryChecksSpec)) queryChecksCard

/-- THE TIED CARD OF 'stratalaw13.QueryWheres'. -/
def queryWheresCard : Claim7 := { stood := { row := queryWheresRow, standIns := [], harness := (true, "401308f6df3c0d831de263cc914061aa0ab941de62479e95ba803784f0970bc4"), looks := true }, kinds := [], alts := [], laidByText := true, laidKinds := [.data], laidTests := true, laidLooks := .later }
def QueryWheresCardSaid : Prop := Claim7.holds Tryz.pinned (.plain (OpenSpec.ofChange queryWheresSpec)) queryWheresCard

/-- THE TIED CARD OF 'stratalaw13.QueryRuns'. -/
def queryRunsCard : Claim7 := { stood := { row := queryRunsRow, standIns := [], harness := (true, "401308f6df3c0d831de263cc914061aa0ab941de62479e95ba803784f0970bc4"), looks := true }, kinds := [], alts := [], laidByText := true, laidKinds := [.data], laidTests := true, laidLooks := .later }
def QueryRunsCardSaid : Prop := Claim7.holds Tryz.pinned (.plain (OpenSpec.ofChange queryRunsSpec)) queryRunsCard

/-- THE TIED CARD OF 'stratalaw13.QueryPages'. -/
def queryPagesCard : Claim7 := { stood := { row := queryPagesRow, standIns := [], harness := (true, "401308f6df3c0d831de263cc914061aa0ab941de62479e95ba803784f0970bc4"), looks := true }, kinds := [], alts := [], laidByText := true, laidKinds := [.data], laidTests := true, laidLooks := .later }
def QueryPagesCardSaid : Prop := Claim7.holds Tryz.pinned (.plain (OpenSpec.ofChange queryPagesSpec)) queryPagesCard

/-- THE TIED CARD OF 'stratalaw13.QueryWhole'. -/
def queryWholeCard : Claim7 := { stood := { row := queryWholeRow, standIns := [], harness := (true, "401308f6df3c0d831de263cc914061aa0ab941de62479e95ba803784f0970bc4"), looks := true }, kinds := [], alts := [], laidByText := true, laidKinds := [.data], laidTests := true, laidLooks := .later }
def QueryWholeCardSaid : Prop := Claim7.holds Tryz.pinned (.plain (OpenSpec.ofChange queryWholeSpec)) queryWholeCard

/-- THE TIED CARD OF 'stratalaw13.QueryBack'. -/
def queryBackCard : Claim7 := { stood := { row := queryBackRow, standIns := [], harness := (true, "401308f6df3c0d831de263cc914061aa0ab941de62479e95ba803784f0970bc4"), looks := true }, kinds := [], alts := [], laidByText := true, laidKinds := [.data], laidTests := true, laidLooks := .later }
def QueryBackCardSaid : Prop := Claim7.holds Tryz.pinned (.plain (OpenSpec.ofChange queryBackSpec)) queryBackCard

/-- THE TIED CARD OF 'stratalaw13.QueryMoves'. -/
def queryMovesCard : Claim7 := { stood := { row := queryMovesRow, standIns := [], harness := (true, "401308f6df3c0d831de263cc914061aa0ab941de62479e95ba803784f0970bc4"), looks := true }, kinds := [], alts := [], laidByText := true, laidKinds := [.data], laidTests := true, laidLooks := .later }
def QueryMovesCardSaid : Prop := Claim7.holds Tryz.pinned (.plain (OpenSpec.ofChange queryMovesSpec)) queryMovesCard

/-- THE TIED CARD OF 'stratalaw13.QueryTokens'. -/
def queryTokensCard : Claim7 := { stood := { row := queryTokensRow, standIns := [], harness := (true, "401308f6df3c0d831de263cc914061aa0ab941de62479e95ba803784f0970bc4"), looks := true }, kinds := [], alts := [], laidByText := true, laidKinds := [.data], laidTests := true, laidLooks := .later }
def QueryTokensCardSaid : Prop := Claim7.holds Tryz.pinned (.plain (OpenSpec.ofChange queryTokensSpec)) queryTokensCard

/-- THE TIED CARD OF 'stratalaw13.QueryOwn'. -/
def queryOwnCard : Claim7 := { stood := { row := queryOwnRow, standIns := [], harness := (true, "401308f6df3c0d831de263cc914061aa0ab941de62479e95ba803784f0970bc4"), looks := true }, kinds := [], alts := [], laidByText := true, laidKinds := [.data], laidTests := true, laidLooks := .later }
def QueryOwnCardSaid : Prop := Claim7.holds Tryz.pinned (.plain (OpenSpec.ofChange queryOwnSpec)) queryOwnCard

/-- THE SECOND FORM's CARD OF 'stratalaw13.QueryLent'. -/
def queryLentUptoCard : Claim7 := { stood := { row := queryLentUptoRow, standIns := [], harness := (true, "401308f6df3c0d831de263cc914061aa0ab941de62479e95ba803784f0970bc4"), looks := true }, kinds := [], alts := [], laidByText := true, laidKinds := [.data], laidTests := true, laidLooks := .later }
def QueryLentUptoCardSaid : Prop := Claim7.holds Tryz.pinned (.plain (OpenSpec.upto queryLentSpec)) queryLentUptoCard

/-- THE SECOND FORM's CARD OF 'stratalaw13.QueryChecks'. -/
def queryChecksUptoCard : Claim7 := { stood := { row := queryChecksUptoRow, standIns := [], harness := (true, "401308f6df3c0d831de263cc914061aa0ab941de62479e95ba803784f0970bc4"), looks := true }, kinds := [], alts := [], laidByText := true, laidKinds := [.data], laidTests := true, laidLooks := .later }
def QueryChecksUptoCardSaid : Prop := Claim7.holds Tryz.pinned (.plain (OpenSpec.upto queryChecksSpec)) queryChecksUptoCard

/-- THE SECOND FORM's CARD OF 'stratalaw13.QueryWheres'. -/
def queryWheresUptoCard : Claim7 := { stood := { row := queryWheresUptoRow, standIns := [], harness := (true, "401308f6df3c0d831de263cc914061aa0ab941de62479e95ba803784f0970bc4"), looks := true }, kinds := [], alts := [], laidByText := true, laidKinds := [.data], laidTests := true, laidLooks := .later }
def QueryWheresUptoCardSaid : Prop := Claim7.holds Tryz.pinned (.plain (OpenSpec.upto queryWheresSpec)) queryWheresUptoCard

/-- THE SECOND FORM's CARD OF 'stratalaw13.QueryRuns'. -/
def queryRunsUptoCard : Claim7 := { stood := { row := queryRunsUptoRow, standIns := [], harness := (true, "401308f6df3c0d831de263cc914061aa0ab941de62479e95ba803784f0970bc4"), looks := true }, kinds := [], alts := [], laidByText := true, laidKinds := [.data], laidTests := true, laidLooks := .later }
def QueryRunsUptoCardSaid : Prop := Claim7.holds Tryz.pinned (.plain (OpenSpec.upto queryRunsSpec)) queryRunsUptoCard

/-- THE SECOND FORM's CARD OF 'stratalaw13.QueryPages'. -/
def queryPagesUptoCard : Claim7 := { stood := { row := queryPagesUptoRow, standIns := [], harness := (true, "401308f6df3c0d831de263cc914061aa0ab941de62479e95ba803784f0970bc4"), looks := true }, kinds := [], alts := [], laidByText := true, laidKinds := [.data], laidTests := true, laidLooks := .later }
def QueryPagesUptoCardSaid : Prop := Claim7.holds Tryz.pinned (.plain (OpenSpec.upto queryPagesSpec)) queryPagesUptoCard

/-- THE SECOND FORM's CARD OF 'stratalaw13.QueryWhole'. -/
def queryWholeUptoCard : Claim7 := { stood := { row := queryWholeUptoRow, standIns := [], harness := (true, "401308f6df3c0d831de263cc914061aa0ab941de62479e95ba803784f0970bc4"), looks := true }, kinds := [], alts := [], laidByText := true, laidKinds := [.data], laidTests := true, laidLooks := .later }
def QueryWholeUptoCardSaid : Prop := Claim7.holds Tryz.pinned (.plain (OpenSpec.upto queryWholeSpec)) queryWholeUptoCard

/-- THE SECOND FORM's CARD OF 'stratalaw13.QueryBack'. -/
def queryBackUptoCard : Claim7 := { stood := { row := queryBackUptoRow, standIns := [], harness := (true, "401308f6df3c0d831de263cc914061aa0ab941de62479e95ba803784f0970bc4"), looks := true }, kinds := [], alts := [], laidByText := true, laidKinds := [.data], laidTests := true, laidLooks := .later }
def QueryBackUptoCardSaid : Prop := Claim7.holds Tryz.pinned (.plain (OpenSpec.upto queryBackSpec)) queryBackUptoCard

/-- THE SECOND FORM's CARD OF 'stratalaw13.QueryMoves'. -/
def queryMovesUptoCard : Claim7 := { stood := { row := queryMovesUptoRow, standIns := [], harness := (true, "401308f6df3c0d831de263cc914061aa0ab941de62479e95ba803784f0970bc4"), looks := true }, kinds := [], alts := [], laidByText := true, laidKinds := [.data], laidTests := true, laidLooks := .later }
def QueryMovesUptoCardSaid : Prop := Claim7.holds Tryz.pinned (.plain (OpenSpec.upto queryMovesSpec)) queryMovesUptoCard

/-- THE SECOND FORM's CARD OF 'stratalaw13.QueryTokens'. -/
def queryTokensUptoCard : Claim7 := { stood := { row := queryTokensUptoRow, standIns := [], harness := (true, "401308f6df3c0d831de263cc914061aa0ab941de62479e95ba803784f0970bc4"), looks := true }, kinds := [], alts := [], laidByText := true, laidKinds := [.data], laidTests := true, laidLooks := .later }
def QueryTokensUptoCardSaid : Prop := Claim7.holds Tryz.pinned (.plain (OpenSpec.upto queryTokensSpec)) queryTokensUptoCard

/-- THE SECOND FORM's CARD OF 'stratalaw13.QueryOwn'. -/
def queryOwnUptoCard : Claim7 := { stood := { row := queryOwnUptoRow, standIns := [], harness := (true, "401308f6df3c0d831de263cc914061aa0ab941de62479e95ba803784f0970bc4"), looks := true }, kinds := [], alts := [], laidByText := true, laidKinds := [.data], laidTests := true, laidLooks := .later }
def QueryOwnUptoCardSaid : Prop := Claim7.holds Tryz.pinned (.plain (OpenSpec.upto queryOwnSpec)) queryOwnUptoCard
end Rows
end Go.Proofs.YtkmkbndcekklmaaGreatDoor
