/-
  DERIVED. GIVEN WITH THE SEED: THE CARDS: each row of YtifnhpmeoogedaaGreatDoorRows.lean that lists a variable, with what it lists TIED to the program's text (the seventh form; the later family's looks); each row that meets fmt, with fmt's text TOLD by the authors' own Lean function (tested against real Go, not proved from fmt's source: count such statements apart). THE CARD IS WHAT COUNTS. Prove the row's statement (the work); the ties are given (YtifnhpmeoogedaaGreatDoorTie.lean); close each card by the builder's one call (the guide's Derived/Test/ToyasCard.lean, 'card_holds'). Laid BY PROGRAM, IN A SANDBOX (cutbox-door.mjs). By AI agents, Wed Nov 11 2026. No macro, syntax, notation, axiom, sorry.
-/
import Derived.Test.YtifnhpmeoogedaaGreatDoorRows
import GoSem.ClaimSeven
namespace Go.Proofs.YtifnhpmeoogedaaGreatDoor
namespace Rows

/-- THE TIED CARD OF 'stratalaw14.OrderWrites'. -/
def orderWritesCard : Claim7 := { stood := { row := orderWritesRow, standIns := [], harness := (true, "87e4e0ee6178386e4e8a14d22efec120e44f57ccc015a9f2d04f25d0d36c886e"), looks := true }, kinds := [], alts := [], laidByText := true, laidKinds := [.data, .data], laidTests := true, laidLooks := .later }
def OrderWritesCardSaid : Prop := Claim7.holds Tryz.pinned (.plain (OpenSpec.ofChange orderWritesSpec)) orderWritesCard

/-- THE TIED CARD OF 'stratalaw14.OrderReads'. -/
def orderReadsCard : Claim7 := { stood := { row := orderReadsRow, standIns := [], harness := (true, "87e4e0ee6178386e4e8a14d22efec120e44f57ccc015a9f2d04f25d0d36c886e"), looks := true }, kinds := [], alts := [], laidByText := true, laidKinds := [.data, .data], laidTests := true, laidLooks := .later }
def OrderReadsCardSaid : Prop := Claim7.holds Tryz.pinned (.plain (OpenSpec.ofChange orderReadsSpec)) orderReadsCard

/-- THE TIED CARD OF 'stratalaw14.OrderSame'. -/
def orderSameCard : Claim7 := { stood := { row := orderSameRow, standIns := [], harness := (true, "87e4e0ee6178386e4e8a14d22efec120e44f57ccc015a9f2d04f25d0d36c886e"), looks := true }, kinds := [], alts := [], laidByText := true, laidKinds := [.data, .data], laidTests := true, laidLooks := .later }
def OrderSameCardSaid : Prop := Claim7.holds Tryz.pinned (.plain (OpenSpec.ofChange orderSameSpec)) orderSameCard

/-- THE TIED CARD OF 'stratalaw14.OrderBack'. -/
def orderBackCard : Claim7 := { stood := { row := orderBackRow, standIns := [], harness := (true, "87e4e0ee6178386e4e8a14d22efec120e44f57ccc015a9f2d04f25d0d36c886e"), looks := true }, kinds := [], alts := [], laidByText := true, laidKinds := [.data, .data], laidTests := true, laidLooks := .later }
def OrderBackCardSaid : Prop := Claim7.holds Tryz.pinned (.plain (OpenSpec.ofChange orderBackSpec)) orderBackCard

/-- THE TIED CARD OF 'stratalaw14.OrderCuts'. -/
def orderCutsCard : Claim7 := { stood := { row := orderCutsRow, standIns := [], harness := (true, "87e4e0ee6178386e4e8a14d22efec120e44f57ccc015a9f2d04f25d0d36c886e"), looks := true }, kinds := [], alts := [], laidByText := true, laidKinds := [.data, .data], laidTests := true, laidLooks := .later }
def OrderCutsCardSaid : Prop := Claim7.holds Tryz.pinned (.plain (OpenSpec.ofChange orderCutsSpec)) orderCutsCard

/-- THE TIED CARD OF 'stratalaw14.OrderReplies'. -/
def orderRepliesCard : Claim7 := { stood := { row := orderRepliesRow, standIns := [], harness := (true, "87e4e0ee6178386e4e8a14d22efec120e44f57ccc015a9f2d04f25d0d36c886e"), looks := true }, kinds := [], alts := [], laidByText := true, laidKinds := [.data, .data], laidTests := true, laidLooks := .later }
def OrderRepliesCardSaid : Prop := Claim7.holds Tryz.pinned (.plain (OpenSpec.ofChange orderRepliesSpec)) orderRepliesCard

/-- THE TIED CARD OF 'stratalaw14.OrderLong'. -/
def orderLongCard : Claim7 := { stood := { row := orderLongRow, standIns := [], harness := (true, "87e4e0ee6178386e4e8a14d22efec120e44f57ccc015a9f2d04f25d0d36c886e"), looks := true }, kinds := [], alts := [], laidByText := true, laidKinds := [.data, .data], laidTests := true, laidLooks := .later }
def OrderLongCardSaid : Prop := Claim7.holds Tryz.pinned (.plain (OpenSpec.ofChange orderLongSpec)) orderLongCard

/-- THE TIED CARD OF 'stratalaw14.OrderAgain'. -/
def orderAgainCard : Claim7 := { stood := { row := orderAgainRow, standIns := [], harness := (true, "87e4e0ee6178386e4e8a14d22efec120e44f57ccc015a9f2d04f25d0d36c886e"), looks := true }, kinds := [], alts := [], laidByText := true, laidKinds := [.data, .data], laidTests := true, laidLooks := .later }
def OrderAgainCardSaid : Prop := Claim7.holds Tryz.pinned (.plain (OpenSpec.ofChange orderAgainSpec)) orderAgainCard

/-- THE TIED CARD OF 'stratalaw14.OrderLent'. -/
def orderLentCard : Claim7 := { stood := { row := orderLentRow, standIns := [], harness := (true, "87e4e0ee6178386e4e8a14d22efec120e44f57ccc015a9f2d04f25d0d36c886e"), looks := true }, kinds := [], alts := [], laidByText := true, laidKinds := [.data, .data], laidTests := true, laidLooks := .later }
def OrderLentCardSaid : Prop := Claim7.holds Tryz.pinned (.plain (OpenSpec.ofChange orderLentSpec)) orderLentCard

/-- THE SECOND FORM's CARD OF 'stratalaw14.OrderWrites'. -/
def orderWritesUptoCard : Claim7 := { stood := { row := orderWritesUptoRow, standIns := [], harness := (true, "87e4e0ee6178386e4e8a14d22efec120e44f57ccc015a9f2d04f25d0d36c886e"), looks := true }, kinds := [], alts := [], laidByText := true, laidKinds := [.data, .data], laidTests := true, laidLooks := .later }
def OrderWritesUptoCardSaid : Prop := Claim7.holds Tryz.pinned (.plain (OpenSpec.upto orderWritesSpec)) orderWritesUptoCard

/-- THE SECOND FORM's CARD OF 'stratalaw14.OrderReads'. -/
def orderReadsUptoCard : Claim7 := { stood := { row := orderReadsUptoRow, standIns := [], harness := (true, "87e4e0ee6178386e4e8a14d22efec120e44f57ccc015a9f2d04f25d0d36c886e"), looks := true }, kinds := [], alts := [], laidByText := true, laidKinds := [.data, .data], laidTests := true, laidLooks := .later }
def OrderReadsUptoCardSaid : Prop := Claim7.holds Tryz.pinned (.plain (OpenSpec.upto orderReadsSpec)) orderReadsUptoCard

/-- THE SECOND FORM's CARD OF 'stratalaw14.OrderSame'. -/
def orderSameUptoCard : Claim7 := { stood := { row := orderSameUptoRow, standIns := [], harness := (true, "87e4e0ee6178386e4e8a14d22efec120e44f57ccc015a9f2d04f25d0d36c886e"), looks := true }, kinds := [], alts := [], laidByText := true, laidKinds := [.data, .data], laidTests := true, laidLooks := .later }
def OrderSameUptoCardSaid : Prop := Claim7.holds Tryz.pinned (.plain (OpenSpec.upto orderSameSpec)) orderSameUptoCard

/-- THE SECOND FORM's CARD OF 'stratalaw14.OrderBack'. -/
def orderBackUptoCard : Claim7 := { stood := { row := orderBackUptoRow, standIns := [], harness := (true, "87e4e0ee6178386e4e8a14d22efec120e44f57ccc015a9f2d04f25d0d36c886e"), looks := true }, kinds := [], alts := [], laidByText := true, laidKinds := [.data, .data], laidTests := true, laidLooks := .later }
def OrderBackUptoCardSaid : Prop := Claim7.holds Tryz.pinned (.plain (OpenSpec.upto orderBackSpec)) orderBackUptoCard

/-- THE SECOND FORM's CARD OF 'stratalaw14.OrderCuts'. -/
def orderCutsUptoCard : Claim7 := { stood := { row := orderCutsUptoRow, standIns := [], harness := (true, "87e4e0ee6178386e4e8a14d22efec120e44f57ccc015a9f2d04f25d0d36c886e"), looks := true }, kinds := [], alts := [], laidByText := true, laidKinds := [.data, .data], laidTests := true, laidLooks := .later }
def OrderCutsUptoCardSaid : Prop := Claim7.holds Tryz.pinned (.plain (OpenSpec.upto orderCutsSpec)) orderCutsUptoCard

/-- THE SECOND FORM's CARD OF 'stratalaw14.OrderReplies'. -/
def orderRepliesUptoCard : Claim7 := { stood := { row := orderRepliesUptoRow, standIns := [], harness := (true, "87e4e0ee6178386e4e8a14d22efec120e44f57ccc015a9f2d04f25d0d36c886e"), looks := true }, kinds := [], alts := [], laidByText := true, laidKinds := [.data, .data], laidTests := true, laidLooks := .later }
def OrderRepliesUptoCardSaid : Prop := Claim7.holds Tryz.pinned (.plain (OpenSpec.upto orderRepliesSpec)) orderRepliesUptoCard

/-- THE SECOND FORM's CARD OF 'stratalaw14.OrderLong'. -/
def orderLongUptoCard : Claim7 := { stood := { row := orderLongUptoRow, standIns := [], harness := (true, "87e4e0ee6178386e4e8a14d22efec120e44f57ccc015a9f2d04f25d0d36c886e"), looks := true }, kinds := [], alts := [], laidByText := true, laidKinds := [.data, .data], laidTests := true, laidLooks := .later }
def OrderLongUptoCardSaid : Prop := Claim7.holds Tryz.pinned (.plain (OpenSpec.upto orderLongSpec)) orderLongUptoCard

/-- THE SECOND FORM's CARD OF 'stratalaw14.OrderAgain'. -/
def orderAgainUptoCard : Claim7 := { stood := { row := orderAgainUptoRow, standIns := [], harness := (true, "87e4e0ee6178386e4e8a14d22efec120e44f57ccc015a9f2d04f25d0d36c886e"), looks := true }, kinds := [], alts := [], laidByText := true, laidKinds := [.data, .data], laidTests := true, laidLooks := .later }
def OrderAgainUptoCardSaid : Prop := Claim7.holds Tryz.pinned (.plain (OpenSpec.upto orderAgainSpec)) orderAgainUptoCard

/-- THE SECOND FORM's CARD OF 'stratalaw14.OrderLent'. -/
def orderLentUptoCard : Claim7 := { stood := { row := orderLentUptoRow, standIns := [], harness := (true, "87e4e0ee6178386e4e8a14d22efec120e44f57ccc015a9f2d04f25d0d36c886e"), looks := true }, kinds := [], alts := [], laidByText := true, laidKinds := [.data, .data], laidTests := true, laidLooks := .later }
def OrderLentUptoCardSaid : Prop := Claim7.holds Tryz.pinned (.plain (OpenSpec.upto orderLentSpec)) orderLentUptoCard
end Rows
end Go.Proofs.YtifnhpmeoogedaaGreatDoor
