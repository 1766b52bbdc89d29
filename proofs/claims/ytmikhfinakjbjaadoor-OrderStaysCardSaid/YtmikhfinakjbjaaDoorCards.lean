/-
  DERIVED. GIVEN WITH THE SEED: THE CARDS: each row of YtmikhfinakjbjaaDoorRows.lean that lists a variable, with what it lists TIED to the program's text (the seventh form; the later family's looks); each row that meets fmt, with fmt's text TOLD by the authors' own Lean function (tested against real Go, not proved from fmt's source: count such statements apart). THE CARD IS WHAT COUNTS. Prove the row's statement (the work); the ties are given (YtmikhfinakjbjaaDoorTie.lean); close each card by the builder's one call (the guide's Derived/Test/ToyasCard.lean, 'card_holds'). Laid BY PROGRAM, IN A SANDBOX (cutbox-door.mjs). By AI agents, Wed Nov 11 2026. No macro, syntax, notation, axiom, sorry.
-/
import Derived.Test.YtmikhfinakjbjaaDoorRows
import GoSem.ClaimSeven
namespace Go.Proofs.YtmikhfinakjbjaaDoor
namespace Rows

/-- THE TIED CARD OF 'quaerelaw6.Orders'. -/
def ordersCard : Claim7 := { stood := { row := ordersRow, standIns := [], harness := (true, "6850bb4caf4dfeef568a4961c961d20f332f8844ea19109e5a51454c7c3ac3ae"), looks := false }, kinds := [], alts := [], laidByText := true, laidKinds := [.data], laidTests := true, laidLooks := .later }
def OrdersCardSaid : Prop := Claim7.holds Tryd.pinned (.plain (OpenSpec.ofChange ordersSpec)) ordersCard

/-- THE TIED CARD OF 'quaerelaw6.OrderTurns'. -/
def orderTurnsCard : Claim7 := { stood := { row := orderTurnsRow, standIns := [], harness := (true, "6850bb4caf4dfeef568a4961c961d20f332f8844ea19109e5a51454c7c3ac3ae"), looks := false }, kinds := [], alts := [], laidByText := true, laidKinds := [.data], laidTests := true, laidLooks := .later }
def OrderTurnsCardSaid : Prop := Claim7.holds Tryd.pinned (.plain (OpenSpec.ofChange orderTurnsSpec)) orderTurnsCard

/-- THE TIED CARD OF 'quaerelaw6.OrderRow'. -/
def orderRowCard : Claim7 := { stood := { row := orderRowRow, standIns := [], harness := (true, "6850bb4caf4dfeef568a4961c961d20f332f8844ea19109e5a51454c7c3ac3ae"), looks := false }, kinds := [], alts := [], laidByText := true, laidKinds := [.data], laidTests := true, laidLooks := .later }
def OrderRowCardSaid : Prop := Claim7.holds Tryd.pinned (.plain (OpenSpec.ofChange orderRowSpec)) orderRowCard

/-- THE TIED CARD OF 'quaerelaw6.OrderGround'. -/
def orderGroundCard : Claim7 := { stood := { row := orderGroundRow, standIns := [], harness := (true, "6850bb4caf4dfeef568a4961c961d20f332f8844ea19109e5a51454c7c3ac3ae"), looks := false }, kinds := [], alts := [], laidByText := true, laidKinds := [.data], laidTests := true, laidLooks := .later }
def OrderGroundCardSaid : Prop := Claim7.holds Tryd.pinned (.plain (OpenSpec.ofChange orderGroundSpec)) orderGroundCard

/-- THE TIED CARD OF 'quaerelaw6.OrderWithin'. -/
def orderWithinCard : Claim7 := { stood := { row := orderWithinRow, standIns := [], harness := (true, "6850bb4caf4dfeef568a4961c961d20f332f8844ea19109e5a51454c7c3ac3ae"), looks := false }, kinds := [], alts := [], laidByText := true, laidKinds := [.data], laidTests := true, laidLooks := .later }
def OrderWithinCardSaid : Prop := Claim7.holds Tryd.pinned (.plain (OpenSpec.ofChange orderWithinSpec)) orderWithinCard

/-- THE TIED CARD OF 'quaerelaw6.OrderStays'. -/
def orderStaysCard : Claim7 := { stood := { row := orderStaysRow, standIns := [], harness := (true, "6850bb4caf4dfeef568a4961c961d20f332f8844ea19109e5a51454c7c3ac3ae"), looks := false }, kinds := [], alts := [], laidByText := true, laidKinds := [.data], laidTests := true, laidLooks := .later }
def OrderStaysCardSaid : Prop := Claim7.holds Tryd.pinned (.plain (OpenSpec.ofChange orderStaysSpec)) orderStaysCard

/-- THE SECOND FORM's CARD OF 'quaerelaw6.Orders'. -/
def ordersUptoCard : Claim7 := { stood := { row := ordersUptoRow, standIns := [], harness := (true, "6850bb4caf4dfeef568a4961c961d20f332f8844ea19109e5a51454c7c3ac3ae"), looks := false }, kinds := [], alts := [], laidByText := true, laidKinds := [.data], laidTests := true, laidLooks := .later }
def OrdersUptoCardSaid : Prop := Claim7.holds Tryd.pinned (.plain (OpenSpec.upto ordersSpec)) ordersUptoCard

/-- THE SECOND FORM's CARD OF 'quaerelaw6.OrderTurns'. -/
def orderTurnsUptoCard : Claim7 := { stood := { row := orderTurnsUptoRow, standIns := [], harness := (true, "6850bb4caf4dfeef568a4961c961d20f332f8844ea19109e5a51454c7c3ac3ae"), looks := false }, kinds := [], alts := [], laidByText := true, laidKinds := [.data], laidTests := true, laidLooks := .later }
def OrderTurnsUptoCardSaid : Prop := Claim7.holds Tryd.pinned (.plain (OpenSpec.upto orderTurnsSpec)) orderTurnsUptoCard

/-- THE SECOND FORM's CARD OF 'quaerelaw6.OrderRow'. -/
def orderRowUptoCard : Claim7 := { stood := { row := orderRowUptoRow, standIns := [], harness := (true, "6850bb4caf4dfeef568a4961c961d20f332f8844ea19109e5a51454c7c3ac3ae"), looks := false }, kinds := [], alts := [], laidByText := true, laidKinds := [.data], laidTests := true, laidLooks := .later }
def OrderRowUptoCardSaid : Prop := Claim7.holds Tryd.pinned (.plain (OpenSpec.upto orderRowSpec)) orderRowUptoCard

/-- THE SECOND FORM's CARD OF 'quaerelaw6.OrderGround'. -/
def orderGroundUptoCard : Claim7 := { stood := { row := orderGroundUptoRow, standIns := [], harness := (true, "6850bb4caf4dfeef568a4961c961d20f332f8844ea19109e5a51454c7c3ac3ae"), looks := false }, kinds := [], alts := [], laidByText := true, laidKinds := [.data], laidTests := true, laidLooks := .later }
def OrderGroundUptoCardSaid : Prop := Claim7.holds Tryd.pinned (.plain (OpenSpec.upto orderGroundSpec)) orderGroundUptoCard

/-- THE SECOND FORM's CARD OF 'quaerelaw6.OrderWithin'. -/
def orderWithinUptoCard : Claim7 := { stood := { row := orderWithinUptoRow, standIns := [], harness := (true, "6850bb4caf4dfeef568a4961c961d20f332f8844ea19109e5a51454c7c3ac3ae"), looks := false }, kinds := [], alts := [], laidByText := true, laidKinds := [.data], laidTests := true, laidLooks := .later }
def OrderWithinUptoCardSaid : Prop := Claim7.holds Tryd.pinned (.plain (OpenSpec.upto orderWithinSpec)) orderWithinUptoCard

/-- THE SECOND FORM's CARD OF 'quaerelaw6.OrderStays'. -/
def orderStaysUptoCard : Claim7 := { stood := { row := orderStaysUptoRow, standIns := [], harness := (true, "6850bb4caf4dfeef568a4961c961d20f332f8844ea19109e5a51454c7c3ac3ae"), looks := false }, kinds := [], alts := [], laidByText := true, laidKinds := [.data], laidTests := true, laidLooks := .later }
def OrderStaysUptoCardSaid : Prop := Claim7.holds Tryd.pinned (.plain (OpenSpec.upto orderStaysSpec)) orderStaysUptoCard
end Rows
end Go.Proofs.YtmikhfinakjbjaaDoor
