/-
  DERIVED. GIVEN WITH THE SEED: THE CARDS: each row of YtfnemhkiopgeaaaDoorRows.lean that lists a variable, with what it lists TIED to the program's text (the seventh form; the later family's looks); each row that meets fmt, with fmt's text TOLD by the authors' own Lean function (tested against real Go, not proved from fmt's source: count such statements apart). THE CARD IS WHAT COUNTS. Prove the row's statement (the work); the ties are given (YtfnemhkiopgeaaaDoorTie.lean); close each card by the builder's one call (the guide's Derived/Test/ToyasCard.lean, 'card_holds'). Laid BY PROGRAM, IN A SANDBOX (cutbox-door.mjs). By AI agents, Wed Nov 11 2026. No macro, syntax, notation, axiom, sorry.
-/
import Derived.Test.YtfnemhkiopgeaaaDoorRows
import GoSem.ClaimSeven
namespace Go.Proofs.YtfnemhkiopgeaaaDoor
namespace Rows

/-- THE TIED CARD OF 'quaerelaw7.Lits'. -/
def litsCard : Claim7 := { stood := { row := litsRow, standIns := [], harness := (true, "00c425bda1d4a7c792d4bf28c38d39bdfcb41235880b774a215157581e38d06a"), looks := false }, kinds := [], alts := [], laidByText := true, laidKinds := [.data], laidTests := true, laidLooks := .later }
def LitsCardSaid : Prop := Claim7.holds Tryd.pinned (.plain (OpenSpec.ofChange litsSpec)) litsCard

/-- THE TIED CARD OF 'quaerelaw7.LitTops'. -/
def litTopsCard : Claim7 := { stood := { row := litTopsRow, standIns := [], harness := (true, "00c425bda1d4a7c792d4bf28c38d39bdfcb41235880b774a215157581e38d06a"), looks := false }, kinds := [], alts := [], laidByText := true, laidKinds := [.data], laidTests := true, laidLooks := .later }
def LitTopsCardSaid : Prop := Claim7.holds Tryd.pinned (.plain (OpenSpec.ofChange litTopsSpec)) litTopsCard

/-- THE TIED CARD OF 'quaerelaw7.LitOpposite'. -/
def litOppositeCard : Claim7 := { stood := { row := litOppositeRow, standIns := [], harness := (true, "00c425bda1d4a7c792d4bf28c38d39bdfcb41235880b774a215157581e38d06a"), looks := false }, kinds := [], alts := [], laidByText := true, laidKinds := [.data], laidTests := true, laidLooks := .later }
def LitOppositeCardSaid : Prop := Claim7.holds Tryd.pinned (.plain (OpenSpec.ofChange litOppositeSpec)) litOppositeCard

/-- THE TIED CARD OF 'quaerelaw7.LitOrder'. -/
def litOrderCard : Claim7 := { stood := { row := litOrderRow, standIns := [], harness := (true, "00c425bda1d4a7c792d4bf28c38d39bdfcb41235880b774a215157581e38d06a"), looks := false }, kinds := [], alts := [], laidByText := true, laidKinds := [.data], laidTests := true, laidLooks := .later }
def LitOrderCardSaid : Prop := Claim7.holds Tryd.pinned (.plain (OpenSpec.ofChange litOrderSpec)) litOrderCard

/-- THE TIED CARD OF 'quaerelaw7.LitTopThere'. -/
def litTopThereCard : Claim7 := { stood := { row := litTopThereRow, standIns := [], harness := (true, "00c425bda1d4a7c792d4bf28c38d39bdfcb41235880b774a215157581e38d06a"), looks := false }, kinds := [], alts := [], laidByText := true, laidKinds := [.data], laidTests := true, laidLooks := .later }
def LitTopThereCardSaid : Prop := Claim7.holds Tryd.pinned (.plain (OpenSpec.ofChange litTopThereSpec)) litTopThereCard

/-- THE TIED CARD OF 'quaerelaw7.LitAlone'. -/
def litAloneCard : Claim7 := { stood := { row := litAloneRow, standIns := [], harness := (true, "00c425bda1d4a7c792d4bf28c38d39bdfcb41235880b774a215157581e38d06a"), looks := false }, kinds := [], alts := [], laidByText := true, laidKinds := [.data], laidTests := true, laidLooks := .later }
def LitAloneCardSaid : Prop := Claim7.holds Tryd.pinned (.plain (OpenSpec.ofChange litAloneSpec)) litAloneCard

/-- THE SECOND FORM's CARD OF 'quaerelaw7.Lits'. -/
def litsUptoCard : Claim7 := { stood := { row := litsUptoRow, standIns := [], harness := (true, "00c425bda1d4a7c792d4bf28c38d39bdfcb41235880b774a215157581e38d06a"), looks := false }, kinds := [], alts := [], laidByText := true, laidKinds := [.data], laidTests := true, laidLooks := .later }
def LitsUptoCardSaid : Prop := Claim7.holds Tryd.pinned (.plain (OpenSpec.upto litsSpec)) litsUptoCard

/-- THE SECOND FORM's CARD OF 'quaerelaw7.LitTops'. -/
def litTopsUptoCard : Claim7 := { stood := { row := litTopsUptoRow, standIns := [], harness := (true, "00c425bda1d4a7c792d4bf28c38d39bdfcb41235880b774a215157581e38d06a"), looks := false }, kinds := [], alts := [], laidByText := true, laidKinds := [.data], laidTests := true, laidLooks := .later }
def LitTopsUptoCardSaid : Prop := Claim7.holds Tryd.pinned (.plain (OpenSpec.upto litTopsSpec)) litTopsUptoCard

/-- THE SECOND FORM's CARD OF 'quaerelaw7.LitOpposite'. -/
def litOppositeUptoCard : Claim7 := { stood := { row := litOppositeUptoRow, standIns := [], harness := (true, "00c425bda1d4a7c792d4bf28c38d39bdfcb41235880b774a215157581e38d06a"), looks := false }, kinds := [], alts := [], laidByText := true, laidKinds := [.data], laidTests := true, laidLooks := .later }
def LitOppositeUptoCardSaid : Prop := Claim7.holds Tryd.pinned (.plain (OpenSpec.upto litOppositeSpec)) litOppositeUptoCard

/-- THE SECOND FORM's CARD OF 'quaerelaw7.LitOrder'. -/
def litOrderUptoCard : Claim7 := { stood := { row := litOrderUptoRow, standIns := [], harness := (true, "00c425bda1d4a7c792d4bf28c38d39bdfcb41235880b774a215157581e38d06a"), looks := false }, kinds := [], alts := [], laidByText := true, laidKinds := [.data], laidTests := true, laidLooks := .later }
def LitOrderUptoCardSaid : Prop := Claim7.holds Tryd.pinned (.plain (OpenSpec.upto litOrderSpec)) litOrderUptoCard

/-- THE SECOND FORM's CARD OF 'quaerelaw7.LitTopThere'. -/
def litTopThereUptoCard : Claim7 := { stood := { row := litTopThereUptoRow, standIns := [], harness := (true, "00c425bda1d4a7c792d4bf28c38d39bdfcb41235880b774a215157581e38d06a"), looks := false }, kinds := [], alts := [], laidByText := true, laidKinds := [.data], laidTests := true, laidLooks := .later }
def LitTopThereUptoCardSaid : Prop := Claim7.holds Tryd.pinned (.plain (OpenSpec.upto litTopThereSpec)) litTopThereUptoCard

/-- THE SECOND FORM's CARD OF 'quaerelaw7.LitAlone'. -/
def litAloneUptoCard : Claim7 := { stood := { row := litAloneUptoRow, standIns := [], harness := (true, "00c425bda1d4a7c792d4bf28c38d39bdfcb41235880b774a215157581e38d06a"), looks := false }, kinds := [], alts := [], laidByText := true, laidKinds := [.data], laidTests := true, laidLooks := .later }
def LitAloneUptoCardSaid : Prop := Claim7.holds Tryd.pinned (.plain (OpenSpec.upto litAloneSpec)) litAloneUptoCard
end Rows
end Go.Proofs.YtfnemhkiopgeaaaDoor
