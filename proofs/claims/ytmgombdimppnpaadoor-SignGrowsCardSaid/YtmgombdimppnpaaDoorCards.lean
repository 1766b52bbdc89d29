/-
  DERIVED. GIVEN WITH THE SEED: THE CARDS: each row of YtmgombdimppnpaaDoorRows.lean that lists a variable, with what it lists TIED to the program's text (the seventh form; the later family's looks); each row that meets fmt, with fmt's text TOLD by the authors' own Lean function (tested against real Go, not proved from fmt's source: count such statements apart). THE CARD IS WHAT COUNTS. Prove the row's statement (the work); the ties are given (YtmgombdimppnpaaDoorTie.lean); close each card by the builder's one call (the guide's Derived/Test/ToyasCard.lean, 'card_holds'). Laid BY PROGRAM, IN A SANDBOX (cutbox-door.mjs). By AI agents, Wed Nov 11 2026. No macro, syntax, notation, axiom, sorry.
-/
import Derived.Test.YtmgombdimppnpaaDoorRows
import GoSem.ClaimSeven
namespace Go.Proofs.YtmgombdimppnpaaDoor
namespace Rows

/-- THE TIED CARD OF 'quaerelaw1.Signs'. -/
def signsCard : Claim7 := { stood := { row := signsRow, standIns := [], harness := (true, "955e1f221758b5eb71df16e13a8272501de8cc957f8fdc7227320c0ba4288804"), looks := false }, kinds := [], alts := [], laidByText := true, laidKinds := [.data], laidTests := true, laidLooks := .later }
def SignsCardSaid : Prop := Claim7.holds Tryd.pinned (.plain (OpenSpec.ofChange signsSpec)) signsCard

/-- THE TIED CARD OF 'quaerelaw1.SignAdds'. -/
def signAddsCard : Claim7 := { stood := { row := signAddsRow, standIns := [], harness := (true, "955e1f221758b5eb71df16e13a8272501de8cc957f8fdc7227320c0ba4288804"), looks := false }, kinds := [], alts := [], laidByText := true, laidKinds := [.data], laidTests := true, laidLooks := .later }
def SignAddsCardSaid : Prop := Claim7.holds Tryd.pinned (.plain (OpenSpec.ofChange signAddsSpec)) signAddsCard

/-- THE TIED CARD OF 'quaerelaw1.SignGrows'. -/
def signGrowsCard : Claim7 := { stood := { row := signGrowsRow, standIns := [], harness := (true, "955e1f221758b5eb71df16e13a8272501de8cc957f8fdc7227320c0ba4288804"), looks := false }, kinds := [], alts := [], laidByText := true, laidKinds := [.data], laidTests := true, laidLooks := .later }
def SignGrowsCardSaid : Prop := Claim7.holds Tryd.pinned (.plain (OpenSpec.ofChange signGrowsSpec)) signGrowsCard

/-- THE TIED CARD OF 'quaerelaw1.SignNames'. -/
def signNamesCard : Claim7 := { stood := { row := signNamesRow, standIns := [], harness := (true, "955e1f221758b5eb71df16e13a8272501de8cc957f8fdc7227320c0ba4288804"), looks := false }, kinds := [], alts := [], laidByText := true, laidKinds := [.data], laidTests := true, laidLooks := .later }
def SignNamesCardSaid : Prop := Claim7.holds Tryd.pinned (.plain (OpenSpec.ofChange signNamesSpec)) signNamesCard

/-- THE TIED CARD OF 'quaerelaw1.SignFull'. -/
def signFullCard : Claim7 := { stood := { row := signFullRow, standIns := [], harness := (true, "955e1f221758b5eb71df16e13a8272501de8cc957f8fdc7227320c0ba4288804"), looks := false }, kinds := [], alts := [], laidByText := true, laidKinds := [.data], laidTests := true, laidLooks := .later }
def SignFullCardSaid : Prop := Claim7.holds Tryd.pinned (.plain (OpenSpec.ofChange signFullSpec)) signFullCard

/-- THE SECOND FORM's CARD OF 'quaerelaw1.Signs'. -/
def signsUptoCard : Claim7 := { stood := { row := signsUptoRow, standIns := [], harness := (true, "955e1f221758b5eb71df16e13a8272501de8cc957f8fdc7227320c0ba4288804"), looks := false }, kinds := [], alts := [], laidByText := true, laidKinds := [.data], laidTests := true, laidLooks := .later }
def SignsUptoCardSaid : Prop := Claim7.holds Tryd.pinned (.plain (OpenSpec.upto signsSpec)) signsUptoCard

/-- THE SECOND FORM's CARD OF 'quaerelaw1.SignAdds'. -/
def signAddsUptoCard : Claim7 := { stood := { row := signAddsUptoRow, standIns := [], harness := (true, "955e1f221758b5eb71df16e13a8272501de8cc957f8fdc7227320c0ba4288804"), looks := false }, kinds := [], alts := [], laidByText := true, laidKinds := [.data], laidTests := true, laidLooks := .later }
def SignAddsUptoCardSaid : Prop := Claim7.holds Tryd.pinned (.plain (OpenSpec.upto signAddsSpec)) signAddsUptoCard

/-- THE SECOND FORM's CARD OF 'quaerelaw1.SignGrows'. -/
def signGrowsUptoCard : Claim7 := { stood := { row := signGrowsUptoRow, standIns := [], harness := (true, "955e1f221758b5eb71df16e13a8272501de8cc957f8fdc7227320c0ba4288804"), looks := false }, kinds := [], alts := [], laidByText := true, laidKinds := [.data], laidTests := true, laidLooks := .later }
def SignGrowsUptoCardSaid : Prop := Claim7.holds Tryd.pinned (.plain (OpenSpec.upto signGrowsSpec)) signGrowsUptoCard

/-- THE SECOND FORM's CARD OF 'quaerelaw1.SignNames'. -/
def signNamesUptoCard : Claim7 := { stood := { row := signNamesUptoRow, standIns := [], harness := (true, "955e1f221758b5eb71df16e13a8272501de8cc957f8fdc7227320c0ba4288804"), looks := false }, kinds := [], alts := [], laidByText := true, laidKinds := [.data], laidTests := true, laidLooks := .later }
def SignNamesUptoCardSaid : Prop := Claim7.holds Tryd.pinned (.plain (OpenSpec.upto signNamesSpec)) signNamesUptoCard

/-- THE SECOND FORM's CARD OF 'quaerelaw1.SignFull'. -/
def signFullUptoCard : Claim7 := { stood := { row := signFullUptoRow, standIns := [], harness := (true, "955e1f221758b5eb71df16e13a8272501de8cc957f8fdc7227320c0ba4288804"), looks := false }, kinds := [], alts := [], laidByText := true, laidKinds := [.data], laidTests := true, laidLooks := .later }
def SignFullUptoCardSaid : Prop := Claim7.holds Tryd.pinned (.plain (OpenSpec.upto signFullSpec)) signFullUptoCard
end Rows
end Go.Proofs.YtmgombdimppnpaaDoor
