/-
  DERIVED. GIVEN WITH THE SEED: THE CARDS: each row of YteffiodbflmfkaaDoorRows.lean that lists a variable, with what it lists TIED to the program's text (the seventh form; the later family's looks); each row that meets fmt, with fmt's text TOLD by the authors' own Lean function (tested against real Go, not proved from fmt's source: count such statements apart). THE CARD IS WHAT COUNTS. Prove the row's statement (the work); the ties are given (YteffiodbflmfkaaDoorTie.lean); close each card by the builder's one call (the guide's Derived/Test/ToyasCard.lean, 'card_holds'). Laid BY PROGRAM, IN A SANDBOX (cutbox-door.mjs). By AI agents, Wed Nov 11 2026. No macro, syntax, notation, axiom, sorry.
-/
import Derived.Test.YteffiodbflmfkaaDoorRows
import GoSem.ClaimSeven
namespace Go.Proofs.YteffiodbflmfkaaDoor
namespace Rows

/-- THE TIED CARD OF 'quaerelaw12.Paths'. -/
def pathsCard : Claim7 := { stood := { row := pathsRow, standIns := [], harness := (true, "498787dbbe35fcad6749e93edc8a75fff1132237bb47d7d78c7e27bc8db5fbb3"), looks := false }, kinds := [], alts := [], laidByText := true, laidKinds := [.data], laidTests := true, laidLooks := .later }
def PathsCardSaid : Prop := Claim7.holds Tryd.pinned (.plain (OpenSpec.ofChange pathsSpec)) pathsCard

/-- THE TIED CARD OF 'quaerelaw12.PathFinds'. -/
def pathFindsCard : Claim7 := { stood := { row := pathFindsRow, standIns := [], harness := (true, "498787dbbe35fcad6749e93edc8a75fff1132237bb47d7d78c7e27bc8db5fbb3"), looks := false }, kinds := [], alts := [], laidByText := true, laidKinds := [.data], laidTests := true, laidLooks := .later }
def PathFindsCardSaid : Prop := Claim7.holds Tryd.pinned (.plain (OpenSpec.ofChange pathFindsSpec)) pathFindsCard

/-- THE TIED CARD OF 'quaerelaw12.PathWays'. -/
def pathWaysCard : Claim7 := { stood := { row := pathWaysRow, standIns := [], harness := (true, "498787dbbe35fcad6749e93edc8a75fff1132237bb47d7d78c7e27bc8db5fbb3"), looks := false }, kinds := [], alts := [], laidByText := true, laidKinds := [.data], laidTests := true, laidLooks := .later }
def PathWaysCardSaid : Prop := Claim7.holds Tryd.pinned (.plain (OpenSpec.ofChange pathWaysSpec)) pathWaysCard

/-- THE TIED CARD OF 'quaerelaw12.PathAll'. -/
def pathAllCard : Claim7 := { stood := { row := pathAllRow, standIns := [], harness := (true, "498787dbbe35fcad6749e93edc8a75fff1132237bb47d7d78c7e27bc8db5fbb3"), looks := false }, kinds := [], alts := [], laidByText := true, laidKinds := [.data], laidTests := true, laidLooks := .later }
def PathAllCardSaid : Prop := Claim7.holds Tryd.pinned (.plain (OpenSpec.ofChange pathAllSpec)) pathAllCard

/-- THE TIED CARD OF 'quaerelaw12.PathApart'. -/
def pathApartCard : Claim7 := { stood := { row := pathApartRow, standIns := [], harness := (true, "498787dbbe35fcad6749e93edc8a75fff1132237bb47d7d78c7e27bc8db5fbb3"), looks := false }, kinds := [], alts := [], laidByText := true, laidKinds := [.data], laidTests := true, laidLooks := .later }
def PathApartCardSaid : Prop := Claim7.holds Tryd.pinned (.plain (OpenSpec.ofChange pathApartSpec)) pathApartCard

/-- THE TIED CARD OF 'quaerelaw12.PathMade'. -/
def pathMadeCard : Claim7 := { stood := { row := pathMadeRow, standIns := [], harness := (true, "498787dbbe35fcad6749e93edc8a75fff1132237bb47d7d78c7e27bc8db5fbb3"), looks := false }, kinds := [], alts := [], laidByText := true, laidKinds := [.data], laidTests := true, laidLooks := .later }
def PathMadeCardSaid : Prop := Claim7.holds Tryd.pinned (.plain (OpenSpec.ofChange pathMadeSpec)) pathMadeCard

/-- THE SECOND FORM's CARD OF 'quaerelaw12.Paths'. -/
def pathsUptoCard : Claim7 := { stood := { row := pathsUptoRow, standIns := [], harness := (true, "498787dbbe35fcad6749e93edc8a75fff1132237bb47d7d78c7e27bc8db5fbb3"), looks := false }, kinds := [], alts := [], laidByText := true, laidKinds := [.data], laidTests := true, laidLooks := .later }
def PathsUptoCardSaid : Prop := Claim7.holds Tryd.pinned (.plain (OpenSpec.upto pathsSpec)) pathsUptoCard

/-- THE SECOND FORM's CARD OF 'quaerelaw12.PathFinds'. -/
def pathFindsUptoCard : Claim7 := { stood := { row := pathFindsUptoRow, standIns := [], harness := (true, "498787dbbe35fcad6749e93edc8a75fff1132237bb47d7d78c7e27bc8db5fbb3"), looks := false }, kinds := [], alts := [], laidByText := true, laidKinds := [.data], laidTests := true, laidLooks := .later }
def PathFindsUptoCardSaid : Prop := Claim7.holds Tryd.pinned (.plain (OpenSpec.upto pathFindsSpec)) pathFindsUptoCard

/-- THE SECOND FORM's CARD OF 'quaerelaw12.PathWays'. -/
def pathWaysUptoCard : Claim7 := { stood := { row := pathWaysUptoRow, standIns := [], harness := (true, "498787dbbe35fcad6749e93edc8a75fff1132237bb47d7d78c7e27bc8db5fbb3"), looks := false }, kinds := [], alts := [], laidByText := true, laidKinds := [.data], laidTests := true, laidLooks := .later }
def PathWaysUptoCardSaid : Prop := Claim7.holds Tryd.pinned (.plain (OpenSpec.upto pathWaysSpec)) pathWaysUptoCard

/-- THE SECOND FORM's CARD OF 'quaerelaw12.PathAll'. -/
def pathAllUptoCard : Claim7 := { stood := { row := pathAllUptoRow, standIns := [], harness := (true, "498787dbbe35fcad6749e93edc8a75fff1132237bb47d7d78c7e27bc8db5fbb3"), looks := false }, kinds := [], alts := [], laidByText := true, laidKinds := [.data], laidTests := true, laidLooks := .later }
def PathAllUptoCardSaid : Prop := Claim7.holds Tryd.pinned (.plain (OpenSpec.upto pathAllSpec)) pathAllUptoCard

/-- THE SECOND FORM's CARD OF 'quaerelaw12.PathApart'. -/
def pathApartUptoCard : Claim7 := { stood := { row := pathApartUptoRow, standIns := [], harness := (true, "498787dbbe35fcad6749e93edc8a75fff1132237bb47d7d78c7e27bc8db5fbb3"), looks := false }, kinds := [], alts := [], laidByText := true, laidKinds := [.data], laidTests := true, laidLooks := .later }
def PathApartUptoCardSaid : Prop := Claim7.holds Tryd.pinned (.plain (OpenSpec.upto pathApartSpec)) pathApartUptoCard

/-- THE SECOND FORM's CARD OF 'quaerelaw12.PathMade'. -/
def pathMadeUptoCard : Claim7 := { stood := { row := pathMadeUptoRow, standIns := [], harness := (true, "498787dbbe35fcad6749e93edc8a75fff1132237bb47d7d78c7e27bc8db5fbb3"), looks := false }, kinds := [], alts := [], laidByText := true, laidKinds := [.data], laidTests := true, laidLooks := .later }
def PathMadeUptoCardSaid : Prop := Claim7.holds Tryd.pinned (.plain (OpenSpec.upto pathMadeSpec)) pathMadeUptoCard
end Rows
end Go.Proofs.YteffiodbflmfkaaDoor
