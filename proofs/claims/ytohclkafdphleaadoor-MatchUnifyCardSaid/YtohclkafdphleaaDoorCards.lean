/-
  DERIVED. GIVEN WITH THE SEED: THE CARDS: each row of YtohclkafdphleaaDoorRows.lean that lists a variable, with what it lists TIED to the program's text (the seventh form; the later family's looks); each row that meets fmt, with fmt's text TOLD by the authors' own Lean function (tested against real Go, not proved from fmt's source: count such statements apart). THE CARD IS WHAT COUNTS. Prove the row's statement (the work); the ties are given (YtohclkafdphleaaDoorTie.lean); close each card by the builder's one call (the guide's Derived/Test/ToyasCard.lean, 'card_holds'). Laid BY PROGRAM, IN A SANDBOX (cutbox-door.mjs). By AI agents, Wed Nov 11 2026. No macro, syntax, notation, axiom, sorry.
-/
import Derived.Test.YtohclkafdphleaaDoorRows
import GoSem.ClaimSeven
namespace Go.Proofs.YtohclkafdphleaaDoor
namespace Rows

/-- THE TIED CARD OF 'quaerelaw5.Matches'. -/
def matchesCard : Claim7 := { stood := { row := matchesRow, standIns := [], harness := (true, "e9431dea38c07377b751d9a98d890de0a4fd47981417671fca1c968cfde3d5c2"), looks := false }, kinds := [], alts := [], laidByText := true, laidKinds := [.data], laidTests := true, laidLooks := .later }
def MatchesCardSaid : Prop := Claim7.holds Tryd.pinned (.plain (OpenSpec.ofChange matchesSpec)) matchesCard

/-- THE TIED CARD OF 'quaerelaw5.MatchBoth'. -/
def matchBothCard : Claim7 := { stood := { row := matchBothRow, standIns := [], harness := (true, "e9431dea38c07377b751d9a98d890de0a4fd47981417671fca1c968cfde3d5c2"), looks := false }, kinds := [], alts := [], laidByText := true, laidKinds := [.data], laidTests := true, laidLooks := .later }
def MatchBothCardSaid : Prop := Claim7.holds Tryd.pinned (.plain (OpenSpec.ofChange matchBothSpec)) matchBothCard

/-- THE TIED CARD OF 'quaerelaw5.MatchLess'. -/
def matchLessCard : Claim7 := { stood := { row := matchLessRow, standIns := [], harness := (true, "e9431dea38c07377b751d9a98d890de0a4fd47981417671fca1c968cfde3d5c2"), looks := false }, kinds := [], alts := [], laidByText := true, laidKinds := [.data], laidTests := true, laidLooks := .later }
def MatchLessCardSaid : Prop := Claim7.holds Tryd.pinned (.plain (OpenSpec.ofChange matchLessSpec)) matchLessCard

/-- THE TIED CARD OF 'quaerelaw5.MatchMade'. -/
def matchMadeCard : Claim7 := { stood := { row := matchMadeRow, standIns := [], harness := (true, "e9431dea38c07377b751d9a98d890de0a4fd47981417671fca1c968cfde3d5c2"), looks := false }, kinds := [], alts := [], laidByText := true, laidKinds := [.data], laidTests := true, laidLooks := .later }
def MatchMadeCardSaid : Prop := Claim7.holds Tryd.pinned (.plain (OpenSpec.ofChange matchMadeSpec)) matchMadeCard

/-- THE TIED CARD OF 'quaerelaw5.MatchRow'. -/
def matchRowCard : Claim7 := { stood := { row := matchRowRow, standIns := [], harness := (true, "e9431dea38c07377b751d9a98d890de0a4fd47981417671fca1c968cfde3d5c2"), looks := false }, kinds := [], alts := [], laidByText := true, laidKinds := [.data], laidTests := true, laidLooks := .later }
def MatchRowCardSaid : Prop := Claim7.holds Tryd.pinned (.plain (OpenSpec.ofChange matchRowSpec)) matchRowCard

/-- THE TIED CARD OF 'quaerelaw5.MatchUnify'. -/
def matchUnifyCard : Claim7 := { stood := { row := matchUnifyRow, standIns := [], harness := (true, "e9431dea38c07377b751d9a98d890de0a4fd47981417671fca1c968cfde3d5c2"), looks := false }, kinds := [], alts := [], laidByText := true, laidKinds := [.data], laidTests := true, laidLooks := .later }
def MatchUnifyCardSaid : Prop := Claim7.holds Tryd.pinned (.plain (OpenSpec.ofChange matchUnifySpec)) matchUnifyCard

/-- THE SECOND FORM's CARD OF 'quaerelaw5.Matches'. -/
def matchesUptoCard : Claim7 := { stood := { row := matchesUptoRow, standIns := [], harness := (true, "e9431dea38c07377b751d9a98d890de0a4fd47981417671fca1c968cfde3d5c2"), looks := false }, kinds := [], alts := [], laidByText := true, laidKinds := [.data], laidTests := true, laidLooks := .later }
def MatchesUptoCardSaid : Prop := Claim7.holds Tryd.pinned (.plain (OpenSpec.upto matchesSpec)) matchesUptoCard

/-- THE SECOND FORM's CARD OF 'quaerelaw5.MatchBoth'. -/
def matchBothUptoCard : Claim7 := { stood := { row := matchBothUptoRow, standIns := [], harness := (true, "e9431dea38c07377b751d9a98d890de0a4fd47981417671fca1c968cfde3d5c2"), looks := false }, kinds := [], alts := [], laidByText := true, laidKinds := [.data], laidTests := true, laidLooks := .later }
def MatchBothUptoCardSaid : Prop := Claim7.holds Tryd.pinned (.plain (OpenSpec.upto matchBothSpec)) matchBothUptoCard

/-- THE SECOND FORM's CARD OF 'quaerelaw5.MatchLess'. -/
def matchLessUptoCard : Claim7 := { stood := { row := matchLessUptoRow, standIns := [], harness := (true, "e9431dea38c07377b751d9a98d890de0a4fd47981417671fca1c968cfde3d5c2"), looks := false }, kinds := [], alts := [], laidByText := true, laidKinds := [.data], laidTests := true, laidLooks := .later }
def MatchLessUptoCardSaid : Prop := Claim7.holds Tryd.pinned (.plain (OpenSpec.upto matchLessSpec)) matchLessUptoCard

/-- THE SECOND FORM's CARD OF 'quaerelaw5.MatchMade'. -/
def matchMadeUptoCard : Claim7 := { stood := { row := matchMadeUptoRow, standIns := [], harness := (true, "e9431dea38c07377b751d9a98d890de0a4fd47981417671fca1c968cfde3d5c2"), looks := false }, kinds := [], alts := [], laidByText := true, laidKinds := [.data], laidTests := true, laidLooks := .later }
def MatchMadeUptoCardSaid : Prop := Claim7.holds Tryd.pinned (.plain (OpenSpec.upto matchMadeSpec)) matchMadeUptoCard

/-- THE SECOND FORM's CARD OF 'quaerelaw5.MatchRow'. -/
def matchRowUptoCard : Claim7 := { stood := { row := matchRowUptoRow, standIns := [], harness := (true, "e9431dea38c07377b751d9a98d890de0a4fd47981417671fca1c968cfde3d5c2"), looks := false }, kinds := [], alts := [], laidByText := true, laidKinds := [.data], laidTests := true, laidLooks := .later }
def MatchRowUptoCardSaid : Prop := Claim7.holds Tryd.pinned (.plain (OpenSpec.upto matchRowSpec)) matchRowUptoCard

/-- THE SECOND FORM's CARD OF 'quaerelaw5.MatchUnify'. -/
def matchUnifyUptoCard : Claim7 := { stood := { row := matchUnifyUptoRow, standIns := [], harness := (true, "e9431dea38c07377b751d9a98d890de0a4fd47981417671fca1c968cfde3d5c2"), looks := false }, kinds := [], alts := [], laidByText := true, laidKinds := [.data], laidTests := true, laidLooks := .later }
def MatchUnifyUptoCardSaid : Prop := Claim7.holds Tryd.pinned (.plain (OpenSpec.upto matchUnifySpec)) matchUnifyUptoCard
end Rows
end Go.Proofs.YtohclkafdphleaaDoor
