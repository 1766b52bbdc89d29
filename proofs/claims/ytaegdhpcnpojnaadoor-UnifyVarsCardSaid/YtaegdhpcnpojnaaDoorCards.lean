/-
  DERIVED. GIVEN WITH THE SEED: THE CARDS: each row of YtaegdhpcnpojnaaDoorRows.lean that lists a variable, with what it lists TIED to the program's text (the seventh form; the later family's looks); each row that meets fmt, with fmt's text TOLD by the authors' own Lean function (tested against real Go, not proved from fmt's source: count such statements apart). THE CARD IS WHAT COUNTS. Prove the row's statement (the work); the ties are given (YtaegdhpcnpojnaaDoorTie.lean); close each card by the builder's one call (the guide's Derived/Test/ToyasCard.lean, 'card_holds'). Laid BY PROGRAM, IN A SANDBOX (cutbox-door.mjs). By AI agents, Wed Nov 11 2026. No macro, syntax, notation, axiom, sorry.
-/
import Derived.Test.YtaegdhpcnpojnaaDoorRows
import GoSem.ClaimSeven
namespace Go.Proofs.YtaegdhpcnpojnaaDoor
namespace Rows

/-- THE TIED CARD OF 'quaerelaw4.Unifies'. -/
def unifiesCard : Claim7 := { stood := { row := unifiesRow, standIns := [], harness := (true, "5e9bbc7c803fc5aff52fbe5ac52f55d56f25da203287585da97a1dc10218ff58"), looks := false }, kinds := [], alts := [], laidByText := true, laidKinds := [.data], laidTests := true, laidLooks := .later }
def UnifiesCardSaid : Prop := Claim7.holds Tryd.pinned (.plain (OpenSpec.ofChange unifiesSpec)) unifiesCard

/-- THE TIED CARD OF 'quaerelaw4.UnifyVars'. -/
def unifyVarsCard : Claim7 := { stood := { row := unifyVarsRow, standIns := [], harness := (true, "5e9bbc7c803fc5aff52fbe5ac52f55d56f25da203287585da97a1dc10218ff58"), looks := false }, kinds := [], alts := [], laidByText := true, laidKinds := [.data], laidTests := true, laidLooks := .later }
def UnifyVarsCardSaid : Prop := Claim7.holds Tryd.pinned (.plain (OpenSpec.ofChange unifyVarsSpec)) unifyVarsCard

/-- THE TIED CARD OF 'quaerelaw4.UnifyDeep'. -/
def unifyDeepCard : Claim7 := { stood := { row := unifyDeepRow, standIns := [], harness := (true, "5e9bbc7c803fc5aff52fbe5ac52f55d56f25da203287585da97a1dc10218ff58"), looks := false }, kinds := [], alts := [], laidByText := true, laidKinds := [.data], laidTests := true, laidLooks := .later }
def UnifyDeepCardSaid : Prop := Claim7.holds Tryd.pinned (.plain (OpenSpec.ofChange unifyDeepSpec)) unifyDeepCard

/-- THE TIED CARD OF 'quaerelaw4.UnifySames'. -/
def unifySamesCard : Claim7 := { stood := { row := unifySamesRow, standIns := [], harness := (true, "5e9bbc7c803fc5aff52fbe5ac52f55d56f25da203287585da97a1dc10218ff58"), looks := false }, kinds := [], alts := [], laidByText := true, laidKinds := [.data], laidTests := true, laidLooks := .later }
def UnifySamesCardSaid : Prop := Claim7.holds Tryd.pinned (.plain (OpenSpec.ofChange unifySamesSpec)) unifySamesCard

/-- THE TIED CARD OF 'quaerelaw4.UnifyMade'. -/
def unifyMadeCard : Claim7 := { stood := { row := unifyMadeRow, standIns := [], harness := (true, "5e9bbc7c803fc5aff52fbe5ac52f55d56f25da203287585da97a1dc10218ff58"), looks := false }, kinds := [], alts := [], laidByText := true, laidKinds := [.data], laidTests := true, laidLooks := .later }
def UnifyMadeCardSaid : Prop := Claim7.holds Tryd.pinned (.plain (OpenSpec.ofChange unifyMadeSpec)) unifyMadeCard

/-- THE TIED CARD OF 'quaerelaw4.UnifyAny'. -/
def unifyAnyCard : Claim7 := { stood := { row := unifyAnyRow, standIns := [], harness := (true, "5e9bbc7c803fc5aff52fbe5ac52f55d56f25da203287585da97a1dc10218ff58"), looks := false }, kinds := [], alts := [], laidByText := true, laidKinds := [.data], laidTests := true, laidLooks := .later }
def UnifyAnyCardSaid : Prop := Claim7.holds Tryd.pinned (.plain (OpenSpec.ofChange unifyAnySpec)) unifyAnyCard

/-- THE SECOND FORM's CARD OF 'quaerelaw4.Unifies'. -/
def unifiesUptoCard : Claim7 := { stood := { row := unifiesUptoRow, standIns := [], harness := (true, "5e9bbc7c803fc5aff52fbe5ac52f55d56f25da203287585da97a1dc10218ff58"), looks := false }, kinds := [], alts := [], laidByText := true, laidKinds := [.data], laidTests := true, laidLooks := .later }
def UnifiesUptoCardSaid : Prop := Claim7.holds Tryd.pinned (.plain (OpenSpec.upto unifiesSpec)) unifiesUptoCard

/-- THE SECOND FORM's CARD OF 'quaerelaw4.UnifyVars'. -/
def unifyVarsUptoCard : Claim7 := { stood := { row := unifyVarsUptoRow, standIns := [], harness := (true, "5e9bbc7c803fc5aff52fbe5ac52f55d56f25da203287585da97a1dc10218ff58"), looks := false }, kinds := [], alts := [], laidByText := true, laidKinds := [.data], laidTests := true, laidLooks := .later }
def UnifyVarsUptoCardSaid : Prop := Claim7.holds Tryd.pinned (.plain (OpenSpec.upto unifyVarsSpec)) unifyVarsUptoCard

/-- THE SECOND FORM's CARD OF 'quaerelaw4.UnifyDeep'. -/
def unifyDeepUptoCard : Claim7 := { stood := { row := unifyDeepUptoRow, standIns := [], harness := (true, "5e9bbc7c803fc5aff52fbe5ac52f55d56f25da203287585da97a1dc10218ff58"), looks := false }, kinds := [], alts := [], laidByText := true, laidKinds := [.data], laidTests := true, laidLooks := .later }
def UnifyDeepUptoCardSaid : Prop := Claim7.holds Tryd.pinned (.plain (OpenSpec.upto unifyDeepSpec)) unifyDeepUptoCard

/-- THE SECOND FORM's CARD OF 'quaerelaw4.UnifySames'. -/
def unifySamesUptoCard : Claim7 := { stood := { row := unifySamesUptoRow, standIns := [], harness := (true, "5e9bbc7c803fc5aff52fbe5ac52f55d56f25da203287585da97a1dc10218ff58"), looks := false }, kinds := [], alts := [], laidByText := true, laidKinds := [.data], laidTests := true, laidLooks := .later }
def UnifySamesUptoCardSaid : Prop := Claim7.holds Tryd.pinned (.plain (OpenSpec.upto unifySamesSpec)) unifySamesUptoCard

/-- THE SECOND FORM's CARD OF 'quaerelaw4.UnifyMade'. -/
def unifyMadeUptoCard : Claim7 := { stood := { row := unifyMadeUptoRow, standIns := [], harness := (true, "5e9bbc7c803fc5aff52fbe5ac52f55d56f25da203287585da97a1dc10218ff58"), looks := false }, kinds := [], alts := [], laidByText := true, laidKinds := [.data], laidTests := true, laidLooks := .later }
def UnifyMadeUptoCardSaid : Prop := Claim7.holds Tryd.pinned (.plain (OpenSpec.upto unifyMadeSpec)) unifyMadeUptoCard

/-- THE SECOND FORM's CARD OF 'quaerelaw4.UnifyAny'. -/
def unifyAnyUptoCard : Claim7 := { stood := { row := unifyAnyUptoRow, standIns := [], harness := (true, "5e9bbc7c803fc5aff52fbe5ac52f55d56f25da203287585da97a1dc10218ff58"), looks := false }, kinds := [], alts := [], laidByText := true, laidKinds := [.data], laidTests := true, laidLooks := .later }
def UnifyAnyUptoCardSaid : Prop := Claim7.holds Tryd.pinned (.plain (OpenSpec.upto unifyAnySpec)) unifyAnyUptoCard
end Rows
end Go.Proofs.YtaegdhpcnpojnaaDoor
