/- The pure statement of Matches: for every input within the machine's bounds the printed function answers true. -/
import Derived.Test.YtohclkafdphleaaDoorPMx11
import Derived.Test.YtohclkafdphleaaDoorWfM
namespace Go.Proofs.YtohclkafdphleaaDoor.PM
open Go Go.RowKit Go.Proofs.YtohclkafdphleaaDoorW.PrintWords Go.Proofs.YtohclkafdphleaaDoorW.PrintLast
def quaerelaw5_Matches.Pure : Prop := ∀ (l0 : List (S73)) (l1 : List Int) (l2 : List Int), (WfL 40 Wf73) l0 → (WfL 8 WfI) l1 → (WfL 8 WfI) l2 → ∃ _ : Nat, quaerelaw5_Matches.f l0 l1 l2 = some true
end Go.Proofs.YtohclkafdphleaaDoor.PM
