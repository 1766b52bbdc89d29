/- The pure statement of MatchMade: for every input within the machine's bounds the printed function answers true. -/
import Derived.Test.YtohclkafdphleaaDoorPNx10
import Derived.Test.YtohclkafdphleaaDoorWfN
namespace Go.Proofs.YtohclkafdphleaaDoor.PN
open Go Go.RowKit Go.Proofs.YtohclkafdphleaaDoorW.PrintWords Go.Proofs.YtohclkafdphleaaDoorW.PrintLast
def quaerelaw5_MatchMade.Pure : Prop := ∀ (l0 : List (S73)) (l1 : List (S41)) (l2 : List Int), (WfL 40 Wf73) l0 → (WfL 32 Wf41) l1 → (WfL 8 WfI) l2 → ∃ k : Nat, quaerelaw5_MatchMade.f k l0 l1 l2 = some true
end Go.Proofs.YtohclkafdphleaaDoor.PN
