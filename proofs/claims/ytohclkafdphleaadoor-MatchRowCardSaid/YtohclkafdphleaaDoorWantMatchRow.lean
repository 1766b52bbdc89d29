/- The pure statement of MatchRow: for every input within the machine's bounds the printed function answers true. -/
import Derived.Test.YtohclkafdphleaaDoorPNx11
import Derived.Test.YtohclkafdphleaaDoorWfN
namespace Go.Proofs.YtohclkafdphleaaDoor.PN
open Go Go.RowKit Go.Proofs.YtohclkafdphleaaDoorW.PrintWords Go.Proofs.YtohclkafdphleaaDoorW.PrintLast
def quaerelaw5_MatchRow.Pure : Prop := ∀ (l0 : List (S73)) (l1 : List (S41)) (l2 : List (S41)) (l3 : List Int), (WfL 40 Wf73) l0 → (WfL 32 Wf41) l1 → (WfL 32 Wf41) l2 → (WfL 8 WfI) l3 → ∃ k : Nat, quaerelaw5_MatchRow.f k l0 l1 l2 l3 = some true
end Go.Proofs.YtohclkafdphleaaDoor.PN
