/- The pure statement of MatchUnify: for every input within the machine's bounds the printed function answers true. -/
import Derived.Test.YtohclkafdphleaaDoorPUx8
import Derived.Test.YtohclkafdphleaaDoorWfU
namespace Go.Proofs.YtohclkafdphleaaDoor.PU
open Go Go.RowKit Go.Proofs.YtohclkafdphleaaDoorW.PrintWords Go.Proofs.YtohclkafdphleaaDoorW.PrintLast
def quaerelaw5_MatchUnify.Pure : Prop := ∀ (l0 : List (S73)) (l1 : List Int) (l2 : List Int), (WfL 40 Wf73) l0 → (WfL 8 WfI) l1 → (WfL 8 WfI) l2 → ∃ k : Nat, quaerelaw5_MatchUnify.f k l0 l1 l2 = some true
end Go.Proofs.YtohclkafdphleaaDoor.PU
