/- The pure statement of PathMade: for every input within the machine's bounds the printed function answers true. -/
import Derived.Test.YteffiodbflmfkaaDoorPPx33
import Derived.Test.YteffiodbflmfkaaDoorWfP
namespace Go.Proofs.YteffiodbflmfkaaDoor.PP
open Go Go.RowKit Go.Proofs.YteffiodbflmfkaaDoorW.PrintWords Go.Proofs.YteffiodbflmfkaaDoorW.PrintLast
def quaerelaw12_PathMade.Pure : Prop := ∀ (l0 : List (S59)) (l1 : List (S66)) (l2 : List Int), (WfL 40 Wf59) l0 → (WfL 32 Wf66) l1 → (WfL 8 WfI) l2 → ∃ k : Nat, quaerelaw12_PathMade.f k l0 l1 l2 = some true
end Go.Proofs.YteffiodbflmfkaaDoor.PP
