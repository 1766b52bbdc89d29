/- The pure statement of PathApart: for every input within the machine's bounds the printed function answers true. -/
import Derived.Test.YteffiodbflmfkaaDoorPPx29
import Derived.Test.YteffiodbflmfkaaDoorWfP
namespace Go.Proofs.YteffiodbflmfkaaDoor.PP
open Go Go.RowKit Go.Proofs.YteffiodbflmfkaaDoorW.PrintWords Go.Proofs.YteffiodbflmfkaaDoorW.PrintLast
def quaerelaw12_PathApart.Pure : Prop := ∀ (l0 : List (S59)) (l1 : List Int) (l2 : List Int), (WfL 40 Wf59) l0 → (WfL 8 WfI) l1 → (WfL 8 WfI) l2 → ∃ k : Nat, quaerelaw12_PathApart.f k l0 l1 l2 = some true
end Go.Proofs.YteffiodbflmfkaaDoor.PP
