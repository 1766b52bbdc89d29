/- The pure statement of Paths: for every input within the machine's bounds the printed function answers true. -/
import Derived.Test.YteffiodbflmfkaaDoorPaths12Z
import Derived.Test.YteffiodbflmfkaaDoorWfP
namespace Go.Proofs.YteffiodbflmfkaaDoor.PP
open Go Go.RowKit Go.Proofs.YteffiodbflmfkaaDoorW.PrintWords Go.Proofs.YteffiodbflmfkaaDoorW.PrintLast
def quaerelaw12_Paths.Pure : Prop := ∀ (l0 : List (S59)) (l1 : List Int), (WfL 40 Wf59) l0 → (WfL 8 WfI) l1 → ∃ _ : Nat, quaerelaw12_Paths.f l0 l1 = some true
end Go.Proofs.YteffiodbflmfkaaDoor.PP
