/- The pure statement of UnifyMade: for every input within the machine's bounds the printed function answers true. -/
import Derived.Test.YtaegdhpcnpojnaaDoorPUx23
import Derived.Test.YtaegdhpcnpojnaaDoorWfU
namespace Go.Proofs.YtaegdhpcnpojnaaDoor.PU
open Go Go.RowKit Go.Proofs.YtaegdhpcnpojnaaDoorW.PrintWords Go.Proofs.YtaegdhpcnpojnaaDoorW.PrintLast
def quaerelaw4_UnifyMade.Pure : Prop := ∀ (l0 : List (S66)) (l1 : List (S41)) (l2 : List Int), (WfL 40 Wf66) l0 → (WfL 32 Wf41) l1 → (WfL 8 WfI) l2 → ∃ k : Nat, quaerelaw4_UnifyMade.f k l0 l1 l2 = some true
end Go.Proofs.YtaegdhpcnpojnaaDoor.PU
