/- The pure statement of UnifyAny: for every input within the machine's bounds the printed function answers true. -/
import Derived.Test.YtaegdhpcnpojnaaDoorPUx25
import Derived.Test.YtaegdhpcnpojnaaDoorWfU
namespace Go.Proofs.YtaegdhpcnpojnaaDoor.PU
open Go Go.RowKit Go.Proofs.YtaegdhpcnpojnaaDoorW.PrintWords Go.Proofs.YtaegdhpcnpojnaaDoorW.PrintLast
def quaerelaw4_UnifyAny.Pure : Prop := ∀ (l0 : List (S66)) (l1 : List (S41)) (l2 : List Int) (l3 : List Int), (WfL 40 Wf66) l0 → (WfL 32 Wf41) l1 → (WfL 8 WfI) l2 → (WfL 8 WfI) l3 → ∃ k : Nat, quaerelaw4_UnifyAny.f k l0 l1 l2 l3 = some true
end Go.Proofs.YtaegdhpcnpojnaaDoor.PU
