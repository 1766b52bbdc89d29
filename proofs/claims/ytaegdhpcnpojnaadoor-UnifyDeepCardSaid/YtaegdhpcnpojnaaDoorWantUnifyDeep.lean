/- The pure statement of UnifyDeep: for every input within the machine's bounds the printed function answers true. -/
import Derived.Test.YtaegdhpcnpojnaaDoorPUx18
import Derived.Test.YtaegdhpcnpojnaaDoorWfU
namespace Go.Proofs.YtaegdhpcnpojnaaDoor.PU
open Go Go.RowKit Go.Proofs.YtaegdhpcnpojnaaDoorW.PrintWords Go.Proofs.YtaegdhpcnpojnaaDoorW.PrintLast
def quaerelaw4_UnifyDeep.Pure : Prop := ∀ (l0 : List (S66)) (l1 : List Int) (l2 : Int), (WfL 40 Wf66) l0 → (WfL 8 WfI) l1 → WfI l2 → ∃ k : Nat, quaerelaw4_UnifyDeep.f k l0 l1 l2 = some true
end Go.Proofs.YtaegdhpcnpojnaaDoor.PU
