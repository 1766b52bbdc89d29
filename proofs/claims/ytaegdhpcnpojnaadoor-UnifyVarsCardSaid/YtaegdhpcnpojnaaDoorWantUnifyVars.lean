/- The pure statement of UnifyVars: for every input within the machine's bounds the printed function answers true. -/
import Derived.Test.YtaegdhpcnpojnaaDoorPUx17
import Derived.Test.YtaegdhpcnpojnaaDoorWfU
namespace Go.Proofs.YtaegdhpcnpojnaaDoor.PU
open Go Go.RowKit Go.Proofs.YtaegdhpcnpojnaaDoorW.PrintWords Go.Proofs.YtaegdhpcnpojnaaDoorW.PrintLast
def quaerelaw4_UnifyVars.Pure : Prop := ∀ (l0 : List Int) (l1 : List Int), (WfL 8 WfI) l0 → (WfL 8 WfI) l1 → ∃ _ : Nat, quaerelaw4_UnifyVars.f l0 l1 = some true
end Go.Proofs.YtaegdhpcnpojnaaDoor.PU
