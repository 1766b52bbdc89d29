/- The pure statement of SignAdds: for every input within the machine's bounds the printed function answers true. -/
import Derived.Test.YtmgombdimppnpaaDoorPSx6
import Derived.Test.YtmgombdimppnpaaDoorWfS
namespace Go.Proofs.YtmgombdimppnpaaDoor.PS
open Go Go.RowKit Go.Proofs.YtmgombdimppnpaaDoorW.PrintWords Go.Proofs.YtmgombdimppnpaaDoorW.PrintLast
def quaerelaw1_SignAdds.Pure : Prop := ∀ (l0 : List (S33)) (l1 : S33), (WfL 40 Wf33) l0 → Wf33 l1 → ∃ k, quaerelaw1_SignAdds.f k l0 l1.f0 l1.f1 l1.f2 l1.f3 = some true
end Go.Proofs.YtmgombdimppnpaaDoor.PS
