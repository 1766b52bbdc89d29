/- The pure statement of Signs: for every input within the machine's bounds the printed function answers true. -/
import Derived.Test.YtmgombdimppnpaaDoorPSx6
import Derived.Test.YtmgombdimppnpaaDoorWfS
namespace Go.Proofs.YtmgombdimppnpaaDoor.PS
open Go Go.RowKit Go.Proofs.YtmgombdimppnpaaDoorW.PrintWords Go.Proofs.YtmgombdimppnpaaDoorW.PrintLast
def quaerelaw1_Signs.Pure : Prop := ∀ (l0 : List (S33)) (l1 : ByteArray), (WfL 40 Wf33) l0 → WfS l1 → ∃ k, quaerelaw1_Signs.f k l0 l1 = some true
end Go.Proofs.YtmgombdimppnpaaDoor.PS
