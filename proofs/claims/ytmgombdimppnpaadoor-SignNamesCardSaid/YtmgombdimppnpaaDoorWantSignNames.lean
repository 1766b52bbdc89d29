/- The pure statement of SignNames: for every input within the machine's bounds the printed function answers true. -/
import Derived.Test.YtmgombdimppnpaaDoorPSx8
import Derived.Test.YtmgombdimppnpaaDoorWfS
namespace Go.Proofs.YtmgombdimppnpaaDoor.PS
open Go Go.RowKit Go.Proofs.YtmgombdimppnpaaDoorW.PrintWords Go.Proofs.YtmgombdimppnpaaDoorW.PrintLast
def quaerelaw1_SignNames.Pure : Prop := ∀ (l0 : ByteArray), WfS l0 → ∃ k, quaerelaw1_SignNames.f k l0 = some true
end Go.Proofs.YtmgombdimppnpaaDoor.PS
