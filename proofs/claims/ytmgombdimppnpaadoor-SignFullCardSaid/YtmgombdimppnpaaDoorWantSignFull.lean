/- The pure statement of SignFull: for every input within the machine's bounds the printed function answers true. -/
import Derived.Test.YtmgombdimppnpaaDoorPSx8
import Derived.Test.YtmgombdimppnpaaDoorWfS
namespace Go.Proofs.YtmgombdimppnpaaDoor.PS
open Go Go.RowKit Go.Proofs.YtmgombdimppnpaaDoorW.PrintWords Go.Proofs.YtmgombdimppnpaaDoorW.PrintLast
def quaerelaw1_SignFull.Pure : Prop := ∀ (l0 : Int), WfI l0 → ∃ k, quaerelaw1_SignFull.f k l0 = some true
end Go.Proofs.YtmgombdimppnpaaDoor.PS
