/- The pure statement of SignGrows: for every input within the machine's bounds the printed function answers true. -/
import Derived.Test.YtmgombdimppnpaaDoorPSx7
import Derived.Test.YtmgombdimppnpaaDoorWfS
namespace Go.Proofs.YtmgombdimppnpaaDoor.PS
open Go Go.RowKit Go.Proofs.YtmgombdimppnpaaDoorW.PrintWords Go.Proofs.YtmgombdimppnpaaDoorW.PrintLast
def quaerelaw1_SignGrows.Pure : Prop := ∀ (l0 : List ByteArray) (l1 : List Int), (WfL 16 WfS) l0 → (WfL 8 WfI) l1 → ∃ k, quaerelaw1_SignGrows.f k l0 l1 = some true
end Go.Proofs.YtmgombdimppnpaaDoor.PS
