/- The pure statement of OrderWithin: for every input within the machine's bounds the printed function answers true. -/
import Derived.Test.YtmikhfinakjbjaaDoorPOx19
import Derived.Test.YtmikhfinakjbjaaDoorWfO
namespace Go.Proofs.YtmikhfinakjbjaaDoor.PO
open Go Go.RowKit Go.Proofs.YtmikhfinakjbjaaDoorW.PrintWords Go.Proofs.YtmikhfinakjbjaaDoorW.PrintLast
def quaerelaw6_OrderWithin.Pure : Prop := ∀ (l0 : List Int) (l1 : List Int) (l2 : List Int), (WfL 8 WfI) l0 → (WfL 8 WfI) l1 → (WfL 8 WfI) l2 → ∃ k : Nat, quaerelaw6_OrderWithin.f k l0 l1 l2 = some true
end Go.Proofs.YtmikhfinakjbjaaDoor.PO
