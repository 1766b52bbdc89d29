/- The pure statement of OrderStays: for every input within the machine's bounds the printed function answers true. -/
import Derived.Test.YtmikhfinakjbjaaDoorPOx23
import Derived.Test.YtmikhfinakjbjaaDoorWfO
namespace Go.Proofs.YtmikhfinakjbjaaDoor.PO
open Go Go.RowKit Go.Proofs.YtmikhfinakjbjaaDoorW.PrintWords Go.Proofs.YtmikhfinakjbjaaDoorW.PrintLast
def quaerelaw6_OrderStays.Pure : Prop := ∀ (l0 : List (S45)) (l1 : List (S56)) (l2 : List Int) (l3 : List Int), (WfL 40 Wf45) l0 → (WfL 32 Wf56) l1 → (WfL 8 WfI) l2 → (WfL 8 WfI) l3 → ∃ k : Nat, quaerelaw6_OrderStays.f k l0 l1 l2 l3 = some true
end Go.Proofs.YtmikhfinakjbjaaDoor.PO
