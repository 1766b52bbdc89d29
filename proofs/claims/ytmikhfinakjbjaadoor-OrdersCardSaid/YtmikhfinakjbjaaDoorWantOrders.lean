/- The pure statement of Orders: for every input within the machine's bounds the printed function answers true. -/
import Derived.Test.YtmikhfinakjbjaaDoorPOx15
import Derived.Test.YtmikhfinakjbjaaDoorWfO
namespace Go.Proofs.YtmikhfinakjbjaaDoor.PO
open Go Go.RowKit Go.Proofs.YtmikhfinakjbjaaDoorW.PrintWords Go.Proofs.YtmikhfinakjbjaaDoorW.PrintLast
def quaerelaw6_Orders.Pure : Prop := ∀ (l0 : List (S45)) (l1 : List Int) (l2 : List Int), (WfL 40 Wf45) l0 → (WfL 8 WfI) l1 → (WfL 8 WfI) l2 → ∃ _ : Nat, quaerelaw6_Orders.f l0 l1 l2 = some true
end Go.Proofs.YtmikhfinakjbjaaDoor.PO
