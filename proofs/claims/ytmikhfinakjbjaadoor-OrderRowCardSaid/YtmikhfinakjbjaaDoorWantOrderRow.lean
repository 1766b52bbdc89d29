/- The pure statement of OrderRow: for every input within the machine's bounds the printed function answers true. -/
import Derived.Test.YtmikhfinakjbjaaDoorPOx17
import Derived.Test.YtmikhfinakjbjaaDoorWfO
namespace Go.Proofs.YtmikhfinakjbjaaDoor.PO
open Go Go.RowKit Go.Proofs.YtmikhfinakjbjaaDoorW.PrintWords Go.Proofs.YtmikhfinakjbjaaDoorW.PrintLast
def quaerelaw6_OrderRow.Pure : Prop := ∀ (l0 : List (S45)) (l1 : List Int) (l2 : List Int) (l3 : List Int), (WfL 40 Wf45) l0 → (WfL 8 WfI) l1 → (WfL 8 WfI) l2 → (WfL 8 WfI) l3 → ∃ k : Nat, quaerelaw6_OrderRow.f k l0 l1 l2 l3 = some true
end Go.Proofs.YtmikhfinakjbjaaDoor.PO
