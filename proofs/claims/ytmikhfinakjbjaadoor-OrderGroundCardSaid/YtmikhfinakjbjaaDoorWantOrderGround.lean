/- The pure statement of OrderGround: for every input within the machine's bounds the printed function answers true. -/
import Derived.Test.YtmikhfinakjbjaaDoorPOx18
import Derived.Test.YtmikhfinakjbjaaDoorWfO
namespace Go.Proofs.YtmikhfinakjbjaaDoor.PO
open Go Go.RowKit Go.Proofs.YtmikhfinakjbjaaDoorW.PrintWords Go.Proofs.YtmikhfinakjbjaaDoorW.PrintLast
def quaerelaw6_OrderGround.Pure : Prop := ∀ (l0 : List (S45)) (l1 : List Int) (l2 : List Int), (WfL 40 Wf45) l0 → (WfL 8 WfI) l1 → (WfL 8 WfI) l2 → ∃ k : Nat, quaerelaw6_OrderGround.f k l0 l1 l2 = some true
end Go.Proofs.YtmikhfinakjbjaaDoor.PO
