/- Orders answers true for every pair of texts: said in its contract already (Orders6.lean). No conditions. -/
import Derived.Test.YtmikhfinakjbjaaDoorWantOrders
import Derived.Test.YtmikhfinakjbjaaDoorPOx0
import Derived.Test.YtmikhfinakjbjaaDoorPOx15
namespace Go.Proofs.YtmikhfinakjbjaaDoor.PO
open Go Go.RowKit Go.Proofs.YtmikhfinakjbjaaDoorW.PrintWords Go.Proofs.YtmikhfinakjbjaaDoorW.PrintLast
theorem quaerelaw6_Orders.pure : quaerelaw6_Orders.Pure := by
  intro l a b _ ha hb
  refine ⟨0, ?_⟩
  unfold quaerelaw6_Orders.f
  rw [if_pos ⟨by have := ha.1; omega, by have := hb.1; omega⟩]
end Go.Proofs.YtmikhfinakjbjaaDoor.PO
