/- The sixth package's awake answers true. -/
import Derived.Test.YtmikhfinakjbjaaDoorKbos
import Derived.Test.YtmikhfinakjbjaaDoorPOx0
import Derived.Test.YtmikhfinakjbjaaDoorPOx14
namespace Go.Proofs.YtmikhfinakjbjaaDoor.PO
open Go Go.RowKit Go.Proofs.YtmikhfinakjbjaaDoorW.PrintWords Go.Proofs.YtmikhfinakjbjaaDoorW.PrintLast Go.Proofs.YtmikhfinakjbjaaDoor
theorem awake_at : quaerelaw6_awake.f 60 = some true := by kernel_rfl
theorem awake_ev : Ev (fun k => quaerelaw6_awake.f k) true := Ev.at_ (fun k => quaerelaw6_awake.mono k) 60 awake_at
end Go.Proofs.YtmikhfinakjbjaaDoor.PO
