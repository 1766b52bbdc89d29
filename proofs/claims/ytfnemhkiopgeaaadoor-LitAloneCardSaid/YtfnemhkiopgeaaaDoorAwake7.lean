/- The seventh package's awake answers true. -/
import Derived.Test.YtfnemhkiopgeaaaDoorLits7
import Derived.Test.YtfnemhkiopgeaaaDoorPKx0
import Derived.Test.YtfnemhkiopgeaaaDoorPKx15
namespace Go.Proofs.YtfnemhkiopgeaaaDoor.PK
open Go Go.RowKit Go.Proofs.YtfnemhkiopgeaaaDoorW.PrintWords Go.Proofs.YtfnemhkiopgeaaaDoorW.PrintLast Go.Proofs.YtfnemhkiopgeaaaDoor
theorem awake7_at : quaerelaw7_awake.f 60 = some true := by kernel_rfl
theorem awake7_ev : Ev (fun k => quaerelaw7_awake.f k) true := Ev.at_ (fun k => quaerelaw7_awake.mono k) 60 awake7_at
end Go.Proofs.YtfnemhkiopgeaaaDoor.PK
