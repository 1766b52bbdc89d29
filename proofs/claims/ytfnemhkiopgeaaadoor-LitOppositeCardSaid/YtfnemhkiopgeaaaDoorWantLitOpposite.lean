/- The pure statement of LitOpposite: for every input within the machine's bounds the printed function answers true. -/
import Derived.Test.YtfnemhkiopgeaaaDoorPLx19
import Derived.Test.YtfnemhkiopgeaaaDoorWfL
namespace Go.Proofs.YtfnemhkiopgeaaaDoor.PL
open Go Go.RowKit Go.Proofs.YtfnemhkiopgeaaaDoorW.PrintWords Go.Proofs.YtfnemhkiopgeaaaDoorW.PrintLast
def quaerelaw7_LitOpposite.Pure : Prop := ∀ (l0 : List (S58)) (l1 : S25), (WfL 40 Wf58) l0 → Wf25 l1 → ∃ k : Nat, quaerelaw7_LitOpposite.f k l0 l1.f0 l1.f1 = some true
end Go.Proofs.YtfnemhkiopgeaaaDoor.PL
