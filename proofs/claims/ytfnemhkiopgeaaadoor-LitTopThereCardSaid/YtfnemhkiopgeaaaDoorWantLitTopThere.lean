/- The pure statement of LitTopThere: for every input within the machine's bounds the printed function answers true. -/
import Derived.Test.YtfnemhkiopgeaaaDoorPLx21
import Derived.Test.YtfnemhkiopgeaaaDoorWfL
namespace Go.Proofs.YtfnemhkiopgeaaaDoor.PL
open Go Go.RowKit Go.Proofs.YtfnemhkiopgeaaaDoorW.PrintWords Go.Proofs.YtfnemhkiopgeaaaDoorW.PrintLast
def quaerelaw7_LitTopThere.Pure : Prop := ∀ (l0 : List (S58)) (l1 : List (S25)), (WfL 40 Wf58) l0 → (WfL 32 Wf25) l1 → ∃ k : Nat, quaerelaw7_LitTopThere.f k l0 l1 = some true
end Go.Proofs.YtfnemhkiopgeaaaDoor.PL
