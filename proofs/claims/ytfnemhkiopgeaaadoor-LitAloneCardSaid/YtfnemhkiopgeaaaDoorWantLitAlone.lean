/- The pure statement of LitAlone: for every input within the machine's bounds the printed function answers true. -/
import Derived.Test.YtfnemhkiopgeaaaDoorPKx17
import Derived.Test.YtfnemhkiopgeaaaDoorWfK
namespace Go.Proofs.YtfnemhkiopgeaaaDoor.PK
open Go Go.RowKit Go.Proofs.YtfnemhkiopgeaaaDoorW.PrintWords Go.Proofs.YtfnemhkiopgeaaaDoorW.PrintLast
def quaerelaw7_LitAlone.Pure : Prop := ∀ (l0 : List (S58)) (l1 : S25), (WfL 40 Wf58) l0 → Wf25 l1 → ∃ k : Nat, quaerelaw7_LitAlone.f k l0 l1.f0 l1.f1 = some true
end Go.Proofs.YtfnemhkiopgeaaaDoor.PK
