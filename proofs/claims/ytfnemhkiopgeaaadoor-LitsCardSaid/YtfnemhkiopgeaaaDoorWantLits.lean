/- The pure statement of Lits: for every input within the machine's bounds the printed function answers true. -/
import Derived.Test.YtfnemhkiopgeaaaDoorPKx16
import Derived.Test.YtfnemhkiopgeaaaDoorWfK
namespace Go.Proofs.YtfnemhkiopgeaaaDoor.PK
open Go Go.RowKit Go.Proofs.YtfnemhkiopgeaaaDoorW.PrintWords Go.Proofs.YtfnemhkiopgeaaaDoorW.PrintLast
def quaerelaw7_Lits.Pure : Prop := ∀ (l0 : List (S58)) (l1 : S25) (l2 : S25), (WfL 40 Wf58) l0 → Wf25 l1 → Wf25 l2 → ∃ k : Nat, quaerelaw7_Lits.f k l0 l1.f0 l1.f1 l2.f0 l2.f1 = some true
end Go.Proofs.YtfnemhkiopgeaaaDoor.PK
