/- What stands for variables, put into rows: plainly. -/
import Derived.Test.YteffiodbflmfkaaDoorBits
import Derived.Test.YteffiodbflmfkaaDoorBinds
namespace Go.Proofs.YteffiodbflmfkaaDoor.PP
open Go Go.RowKit Go.Proofs.YteffiodbflmfkaaDoorW.PrintWords Go.Proofs.YteffiodbflmfkaaDoorW.PrintLast Go.Proofs.YteffiodbflmfkaaDoor
set_option linter.unusedVariables false
set_option linter.unusedSimpArgs false
def ofB (s : List S66) (c : Int) : List Int := if bfindV s (-1 - c) = [] then [c] else bfindV s (-1 - c)
theorem onV_sub (s : List S66) (r : List Int) : onV s r = subV (ofB s) r := by
 induction r with
 | nil => rfl
 | cons c r ih => simp only [onV, subV, ih]; rfl
end Go.Proofs.YteffiodbflmfkaaDoor.PP
