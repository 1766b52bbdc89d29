/- What stands for variables, put into rows: plainly. -/
import Derived.Test.YtaegdhpcnpojnaaDoorSub
import Derived.Test.YtaegdhpcnpojnaaDoorBinds
namespace Go.Proofs.YtaegdhpcnpojnaaDoor.PU
open Go Go.RowKit Go.Proofs.YtaegdhpcnpojnaaDoorW.PrintWords Go.Proofs.YtaegdhpcnpojnaaDoorW.PrintLast Go.Proofs.YtaegdhpcnpojnaaDoor
set_option linter.unusedVariables false
set_option linter.unusedSimpArgs false
def ofB (s : List S41) (c : Int) : List Int := if bfindV s (-1 - c) = [] then [c] else bfindV s (-1 - c)
theorem onV_sub (s : List S41) (r : List Int) : onV s r = subV (ofB s) r := by
  induction r with
  | nil => rfl
  | cons c r ih => simp only [onV, subV, ih]; rfl
end Go.Proofs.YtaegdhpcnpojnaaDoor.PU
