/- UnifyVars answers true for every pair of rows: said in its contract already (Vars4.lean). No conditions. -/
import Derived.Test.YtaegdhpcnpojnaaDoorWantUnifyVars
import Derived.Test.YtaegdhpcnpojnaaDoorPUx0
import Derived.Test.YtaegdhpcnpojnaaDoorPUx17
namespace Go.Proofs.YtaegdhpcnpojnaaDoor.PU
open Go Go.RowKit Go.Proofs.YtaegdhpcnpojnaaDoorW.PrintWords Go.Proofs.YtaegdhpcnpojnaaDoorW.PrintLast
theorem quaerelaw4_UnifyVars.pure : quaerelaw4_UnifyVars.Pure := by
  intro a b ha hb
  refine ⟨0, ?_⟩
  unfold quaerelaw4_UnifyVars.f
  rw [if_pos ⟨by have := ha.1; omega, by have := hb.1; omega⟩]
end Go.Proofs.YtaegdhpcnpojnaaDoor.PU
