/- Unifies answers true for every pair of rows: said in its contract already (Unifies4.lean). No conditions. -/
import Derived.Test.YtaegdhpcnpojnaaDoorWantUnifies
import Derived.Test.YtaegdhpcnpojnaaDoorPUx0
import Derived.Test.YtaegdhpcnpojnaaDoorPUx16
namespace Go.Proofs.YtaegdhpcnpojnaaDoor.PU
open Go Go.RowKit Go.Proofs.YtaegdhpcnpojnaaDoorW.PrintWords Go.Proofs.YtaegdhpcnpojnaaDoorW.PrintLast
theorem quaerelaw4_Unifies.pure : quaerelaw4_Unifies.Pure := by
  intro l a b _ ha hb
  refine ⟨0, ?_⟩
  unfold quaerelaw4_Unifies.f
  rw [if_pos ⟨by have := ha.1; omega, by have := hb.1; omega⟩]
end Go.Proofs.YtaegdhpcnpojnaaDoor.PU
