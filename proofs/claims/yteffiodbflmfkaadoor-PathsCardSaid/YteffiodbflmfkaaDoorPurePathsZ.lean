/- Paths answers true for every signature and every row: said in its contract already (Paths12.lean). No conditions. -/
import Derived.Test.YteffiodbflmfkaaDoorWantPathsZ
import Derived.Test.YteffiodbflmfkaaDoorPPx0
import Derived.Test.YteffiodbflmfkaaDoorPaths12Z
namespace Go.Proofs.YteffiodbflmfkaaDoor.PP
open Go Go.RowKit Go.Proofs.YteffiodbflmfkaaDoorW.PrintWords Go.Proofs.YteffiodbflmfkaaDoorW.PrintLast
theorem quaerelaw12_Paths.pure : quaerelaw12_Paths.Pure := by
  intro l t _ ht
  refine ⟨0, ?_⟩
  unfold quaerelaw12_Paths.f
  rw [if_pos (by have := ht.1; omega)]
end Go.Proofs.YteffiodbflmfkaaDoor.PP
