/- Matches answers true for every pair of rows: said in its contract already (Matches5.lean). No conditions. -/
import Derived.Test.YtohclkafdphleaaDoorWantMatches
import Derived.Test.YtohclkafdphleaaDoorPMx0
import Derived.Test.YtohclkafdphleaaDoorPMx11
namespace Go.Proofs.YtohclkafdphleaaDoor.PM
open Go Go.RowKit Go.Proofs.YtohclkafdphleaaDoorW.PrintWords Go.Proofs.YtohclkafdphleaaDoorW.PrintLast
theorem quaerelaw5_Matches.pure : quaerelaw5_Matches.Pure := by
  intro l a b _ ha hb
  refine ⟨0, ?_⟩
  unfold quaerelaw5_Matches.f
  rw [if_pos ⟨by have := ha.1; omega, by have := hb.1; omega⟩]
end Go.Proofs.YtohclkafdphleaaDoor.PM
