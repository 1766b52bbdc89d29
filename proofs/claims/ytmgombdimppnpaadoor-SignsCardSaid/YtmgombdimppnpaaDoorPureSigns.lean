/- Signs answers true for every signature and name that can be read: package sign's May and Find are the reference's. No conditions. -/
import Derived.Test.YtmgombdimppnpaaDoorWantSigns
import Derived.Test.YtmgombdimppnpaaDoorSignMore
import Derived.Test.YtmgombdimppnpaaDoorPSx0
import Derived.Test.YtmgombdimppnpaaDoorPSx4
import Derived.Test.YtmgombdimppnpaaDoorPSx6
namespace Go.Proofs.YtmgombdimppnpaaDoor.PS
open Go Go.RowKit Go.Proofs.YtmgombdimppnpaaDoorW.PrintWords Go.Proofs.YtmgombdimppnpaaDoorW.PrintLast Go.Proofs.YtmgombdimppnpaaDoor
theorem quaerelaw1_Signs.pure : quaerelaw1_Signs.Pure := by
  intro l s hl hs
  refine Ev.get (g := fun k => quaerelaw1_Signs.f k l s) ?_
  unfold quaerelaw1_Signs.f
  refine Ev.bind (Find_ev l s) (Ev.bind (ref_Find_ev l s) (Ev.bind (may_ev l) (Ev.bind (ref_may_ev l) ?_)))
  refine Ev.if_pos (by simp) (Ev.if_pos rfl ?_)
  simp only [quaerelaw0_Num.f, Option.bind_some]
  refine Ev.if_pos (by simp) (Ev.bind awake_ev (Ev.now _))
end Go.Proofs.YtmgombdimppnpaaDoor.PS
