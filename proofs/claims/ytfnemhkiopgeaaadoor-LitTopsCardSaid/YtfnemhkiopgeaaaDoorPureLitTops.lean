/- LitTops, plainly. -/
import Derived.Test.YtfnemhkiopgeaaaDoorWantLitTops
import Derived.Test.YtfnemhkiopgeaaaDoorAwake7
import Derived.Test.YtfnemhkiopgeaaaDoorPLx0
import Derived.Test.YtfnemhkiopgeaaaDoorPLx4
import Derived.Test.YtfnemhkiopgeaaaDoorPLx18
namespace Go.Proofs.YtfnemhkiopgeaaaDoor.PL
open Go Go.RowKit Go.Proofs.YtfnemhkiopgeaaaDoorW.PrintWords Go.Proofs.YtfnemhkiopgeaaaDoorW.PrintLast Go.Proofs.YtfnemhkiopgeaaaDoor
set_option linter.unusedVariables false
theorem topsV_len (b : Bool) (m : S25 → Bool) (c : S25 → S25 → Int) (ls : List S25) : (topsV b m c ls).1.length ≤ ls.length := by
  unfold topsV
  split
  · exact topsTo_len _ ls ls.length
  · exact Nat.zero_le _
theorem quaerelaw7_LitTops.pure : quaerelaw7_LitTops.Pure := by
  classical
  intro l ls _ wl
  refine Ev.get (r := true) ?_
  unfold quaerelaw7_LitTops.f
  simp only [quaerelaw0_Num.f, Option.bind_some]
  by_cases h : (ls.length : Int) > 60
  · exact Ev.if_pos h (Ev.now _)
  · have hx : ∀ x ∈ ls, x.f1.length * 8 ≤ 140737488351232 := fun x hx => ((wl.2 x hx).2).1
    have hlen := topsV_len (signB l) (mayL l) (cmpL l) ls
    refine Ev.if_neg h (Ev.bind (copyLits_ev ls (by omega) (fun x hm => by have := hx x hm; omega)) (Ev.bind (tops_ev l ls (by omega)) (Ev.bind (refTops_ev l ls (by omega)) (Ev.bind (sameInts_ev _ _ (by show (TopsV l ls).1.length ≤ _; unfold TopsV; omega)) ?_))))
    refine Ev.if_pos (by simp) (Ev.if_pos rfl (Ev.bind (sameLits_ev ls (by omega) (fun x hm => by have := hx x hm; omega)) (Ev.if_pos rfl (Ev.bind awake7_ev (Ev.now _)))))
end Go.Proofs.YtfnemhkiopgeaaaDoor.PL
