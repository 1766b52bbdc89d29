/- LitOrder, plainly. -/
import Derived.Test.YtfnemhkiopgeaaaDoorWantLitOrder
import Derived.Test.YtfnemhkiopgeaaaDoorAwake7
import Derived.Test.YtfnemhkiopgeaaaDoorPLx0
import Derived.Test.YtfnemhkiopgeaaaDoorPLx4
import Derived.Test.YtfnemhkiopgeaaaDoorPLx20
namespace Go.Proofs.YtfnemhkiopgeaaaDoor.PL
open Go Go.RowKit Go.Proofs.YtfnemhkiopgeaaaDoorW.PrintWords Go.Proofs.YtfnemhkiopgeaaaDoorW.PrintLast Go.Proofs.YtfnemhkiopgeaaaDoor
set_option linter.unusedVariables false
theorem quaerelaw7_LitOrder.pure : quaerelaw7_LitOrder.Pure := by
  classical
  intro l p q _ _ _
  refine Ev.get (r := true) ?_
  unfold quaerelaw7_LitOrder.f
  simp only [quaerelaw0_Num.f, Option.bind_some]
  obtain ⟨b, x⟩ := p
  obtain ⟨d, y⟩ := q
  refine Ev.bind awake7_ev (Ev.if_pos rfl (Ev.bind (litCompare_ev l b x d y) ?_))
  by_cases h : Atom l x ∧ Atom l y
  · have c1 : LitCompareV l b x d y = (whichL l b x d y, 0) := if_pos h
    have c2 : CompareV l x y = (whichV l x y, 0) := if_pos (.inr h)
    rw [c1]
    refine Ev.if_pos rfl (Ev.bind (compare_ev l x y) ?_)
    rw [c2]
    refine Ev.if_pos rfl ?_
    simp only
    by_cases e : whichV l x y = 1 ∧ b ≠ d
    · by_cases e2 : whichL l b x d y = whichV l x y
      · exact Ev.if_pos e2 (Ev.now _)
      · exact Ev.if_neg e2 (Ev.if_pos e.1 (Ev.some_ (by simpa using e.2)))
    · have : whichL l b x d y = whichV l x y := by unfold whichL; rw [if_neg e]
      exact Ev.if_pos this (Ev.now _)
  · have c1 : LitCompareV l b x d y = (0, 700) := if_neg h
    rw [c1]
    refine Ev.if_neg (by decide) (Ev.if_pos rfl (Ev.bind (litMay_ev l b x) ?_))
    by_cases hx : Atom l x
    · refine Ev.if_pos (by simpa using hx) (Ev.bind (litMay_ev l d y) (Ev.some_ ?_))
      have : ¬ Atom l y := fun k => h ⟨hx, k⟩
      simp [this]
    · exact Ev.if_neg (by simpa using hx) (Ev.now _)
end Go.Proofs.YtfnemhkiopgeaaaDoor.PL
