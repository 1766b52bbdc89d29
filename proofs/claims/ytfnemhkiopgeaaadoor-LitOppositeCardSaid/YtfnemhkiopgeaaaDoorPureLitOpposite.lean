/- LitOpposite, plainly. -/
import Derived.Test.YtfnemhkiopgeaaaDoorWantLitOpposite
import Derived.Test.YtfnemhkiopgeaaaDoorAwake7
import Derived.Test.YtfnemhkiopgeaaaDoorPLx0
import Derived.Test.YtfnemhkiopgeaaaDoorPLx4
import Derived.Test.YtfnemhkiopgeaaaDoorPLx19
namespace Go.Proofs.YtfnemhkiopgeaaaDoor.PL
open Go Go.RowKit Go.Proofs.YtfnemhkiopgeaaaDoorW.PrintWords Go.Proofs.YtfnemhkiopgeaaaDoorW.PrintLast Go.Proofs.YtfnemhkiopgeaaaDoor
set_option linter.unusedVariables false
theorem whichL_flip (l : List S58) (b : Bool) (x : List Int) : whichL l b x (!b) x = if b = true then 2 else 0 := by
  classical
  unfold whichL
  have e : whichV l x x = 1 := by simp [whichV]
  rw [if_pos ⟨e, by cases b <;> simp⟩]
theorem quaerelaw7_LitOpposite.pure : quaerelaw7_LitOpposite.Pure := by
  classical
  intro l p _ _
  refine Ev.get (r := true) ?_
  unfold quaerelaw7_LitOpposite.f
  obtain ⟨b, x⟩ := p
  refine Ev.bind awake7_ev (Ev.if_pos rfl (Ev.bind (litMay_ev l b x) ?_))
  by_cases h : Atom l x
  · have c1 : LitCompareV l b x (!b) x = (if b = true then 2 else 0, 0) := by unfold LitCompareV; rw [if_pos ⟨h, h⟩, whichL_flip]
    have c2 : LitCompareV l (!b) x b x = (if (!b) = true then 2 else 0, 0) := by
      unfold LitCompareV
      have := whichL_flip l (!b) x
      rw [Bool.not_not] at this
      rw [if_pos ⟨h, h⟩, this]
    have cw : LitWeightV l x = (sumV l x, 0) := by unfold LitWeightV; rw [if_pos h]
    refine Ev.if_pos (by simpa using h) (Ev.bind (litCompare_ev l b x (!b) x) (Ev.bind (litCompare_ev l (!b) x b x) (Ev.bind (litWeight_ev l b x) (Ev.bind (litWeight_ev l (!b) x) ?_))))
    rw [c1, c2, cw]
    cases b with
    | true =>
      refine Ev.if_pos rfl (Ev.step (f := fun _ => some true) (fun k => ?_) (Ev.now _))
      simp [quaerelaw7_LitOpposite.j0, quaerelaw0_Num.f, wrap64]
    | false =>
      refine Ev.if_neg (fun h => Bool.false_ne_true h) (Ev.step (f := fun _ => some true) (fun k => ?_) (Ev.now _))
      simp [quaerelaw7_LitOpposite.j0, quaerelaw0_Num.f, wrap64]
  · refine Ev.if_neg (by simpa using h) (Ev.bind (litMay_ev l (!b) x) (Ev.some_ ?_))
    simp [h]
end Go.Proofs.YtfnemhkiopgeaaaDoor.PL
