/- LitAlone, plainly. -/
import Derived.Test.YtfnemhkiopgeaaaDoorWantLitAlone
import Derived.Test.YtfnemhkiopgeaaaDoorAwake7
import Derived.Test.YtfnemhkiopgeaaaDoorPKx0
import Derived.Test.YtfnemhkiopgeaaaDoorPKx4
import Derived.Test.YtfnemhkiopgeaaaDoorPKx17
namespace Go.Proofs.YtfnemhkiopgeaaaDoor.PK
open Go Go.RowKit Go.Proofs.YtfnemhkiopgeaaaDoorW.PrintWords Go.Proofs.YtfnemhkiopgeaaaDoorW.PrintLast Go.Proofs.YtfnemhkiopgeaaaDoor
set_option linter.unusedVariables false
theorem whichL_same (l : List S58) (b : Bool) (x : List Int) : whichL l b x b x = 1 := by
  classical
  unfold whichL
  have e : whichV l x x = 1 := by simp [whichV]
  rw [if_neg (fun h => h.2 rfl), e]
theorem quaerelaw7_LitAlone.pure : quaerelaw7_LitAlone.Pure := by
  classical
  intro l p _ wp
  refine Ev.get (r := true) ?_
  unfold quaerelaw7_LitAlone.f
  obtain ⟨a, x⟩ := p
  simp only [quaerelaw0_Num.f, Option.bind_some]
  refine Ev.bind awake7_ev (Ev.if_pos rfl (Ev.bind (tops_ev l [⟨a, x⟩] (by simp)) (Ev.bind (tops_ev l [⟨a, x⟩, ⟨a, x⟩] (by simp)) (Ev.bind (litMay_ev l a x) ?_))))
  by_cases h : Atom l x
  · have hs : signB l = true := signB_true.2 (text_atom h).1
    have hm : mayL l ⟨a, x⟩ = true := by simpa [mayL] using h
    have hc : cmpL l ⟨a, x⟩ ⟨a, x⟩ = 1 := whichL_same l a x
    have e1 : TopsV l [⟨a, x⟩] = ([0], 0) := by
      unfold TopsV topsV
      rw [if_pos ⟨hs, by simp [hm]⟩]
      simp [topsTo, hc]
    have e2 : TopsV l [⟨a, x⟩, ⟨a, x⟩] = ([0, 1], 0) := by
      unfold TopsV topsV
      rw [if_pos ⟨hs, by simp [hm]⟩]
      simp [topsTo, hc]
    rw [e1, e2]
    exact Ev.if_pos (by simpa using h) (Ev.if_pos rfl (Ev.if_pos rfl (Ev.bind (sameInts_ev _ _ (by decide)) (Ev.if_pos (by decide) (Ev.bind (sameInts_ev _ _ (by decide)) (Ev.now _))))))
  · have hm : mayL l ⟨a, x⟩ = false := by simpa [mayL] using h
    have e1 : TopsV l [⟨a, x⟩] = ([], 700) := by
      unfold TopsV topsV
      rw [if_neg (fun k => by simp [hm] at k)]
    have e2 : TopsV l [⟨a, x⟩, ⟨a, x⟩] = ([], 700) := by
      unfold TopsV topsV
      rw [if_neg (fun k => by simp [hm] at k)]
    rw [e1, e2]
    exact Ev.if_neg (by simpa using h) (Ev.if_pos rfl (Ev.if_pos rfl (Ev.now _)))
end Go.Proofs.YtfnemhkiopgeaaaDoor.PK
